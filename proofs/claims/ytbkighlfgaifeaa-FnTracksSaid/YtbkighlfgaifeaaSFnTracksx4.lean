/- Functions of the law FnTracks, each as a Lean function, and the proofs that the Go code comes to their answers. Made by wip/gen/slim.py. Conditions: those of each theorem. -/
import Derived.Test.YtbkighlfgaifeaaSFnTracksx0
import Derived.Test.YtbkighlfgaifeaaSFnTracksx3
namespace Go.Proofs.Ytbkighlfgaifeaa.QFnTracks
open Go.RowKit Go.Proofs.YtbkighlfgaifeaaW.PrintWords Go.Proofs.YtbkighlfgaifeaaW.PrintLast Go.Proofs.YtbkighlfgaifeaaW.PrintMore
open Go.Proofs.YtbkighlfgaifeaaW.PrintWords renaming pw_below_drewN → pN, below_drew1 → p1, below_alloc → pA
open Go.Proofs.YtbkighlfgaifeaaW.PrintWords.Kd renaming R_alloc → kA, R_drewN → kN, R_drew → kD, Q_alloc → qA, Q_drewN → qN, Q_drew → qD, C_alloc → cA, C_drewN → cN, C_drew → cD
open Go.Proofs.YtbkighlfgaifeaaW.PrintWords.Aside0 renaming mk → aM
open List renaming setIfInBounds_toArray → sI, set_cons_zero → s0, set_cons_succ → sS, map_toArray → mT, length_take → lT, length_drop → lD, map_cons → mC, map_nil → mN
open Option renaming bind_eq_some_iff → oB, bind_some → oS
attribute [local go_sem] max2_int min2_int max_two min_two max_three min_three max_four min_four
set_option linter.unusedVariables false
set_option linter.unusedSimpArgs false
theorem st_in {w0 w : World} {g : Nat} {vS : Value} {code : List Int} {at_ mix : Int} {L : List Sep.Item} (h : Sep.Own w0 w L) (i : Nat) (hi : L[i]? = some (Sep.Item.box g 111 #[vS, .int .i64 at_, .int .u64 mix])) (hS : ∃ A c, vS = .slice A code.length c ∧ Kd.C (Kd.int .u8) w0 A code.length code) : IsS111 w0 w g code at_ mix := by
 obtain ⟨A, c, rfl, hC⟩ := hS
 obtain ⟨P, h1⟩ := h.get i hi
 exact ⟨A, c, h1.2.2, h1.2.1, hC⟩
theorem st_out {w0 w w1 : World} {g : Nat} {cs : Array Value} {code : List Int} {at_ mix : Int} {L : List Sep.Item} (h : Sep.Own w0 w L) (i : Nat) (hi : L[i]? = some (Sep.Item.box g 111 cs)) (hI : IsS111 w0 w1 g code at_ mix) (hB : Below w0.heap.size w0 w1) (hK : KeepBut w w1 g none) :
  ∃ vS : Value, (∃ A c, vS = .slice A code.length c ∧ Kd.C (Kd.int .u8) w0 A code.length code) ∧ Sep.Own w0 w1 (L.set i (Sep.Item.box g 111 #[vS, .int .i64 at_, .int .u64 mix])) := by
 obtain ⟨A, c, hb, hg, hC⟩ := hI
 exact ⟨_, ⟨A, c, rfl, hC⟩, h.put i hi ⟨hB.os.trans h.base.os.symm, hB.tape.trans h.base.tape.symm, hB.output.trans h.base.output.symm, hK.1, fun k hk hn => hK.2 k hk hn (by simp)⟩ hb⟩
def stLen : Value → Nat
 | .slice _ m _ => m
 | _ => 0
def cwLoop (code : List Int) (wide : Int) : Nat → List S32 → Int → Int → Option (List S32 × Int × Int)
 | 0, l, a, m => some (l, a, m)
 | d + 1, l, a, m => (spec_l1Cur_pick.f code a m wide).bind fun b => (spec_l1Cur_pick.f code b.2.1 b.2.2 7).bind fun p => (spec_l1Cur_among.f code p.2.1 p.2.2 [0, 1, 2, 5, p.1]).bind fun q => cwLoop code wide d (l ++ [(⟨b.1, wrap64 (b.1 + q.1)⟩ : S32)]) q.2.1 q.2.2
def cwSw (code : List Int) (l : List S32) (q sw a m : Int) : Option (List S32 × Int × Int) :=
 if sw = 0 then ((spec_l1Cur_among.f code a m [-1, (rd_T32 l q).f1, wrap64 ((rd_T32 l q).f1 + 1)]).bind fun z => some (l.set q.toNat ⟨z.1, (rd_T32 l q).f1⟩, z.2.1, z.2.2))
 else (if sw = 1 then ((spec_l1Cur_among.f code a m [wrap64 ((rd_T32 l q).f0 - 1), 50, 51]).bind fun z => some (l.set q.toNat ⟨(rd_T32 l q).f0, z.1⟩, z.2.1, z.2.2)) else some (l, a, m))
def cwEnd (code : List Int) (n : Int) (l : List S32) (a m : Int) : Option (List S32 × Int × Int) :=
 if 0 < n then ((spec_l1Cur_pick.f code a m n).bind fun q => if 0 ≤ q.1 ∧ q.1 < (l.length : Int) then ((spec_l1Cur_pick.f code q.2.1 q.2.2 24).bind fun sw => cwSw code l q.1 sw.1 sw.2.1 sw.2.2) else none) else some (l, a, m)
def cwBody (code : List Int) (n a m : Int) : Option (List S32 × Int × Int) :=
 (spec_l1Cur_among.f code a m [8, 16, 44]).bind fun wd => if n ≤ 1000 then ((cwLoop code wd.1 n.toNat [] wd.2.1 wd.2.2).bind fun lp => cwEnd code n lp.1 lp.2.1 lp.2.2) else none
def spec_l1Cur_channelWires.f (s0_0 : List Int) (s0_1 : Int) (s0_2 : Int) : Option (List S32 × Int × Int) :=
 (spec_l1Cur_pick.f s0_0 s0_1 s0_2 8).bind fun b1 => (spec_l1Cur_one.f s0_0 b1.2.1 b1.2.2 20).bind fun b2 => if b2.1 = true then ((spec_l1Cur_pick.f s0_0 b2.2.1 b2.2.2 2).bind fun b3 => cwBody s0_0 (wrap64 (20 + b3.1)) b3.2.1 b3.2.2) else cwBody s0_0 b1.1 b2.2.1 b2.2.2
theorem cw_cells {w0 w : World} {L : List Sep.Item} {g n cap e : Nat} {xs : List S32} (h : Sep.Own w0 w L) (i : Nat) (hi : L[i]? = some (Sep.Item.row k32 e (.slice (some ⟨g, 0, none⟩) n cap) xs)) (q : Int) (h0 : 0 ≤ q) (hq : q < (xs.length : Int)) :
  w.cell? ⟨g, q.toNat * 2, none⟩ = some (.int .i64 (rd_T32 xs q).f0) ∧ w.cell? ⟨g, q.toNat * 2 + 1, none⟩ = some (.int .i64 (rd_T32 xs q).f1) := by
 obtain ⟨ce, hK, hc⟩ := h.seg_cells i hi z32 q h0 hq
 obtain rfl := k32_open hK
 exact ⟨hc 0 _ rfl, hc 1 _ rfl⟩
open Go.Proofs.Ytbkighlfgaifeaa.Sep in
set_option maxHeartbeats 16000000 in
set_option maxRecDepth 100000 in
theorem spec_l1Cur_channelWires.calls (g : Nat) (s0_0 : List Int) (s0_1 : Int) (s0_2 : Int) (r1 : List S32) (r2 : Int) (r3 : Int) (w0 w : World) (hI : IsS111 w0 w g s0_0 s0_1 s0_2) (hB : Below w0.heap.size w0 w) (h : spec_l1Cur_channelWires.f s0_0 s0_1 s0_2 = some (r1, r2, r3)) :
  Calls Try.prog 166 #[.pointer (some ⟨g, 0, none⟩)] w fun e w' => ∃ v1_ : Value, e = .returned v1_ ∧ Kd.R k32 32 w' w.heap.size (fun _ => True) v1_ r1 ∧ IsS111 w0 w' g s0_0 r2 r3 ∧ Below w0.heap.size w0 w' ∧ KeepBut w w' g none := by
 obtain ⟨A0, c0, hbx, hge, hC⟩ := hI
 have HG := aM (blk_lt hbx)
 have HGE := aM hge
 obtain ⟨vS_0, hS, ho⟩ : ∃ vS : Value, (∃ A c, vS = .slice A s0_0.length c ∧ Kd.C (Kd.int .u8) w0 A s0_0.length s0_0) ∧ Own w0 w [Sep.Item.box g 111 #[vS, .int .i64 s0_1, .int .u64 s0_2], Sep.Item.kept w g] := ⟨_, ⟨A0, c0, rfl, hC⟩, Sep.own_start hB hge hbx⟩
 have HS_0 := aM hS
 have HO := aM ho
 have HBW := aM hB
 clear hS ho hB hbx hge hC
 unfold spec_l1Cur_channelWires.f at h
 obtain ⟨⟨q9, a9, m9⟩, e9, h_⟩ := oB.mp h
 clear h
 have h := h_
 clear h_
 have HP9 := aM e9
 clear e9
 dsimp only at h
 obtain ⟨⟨q11, a11, m11⟩, e11, h_⟩ := oB.mp h
 clear h
 have h := h_
 clear h_
 have HP11 := aM e11
 clear e11
 dsimp only at h
 have HF := aM h
 clear h
 go_enter Try.func166, Try.ntmps166
 cases q11 with
 | true =>
  have h := HF.out
  clear HF
  rw [if_pos rfl] at h
  obtain ⟨⟨q13, a13, m13⟩, e13, h_⟩ := oB.mp h
  clear h
  have h := h_
  clear h_
  have HP13 := aM e13
  clear e13
  dsimp only at h
  obtain ⟨nn, hnn⟩ : ∃ nn, wrap64 (20 + q13) = nn := ⟨_, rfl⟩
  rw [hnn] at h
  have HNN := aM hnn
  unfold cwBody at h
  obtain ⟨⟨q17, a17, m17⟩, e17, h_⟩ := oB.mp h
  clear h
  have h := h_
  clear h_
  have HP17 := aM e17
  clear e17
  dsimp only at h
  split at h
  ·rename_i hn1
   have HN1 := aM hn1
   clear hn1
   obtain ⟨⟨q18, a18, m18⟩, e18, h_⟩ := oB.mp h
   clear h
   have h := h_
   clear h_
   have HP18 := aM e18
   clear e18
   dsimp only at h
   have HF := aM h
   clear h
   go_wp2_with (first | ((with_reducible refine gate_callee (f := 109) rfl ?_); refine goesL_ (some 9) rfl rfl Try.func109 (by kernel_rfl) rfl #[.pointer (some ⟨g, 0, none⟩), .int .i64 8] rfl zbd_ ?_; (refine (spec_l1Cur_pick.calls g s0_0 s0_1 s0_2 8 q9 a9 m9 w0 _ (st_in HO.out 0 rfl HS_0.out) HO.out.base HP9.out).mono ?_); rintro e w_1 ⟨rfl, hI, hB, hK⟩; refine ⟨_, rfl, ?_⟩; obtain ⟨vS_9, hS, ho⟩ := st_out HO.out 0 rfl hI hB hK; have HS_9 := aM hS; have HO_1 := aM ho; clear hI hB hK hS ho) | ((with_reducible refine gate_callee (f := 139) rfl ?_); refine goesL_ (some 11) rfl rfl Try.func139 (by kernel_rfl) rfl #[.pointer (some ⟨g, 0, none⟩), .int .i64 20] rfl zbd_ ?_; (refine (spec_l1Cur_one.calls g s0_0 a9 m9 20 true a11 m11 w0 _ (st_in HO_1.out 0 rfl HS_9.out) HO_1.out.base HP11.out).mono ?_); rintro e w_2 ⟨rfl, hI, hB, hK⟩; refine ⟨_, rfl, ?_⟩; obtain ⟨vS_11, hS, ho⟩ := st_out HO_1.out 0 rfl hI hB hK; have HS_11 := aM hS; have HO_2 := aM ho; clear hI hB hK hS ho) | ((with_reducible refine gate_callee (f := 109) rfl ?_); refine goesL_ (some 13) rfl rfl Try.func109 (by kernel_rfl) rfl #[.pointer (some ⟨g, 0, none⟩), .int .i64 2] rfl zbd_ ?_; (refine (spec_l1Cur_pick.calls g s0_0 a11 m11 2 q13 a13 m13 w0 _ (st_in HO_2.out 0 rfl HS_11.out) HO_2.out.base HP13.out).mono ?_); rintro e w_3 ⟨rfl, hI, hB, hK⟩; refine ⟨_, rfl, ?_⟩; obtain ⟨vS_13, hS, ho⟩ := st_out HO_2.out 0 rfl hI hB hK; have HS_13 := aM hS; have HO_3 := aM ho; clear hI hB hK hS ho) | ((with_reducible refine gate_dst (N := 16) rfl ?_); refine Sep.own_litN (Value.int .i64) (h1 := fun _ => rfl) HO_3.out 3 [8, 16, 44] 3 rfl [.int .i64 8, .int .i64 16, .int .i64 44] rfl (by decide) ?hg (N := 16) ?hd ?hr ?_; (case hd => rfl); (case hg => rfl); (case hr => exact zf_); intro x_16 w_4 ho _; obtain ⟨g_16, n_16, c_16, hn_, rfl⟩ := Sep.own_row_fseal ho 0 rfl (by simp); obtain rfl : n_16 = 3 := hn_; have HO_4 := aM ho; clear ho) | ((with_reducible refine gate_callee (f := 110) rfl ?_); refine goesL_ (some 17) rfl rfl Try.func110 (by kernel_rfl) rfl #[.pointer (some ⟨g, 0, none⟩), .slice ((some ⟨g_16, 0, none⟩)) 3 c_16] rfl zbd_ ?_; (refine (spec_l1Cur_among.calls g s0_0 a13 m13 ((some ⟨g_16, 0, none⟩)) c_16 ([8, 16, 44]) q17 a17 m17 w0 _ (st_in HO_4.out 1 rfl HS_13.out) HO_4.out.base (by exact (HO_4.out.row_reads 0 rfl).2.2) (by exact (HO_4.out.row_reads 0 rfl).2.1) (fun ad he _ => by injection he with he; subst he; exact HO_4.out.row_ne_box 0 1 (by decide) rfl rfl) HP17.out).mono ?_); rintro e w_5 ⟨rfl, hI, hB, hK⟩; refine ⟨_, rfl, ?_⟩; obtain ⟨vS_17, hS, ho⟩ := st_out HO_4.out 1 rfl hI hB hK; have HS_17 := aM hS; have HO_5 := aM ho; clear hI hB hK hS ho))
   (try simp only [Act.put, sI, s0, sS])
   go_loopw [3] (fun v3 wr => ∃ (l : List S32) (at_ mx_ : Int) (vS_ : Value) (A_ : Option Addr) (m_ c_ : Nat), v3 = .slice A_ m_ c_ ∧ Aside0 (cwLoop s0_0 q17 (nn.toNat - l.length) l at_ mx_ = some (q18, a18, m18)) ∧ Aside0 (m_ = l.length ∧ l.length ≤ nn.toNat) ∧ Aside0 (∃ A c, vS_ = .slice A s0_0.length c ∧ Kd.C (Kd.int .u8) w0 A s0_0.length s0_0) ∧ Aside0 (Own w0 wr (Item.row k32 32 (.slice A_ m_ c_) (l) :: Item.box g 111 #[vS_, .int .i64 at_, .int .u64 mx_] :: [Sep.Item.kept w g]))) (fun v3 _ => nn.toNat - stLen v3)
   case atStart => exact ⟨[], a17, m17, vS_17, _, _, _, rfl, HP18, ⟨rfl, by simp⟩, HS_17, ⟨((((HO_5.out.nilrow k32 32).front 2 rfl).front 1 rfl).front 2 rfl).tail⟩⟩
   case round =>
    obtain ⟨l, at_, mx_, vS_, A_, m_, c_, rfl, HL, HM, HS_, HO⟩ := hrel
    clear HO_5
    by_cases c1 : (m_ : Int) < nn
    ·have c1b := decide_eq_true c1
     have hl := HL.out
     obtain ⟨d, hd⟩ : ∃ d, nn.toNat - l.length = d + 1 := ⟨nn.toNat - l.length - 1, by have := HM.out; omega⟩
     rw [hd, cwLoop] at hl
     have HD := aM hd
     clear hd
     obtain ⟨⟨q24, a24, m24⟩, e24, h_⟩ := oB.mp hl
     clear hl
     have hl := h_
     clear h_
     have HP24 := aM e24
     clear e24
     dsimp only at hl
     obtain ⟨⟨q30, a30, m30⟩, e30, h_⟩ := oB.mp hl
     clear hl
     have hl := h_
     clear h_
     have HP30 := aM e30
     clear e30
     dsimp only at hl
     obtain ⟨⟨q32, a32, m32⟩, e32, h_⟩ := oB.mp hl
     clear hl
     have hl := h_
     clear h_
     have HP32 := aM e32
     clear e32
     dsimp only at hl
     have HL2 := aM hl
     clear hl HL
     go_wp2_with (first | ((with_reducible refine gate_callee (f := 109) rfl ?_); refine goesL_ (some 24) rfl rfl Try.func109 (by kernel_rfl) rfl #[.pointer (some ⟨g, 0, none⟩), .int .i64 q17] rfl zbd_ ?_; (refine (spec_l1Cur_pick.calls g s0_0 at_ mx_ q17 q24 a24 m24 w0 _ (st_in HO.out 1 rfl HS_.out) HO.out.base HP24.out).mono ?_); rintro e w_1 ⟨rfl, hI, hB, hK⟩; refine ⟨_, rfl, ?_⟩; obtain ⟨vS_24, hS, ho⟩ := st_out HO.out 1 rfl hI hB hK; have HS_24 := aM hS; have HO_1 := aM ho; clear hI hB hK hS ho) | ((with_reducible refine gate_callee (f := 109) rfl ?_); refine goesL_ (some 30) rfl rfl Try.func109 (by kernel_rfl) rfl #[.pointer (some ⟨g, 0, none⟩), .int .i64 7] rfl zbd_ ?_; (refine (spec_l1Cur_pick.calls g s0_0 a24 m24 7 q30 a30 m30 w0 _ (st_in HO_1.out 1 rfl HS_24.out) HO_1.out.base HP30.out).mono ?_); rintro e w_2 ⟨rfl, hI, hB, hK⟩; refine ⟨_, rfl, ?_⟩; obtain ⟨vS_30, hS, ho⟩ := st_out HO_1.out 1 rfl hI hB hK; have HS_30 := aM hS; have HO_2 := aM ho; clear hI hB hK hS ho) | ((with_reducible refine gate_dst (N := 31) rfl ?_); refine Sep.own_litN (Value.int .i64) (h1 := fun _ => rfl) HO_2.out 3 [0, 1, 2, 5, q30] 5 rfl [.int .i64 0, .int .i64 1, .int .i64 2, .int .i64 5, .int .i64 q30] rfl (by decide) ?hg (N := 31) ?hd ?hr ?_; (case hd => rfl); (case hg => rfl); (case hr => exact zf_); intro x_31 w_3 ho _; obtain ⟨g_31, n_31, c_31, hn_, rfl⟩ := Sep.own_row_fseal ho 0 rfl (by simp); obtain rfl : n_31 = 5 := hn_; have HO_3 := aM ho; clear ho) | ((with_reducible refine gate_callee (f := 110) rfl ?_); refine goesL_ (some 32) rfl rfl Try.func110 (by kernel_rfl) rfl #[.pointer (some ⟨g, 0, none⟩), .slice ((some ⟨g_31, 0, none⟩)) 5 c_31] rfl zbd_ ?_; (refine (spec_l1Cur_among.calls g s0_0 a30 m30 ((some ⟨g_31, 0, none⟩)) c_31 ([0, 1, 2, 5, q30]) q32 a32 m32 w0 _ (st_in HO_3.out 2 rfl HS_30.out) HO_3.out.base zdf_ zdg_ (fun ad he _ => by injection he with he; subst he; exact HO_3.out.row_ne_box 0 2 (by decide) rfl rfl) HP32.out).mono ?_); rintro e w_4 ⟨rfl, hI, hB, hK⟩; refine ⟨_, rfl, ?_⟩; obtain ⟨vS_32, hS, ho⟩ := st_out HO_3.out 2 rfl hI hB hK; have HS_32 := aM hS; have HO_4 := aM ho; clear hI hB hK hS ho) | ((with_reducible refine gate_dst (N := 36) rfl ?_); at_builtin; refine Sep.own_append k32 HO_4.out 1 _ (l) 32 rfl rfl (.tmp 25) (.tmp 35) 23 (.agg #[.int .i64 0, .int .i64 0]) 16 rfl Try.underlying23 info32 rfl (by decide) (by omega) ((⟨q24, wrap64 (q24 + q32)⟩ : S32)) [.int .i64 q24, .int .i64 (wrap64 (q24 + q32))] rfl rfl (k32_mkM _ _ _ _) (by have := HM.out; have := HN1.out; omega) ?_; intro x_36 w_6 ho; have HO_6 := aM ho; clear ho))
     obtain ⟨A_36, n_36, c_36, hn_, rfl⟩ := HO_6.out.row_seal 1 rfl
     have HN_36 := aM hn_
     clear hn_
     go_roundw
     case measure => simp only [stLen]; have e1 := HN_36.out; have e2 := HM.out; rw [List.length_append, List.length_singleton] at e1; omega
     case rel => exact ⟨l ++ [(⟨q24, wrap64 (q24 + q32)⟩ : S32)], a32, m32, vS_32, _, _, _, rfl, ⟨by have e := HL2.out; rw [show nn.toNat - (l ++ [(⟨q24, wrap64 (q24 + q32)⟩ : S32)]).length = d from by rw [List.length_append, List.length_singleton]; have := HD.out; omega]; exact e⟩, ⟨HN_36.out, by rw [List.length_append, List.length_singleton]; have := HD.out; omega⟩, HS_32, ⟨(((HO_6.out.front 2 rfl).front 2 rfl).front 2 rfl).tail⟩⟩
    ·have c1b := decide_eq_false c1
     have hl := HL.out
     rw [show nn.toNat - l.length = 0 from by have := HM.out; omega, cwLoop] at hl
     injection hl with hl
     injection hl with e1 e2
     injection e2 with e2 e3
     subst e1
     subst e2
     subst e3
     have h := HF.out
     clear HF HL
     unfold cwEnd at h
     by_cases c2 : 0 < nn
     ·have c2b : decide (0 < nn) = true := decide_eq_true c2
      rw [if_pos c2] at h
      obtain ⟨⟨q42, a42, m42⟩, e42, h_⟩ := oB.mp h
      clear h
      have h := h_
      clear h_
      have HP42 := aM e42
      clear e42
      dsimp only at h
      split at h
      ·rename_i hq
       obtain ⟨hq0, hq1⟩ := hq
       obtain ⟨⟨q45, a45, m45⟩, e45, h_⟩ := oB.mp h
       clear h
       have h := h_
       clear h_
       have HP45 := aM e45
       clear e45
       dsimp only at h
       have p42 : (0 ≤ q42) = True := eq_true hq0
       have hm_ := HM.out.1
       have hq2 : q42 < (m_ : Int) := by omega
       have q42b : (q42 < (m_ : Int)) = True := eq_true hq2
       obtain ⟨gl, c3_, hv3⟩ := Sep.own_row_form HO.out 0 rfl (by omega)
       injection hv3 with ha hb hc
       subst ha
       subst hc
       have HQ := aM (show 0 ≤ q42 ∧ q42 < (l.length : Int) from ⟨hq0, hq1⟩)
       clear hb hm_ hq0 hq1 hq2
       obtain ⟨ce, hKe, hce⟩ := Sep.Own.seg_cells (w0 := w0) HO.out 0 rfl z32 q42 HQ.out.1 HQ.out.2
       clear hce hKe
       unfold cwSw at h
       by_cases c3 : q45 = 0
       ·rw [if_pos c3] at h
        subst c3
        obtain ⟨⟨q60, a60, m60⟩, e60, h_⟩ := oB.mp h
        clear h
        have h := h_
        clear h_
        have HP60 := aM e60
        clear e60
        dsimp only at h
        injection h with h
        injection h with e1 e2
        injection e2 with e2 e3
        subst e1
        subst e2
        subst e3
        go_wp2_with (first | ((with_reducible refine gate_callee (f := 109) rfl ?_); refine goesL_ (some 42) rfl rfl Try.func109 (by kernel_rfl) rfl #[.pointer (some ⟨g, 0, none⟩), .int .i64 nn] rfl zbd_ ?_; (refine (spec_l1Cur_pick.calls g s0_0 at_ mx_ nn q42 a42 m42 w0 _ (st_in HO.out 1 rfl HS_.out) HO.out.base HP42.out).mono ?_); rintro e w_1 ⟨rfl, hI, hB, hK⟩; refine ⟨_, rfl, ?_⟩; obtain ⟨vS_42, hS, ho⟩ := st_out HO.out 1 rfl hI hB hK; have HS_42 := aM hS; have HO_1 := aM ho; clear hI hB hK hS ho) | ((with_reducible refine gate_callee (f := 109) rfl ?_); refine goesL_ (some 45) rfl rfl Try.func109 (by kernel_rfl) rfl #[.pointer (some ⟨g, 0, none⟩), .int .i64 24] rfl zbd_ ?_; (refine (spec_l1Cur_pick.calls g s0_0 a42 m42 24 0 a45 m45 w0 _ (st_in HO_1.out 1 rfl HS_42.out) HO_1.out.base HP45.out).mono ?_); rintro e w_2 ⟨rfl, hI, hB, hK⟩; refine ⟨_, rfl, ?_⟩; obtain ⟨vS_45, hS, ho⟩ := st_out HO_1.out 1 rfl hI hB hK; have HS_45 := aM hS; have HO_2 := aM ho; clear hI hB hK hS ho))
        have HD_13_0 := aM (HO_2.out.drew)
        refine start_ (n := 16) (S := fun w' => w'.cell? ⟨gl, q42.toNat * 2 + 1, none⟩ = some (.int .i64 (rd_T32 l q42).f1)) (ds := [15]) #[fi,fi,fi,fi,fi,fi,fi,fi,fi,fi,fi,fi,fi,fi,fi,fi] (by kernel_rfl) rfl rfl ((cw_cells HD_13_0.out 0 rfl q42 HQ.out.1 HQ.out.2).2) (fun hHeld => ?_)
        generalize w_2.drew = wd_13_1 at HD_13_0 hHeld ⊢
        refine pure_ (i := 0) (N := some 48) (v := ?_) (a' := ?_) #[ti,fi,fi,fi,fi,fi,fi,fi,fi,fi,fi,fi,fi,fi,fi,fi] rfl rfl (by kernel_rfl) (fun _ _ _ h => h) (Or.inl ⟨by rfl, ?_⟩) ?_ ?_; rotate_left; (· (intro w'; go_simp; with_reducible rfl)); rotate_left; (· (simp only [Act.put, sI, s0, sS, i64_w, i32_w]; rfl))
        refine pure_ (i := 1) (N := some 49) (v := ?_) (a' := ?_) #[ti,ti,fi,fi,fi,fi,fi,fi,fi,fi,fi,fi,fi,fi,fi,fi] rfl rfl (by kernel_rfl) (fun _ _ _ h => h) (Or.inl ⟨by rfl, ?_⟩) ?_ ?_; rotate_left; (· (intro w'; go_simp; with_reducible rfl)); rotate_left; (· (simp only [Act.put, sI, s0, sS, i64_w, i32_w]; rfl))
        refine pure_ (i := 2) (N := some 50) (v := ?_) (a' := ?_) #[ti,ti,ti,fi,fi,fi,fi,fi,fi,fi,fi,fi,fi,fi,fi,fi] rfl rfl (by kernel_rfl) (fun _ _ _ h => h) (Or.inl ⟨by rfl, ?_⟩) ?_ ?_; rotate_left; (· (intro w'; go_simp; with_reducible rfl)); rotate_left; (· (simp only [Act.put, sI, s0, sS, i64_w, i32_w]; rfl))
        refine pure_ (i := 3) (N := some 51) (v := ?_) (a' := ?_) #[ti,ti,ti,ti,fi,fi,fi,fi,fi,fi,fi,fi,fi,fi,fi,fi] rfl rfl (by kernel_rfl) (fun _ _ _ h => h) (Or.inl ⟨by rfl, ?_⟩) ?_ ?_; rotate_left; (· (intro w'; go_simp; with_reducible rfl)); rotate_left; (· (simp only [Act.put, sI, s0, sS, i64_w, i32_w]; rfl))
        refine pure_ (i := 4) (N := some 52) (v := ?_) (a' := ?_) #[ti,ti,ti,ti,ti,fi,fi,fi,fi,fi,fi,fi,fi,fi,fi,fi] rfl rfl (by kernel_rfl) (fun _ _ _ h => h) (Or.inl ⟨by rfl, ?_⟩) ?_ ?_; rotate_left; (· (intro w'; go_simp; with_reducible rfl)); rotate_left; (· (simp only [Act.put, sI, s0, sS, i64_w, i32_w]; rfl))
        refine pure_ (i := 6) (N := some 54) (v := ?_) (a' := ?_) #[ti,ti,ti,ti,ti,fi,ti,fi,fi,fi,fi,fi,fi,fi,fi,fi] rfl rfl (by kernel_rfl) (fun _ _ _ h => h) (Or.inl ⟨by rfl, ?_⟩) ?_ ?_; rotate_left; (· (intro w'; go_simp; with_reducible rfl)); rotate_left; (· (simp only [Act.put, sI, s0, sS, i64_w, i32_w]; rfl))
        refine pure_ (i := 7) (N := some 55) (v := ?_) (a' := ?_) #[ti,ti,ti,ti,ti,fi,ti,ti,fi,fi,fi,fi,fi,fi,fi,fi] rfl rfl (by kernel_rfl) (fun _ _ _ h => h) (Or.inl ⟨by rfl, ?_⟩) ?_ ?_; rotate_left; (· (intro w'; go_simp; with_reducible rfl)); rotate_left; (· (simp only [Act.put, sI, s0, sS, i64_w, i32_w]; rfl))
        refine pure_ (i := 8) (N := some 56) (v := ?_) (a' := ?_) #[ti,ti,ti,ti,ti,fi,ti,ti,ti,fi,fi,fi,fi,fi,fi,fi] rfl rfl (by kernel_rfl) (fun _ _ _ h => h) (Or.inl ⟨by rfl, ?_⟩) ?_ ?_; rotate_left; (· (intro w'; go_simp; with_reducible rfl)); rotate_left; (· (simp only [Act.put, sI, s0, sS, i64_w, i32_w]; rfl))
        refine take_ (i := 5) (N := some 53) (v := ?_) (a' := ?_) #[ti,ti,ti,ti,ti,ti,ti,ti,ti,fi,fi,fi,fi,fi,fi,fi] rfl rfl (by kernel_rfl) (fun _ _ _ h => h) (Or.inl ⟨by rfl, ?_⟩) hHeld ?_ ?_
        rotate_left
        ·intro w' s0
         go_simp
         with_reducible rfl
        rotate_left
        ·simp only [Act.put, sI, s0, sS, i64_w, i32_w]
         rfl
        refine take_ (i := 9) (N := some 57) (v := ?_) (a' := ?_) #[ti,ti,ti,ti,ti,ti,ti,ti,ti,ti,fi,fi,fi,fi,fi,fi] rfl rfl (by kernel_rfl) (fun _ _ _ h => h) (Or.inl ⟨by rfl, ?_⟩) hHeld ?_ ?_
        rotate_left
        ·intro w' s0
         go_simp
         with_reducible rfl
        rotate_left
        ·simp only [Act.put, sI, s0, sS, i64_w, i32_w]
         rfl
        refine pure_ (i := 10) (N := some 58) (v := ?_) (a' := ?_) #[ti,ti,ti,ti,ti,ti,ti,ti,ti,ti,ti,fi,fi,fi,fi,fi] rfl rfl (by kernel_rfl) (fun _ _ _ h => h) (Or.inl ⟨by rfl, ?_⟩) ?_ ?_; rotate_left; (· (intro w'; go_simp; with_reducible rfl)); rotate_left; (· (simp only [Act.put, sI, s0, sS, i64_w, i32_w]; rfl))
        refine one_ (i := 11) (N := some 59) #[ti,ti,ti,ti,ti,ti,ti,ti,ti,ti,ti,ti,fi,fi,fi,fi] rfl rfl (by kernel_rfl) (by decide) (fun K hK => ?_)
        refine Sep.own_litN_step (Value.int .i64) (h1 := fun _ => rfl) HD_13_0.out 3 [-1, (rd_T32 l q42).f1, wrap64 (((rd_T32 l q42).f1) + 1)] 3 rfl [.int .i64 (-1), .int .i64 ((rd_T32 l q42).f1), .int .i64 (wrap64 (((rd_T32 l q42).f1) + 1))] rfl (by decide) (by rfl) (N := 59) rfl zf_ ?_
        intro x_59 w_3 ho _
        obtain ⟨g_59, n_59, c_59, hn_, rfl⟩ := Sep.own_row_fseal ho 0 rfl (by simp)
        obtain rfl : n_59 = 3 := hn_
        have HO_3 := aM ho
        clear ho
        refine hK.out _ _ ((cw_cells HO_3.out 1 rfl q42 HQ.out.1 HQ.out.2).2) (fun hHeld => ?_)
        clear hK K
        refine norm_ (a' := ?_) ?_ ?_
        rotate_left
        ·show Act.put _ (some 59) _ = _
         simp only [Act.put, sI, s0, sS, i64_w, i32_w]
         rfl
        refine one_ (i := 12) (N := some 60) #[ti,ti,ti,ti,ti,ti,ti,ti,ti,ti,ti,ti,ti,fi,fi,fi] rfl rfl (by kernel_rfl) (by decide) (fun K hK => ?_)
        refine goes_ Try.func110 (by kernel_rfl) rfl #[.pointer (some ⟨g, 0, none⟩), .slice ((some ⟨g_59, 0, none⟩)) 3 c_59] (by rfl) rfl rfl (by simp only [mT, mC, mN]; rfl) ?_
        (refine (spec_l1Cur_among.calls g s0_0 a45 m45 ((some ⟨g_59, 0, none⟩)) c_59 ([-1, (rd_T32 l q42).f1, wrap64 (((rd_T32 l q42).f1) + 1)]) q60 a60 m60 w0 _ (st_in HO_3.out 2 rfl HS_45.out) HO_3.out.base zdf_ zdg_ (fun ad he _ => by injection he with he; subst he; exact HO_3.out.row_ne_box 0 2 (by decide) rfl rfl) HP60.out).mono ?_)
        rintro e w_4 ⟨rfl, hI, hB, hK⟩
        refine ⟨_, rfl, ?_⟩
        obtain ⟨vS_60, hS, ho⟩ := st_out HO_3.out 2 rfl hI hB hK
        have HS_60 := aM hS
        have HO_4 := aM ho
        clear hI hB hK hS ho
        refine hK.out _ _ ((cw_cells HO_4.out 1 rfl q42 HQ.out.1 HQ.out.2).2) (fun hHeld => ?_)
        clear hK K
        refine norm_ (a' := ?_) ?_ ?_
        rotate_left
        ·show Act.put _ (some 60) _ = _
         simp only [Act.put, sI, s0, sS, i64_w, i32_w]
         rfl
        refine pure_ (i := 13) (N := some 61) (v := ?_) (a' := ?_) #[ti,ti,ti,ti,ti,ti,ti,ti,ti,ti,ti,ti,ti,ti,fi,fi] rfl rfl (by kernel_rfl) (fun _ _ _ h => h) (Or.inl ⟨by rfl, ?_⟩) ?_ ?_; rotate_left; (· (intro w'; go_simp; with_reducible rfl)); rotate_left; (· (simp only [Act.put, sI, s0, sS, i64_w, i32_w]; rfl))
        refine pure_ (i := 14) (N := some 62) (v := ?_) (a' := ?_) #[ti,ti,ti,ti,ti,ti,ti,ti,ti,ti,ti,ti,ti,ti,ti,fi] rfl rfl (by kernel_rfl) (fun _ _ _ h => h) (Or.inl ⟨by rfl, ?_⟩) ?_ ?_; rotate_left; (· (intro w'; go_simp; with_reducible rfl)); rotate_left; (· (simp only [Act.put, sI, s0, sS, i64_w, i32_w]; rfl))
        refine last_ (i := 15) (N := none) #[ti,ti,ti,ti,ti,ti,ti,ti,ti,ti,ti,ti,ti,ti,ti,ti] rfl rfl (by kernel_rfl) (by decide) (fun K hK => ?_)
        refine Sep.own_seg_step HO_4.out 1 rfl z32 q42 HQ.out.1 HQ.out.2 0 (.int .i64 q60) (⟨q60, (rd_T32 l q42).f1⟩ : S32) 3 rfl rfl rfl (by decide) (fun base ok c hM => by obtain rfl := k32_openM hM; exact k32_mkM _ _ _ _) (by rfl) rfl (.tmp 62) (.tmp 60) rfl _ (by rfl) rfl rfl ?_
        intro w_5 ho
        have HO_5 := aM ho
        clear ho
        refine hK.out _ _ ?_
        clear hK K
        refine done_ (by kernel_rfl) ?_
        go_wp2
        obtain ⟨hR, hbx2, hB2, hK2⟩ := Sep.own_end ((((HO_5.out.front 2 rfl).front 2 rfl).front 2 rfl).tail) HBW.out HG.out (fun w ok x cs b b' hM => by obtain rfl := k32_openM hM; exact k32_mkM _ _ _ _)
        obtain ⟨A9, c9, e9, hC9⟩ := HS_60.out
        subst e9
        have HR_ := aM hR
        have HX_ := aM (show IsS111 w0 _ g s0_0 _ _ from ⟨A9, c9, hbx2, HGE.out, hC9⟩)
        have HB_ := aM hB2
        have HK_ := aM hK2
        clear hR hbx2 hB2 hK2 hC9
        go_ret
        exact ⟨_, rfl, HR_.out, HX_.out, HB_.out, HK_.out⟩
       ·rw [if_neg c3] at h
        by_cases c4 : q45 = 1
        ·rw [if_pos c4] at h
         subst c4
         obtain ⟨⟨q73, a73, m73⟩, e73, h_⟩ := oB.mp h
         clear h
         have h := h_
         clear h_
         have HP73 := aM e73
         clear e73
         dsimp only at h
         injection h with h
         injection h with e1 e2
         injection e2 with e2 e3
         subst e1
         subst e2
         subst e3
         go_wp2_with (first | ((with_reducible refine gate_callee (f := 109) rfl ?_); refine goesL_ (some 42) rfl rfl Try.func109 (by kernel_rfl) rfl #[.pointer (some ⟨g, 0, none⟩), .int .i64 nn] rfl zbd_ ?_; (refine (spec_l1Cur_pick.calls g s0_0 at_ mx_ nn q42 a42 m42 w0 _ (st_in HO.out 1 rfl HS_.out) HO.out.base HP42.out).mono ?_); rintro e w_1 ⟨rfl, hI, hB, hK⟩; refine ⟨_, rfl, ?_⟩; obtain ⟨vS_42, hS, ho⟩ := st_out HO.out 1 rfl hI hB hK; have HS_42 := aM hS; have HO_1 := aM ho; clear hI hB hK hS ho) | ((with_reducible refine gate_callee (f := 109) rfl ?_); refine goesL_ (some 45) rfl rfl Try.func109 (by kernel_rfl) rfl #[.pointer (some ⟨g, 0, none⟩), .int .i64 24] rfl zbd_ ?_; (refine (spec_l1Cur_pick.calls g s0_0 a42 m42 24 1 a45 m45 w0 _ (st_in HO_1.out 1 rfl HS_42.out) HO_1.out.base HP45.out).mono ?_); rintro e w_2 ⟨rfl, hI, hB, hK⟩; refine ⟨_, rfl, ?_⟩; obtain ⟨vS_45, hS, ho⟩ := st_out HO_1.out 1 rfl hI hB hK; have HS_45 := aM hS; have HO_2 := aM ho; clear hI hB hK hS ho; have z_1 : w_2.cell? ⟨gl, q42.toNat * 2, none⟩ = some (.int .i64 (rd_T32 l q42).f0) := (cw_cells HO_2.out 0 rfl q42 HQ.out.1 HQ.out.2).1) | ((with_reducible refine gate_dst (N := 72) rfl ?_); refine Sep.own_litN (Value.int .i64) (h1 := fun _ => rfl) HO_2.out 3 [wrap64 (((rd_T32 l q42).f0) - 1), 50, 51] 3 rfl [.int .i64 (wrap64 (((rd_T32 l q42).f0) - 1)), .int .i64 50, .int .i64 51] rfl (by decide) ?hg (N := 72) ?hd ?hr ?_; (case hd => rfl); (case hg => rfl); (case hr => exact zf_); intro x_72 w_3 ho _; obtain ⟨g_72, n_72, c_72, hn_, rfl⟩ := Sep.own_row_fseal ho 0 rfl (by simp); obtain rfl : n_72 = 3 := hn_; have HO_3 := aM ho; clear ho) | ((with_reducible refine gate_callee (f := 110) rfl ?_); refine goesL_ (some 73) rfl rfl Try.func110 (by kernel_rfl) rfl #[.pointer (some ⟨g, 0, none⟩), .slice ((some ⟨g_72, 0, none⟩)) 3 c_72] rfl zbd_ ?_; (refine (spec_l1Cur_among.calls g s0_0 a45 m45 ((some ⟨g_72, 0, none⟩)) c_72 ([wrap64 (((rd_T32 l q42).f0) - 1), 50, 51]) q73 a73 m73 w0 _ (st_in HO_3.out 2 rfl HS_45.out) HO_3.out.base zdf_ zdg_ (fun ad he _ => by injection he with he; subst he; exact HO_3.out.row_ne_box 0 2 (by decide) rfl rfl) HP73.out).mono ?_); rintro e w_4 ⟨rfl, hI, hB, hK⟩; refine ⟨_, rfl, ?_⟩; obtain ⟨vS_73, hS, ho⟩ := st_out HO_3.out 2 rfl hI hB hK; have HS_73 := aM hS; have HO_4 := aM ho; clear hI hB hK hS ho) | ((with_reducible refine gate_store (t := 3) (p := 75) (v := .tmp 73) rfl ?_); refine Sep.own_seg_ev HO_4.out 1 rfl z32 q42 HQ.out.1 HQ.out.2 1 (.int .i64 q73) (⟨(rd_T32 l q42).f0, q73⟩ : S32) 3 rfl rfl rfl (by decide) (fun base ok c hM => by obtain rfl := k32_openM hM; exact k32_mkM _ _ _ _) rfl rfl (.tmp 75) (.tmp 73) rfl _ (by rfl) rfl rfl ?_; intro w_5 ho; have HO_5 := aM ho; clear ho))
         obtain ⟨hR, hbx2, hB2, hK2⟩ := Sep.own_end ((((HO_5.out.front 2 rfl).front 2 rfl).front 2 rfl).tail) HBW.out HG.out (fun w ok x cs b b' hM => by obtain rfl := k32_openM hM; exact k32_mkM _ _ _ _)
         obtain ⟨A9, c9, e9, hC9⟩ := HS_73.out
         subst e9
         have HR_ := aM hR
         have HX_ := aM (show IsS111 w0 _ g s0_0 _ _ from ⟨A9, c9, hbx2, HGE.out, hC9⟩)
         have HB_ := aM hB2
         have HK_ := aM hK2
         clear hR hbx2 hB2 hK2 hC9
         go_ret
         exact ⟨_, rfl, HR_.out, HX_.out, HB_.out, HK_.out⟩
        ·rw [if_neg c4] at h
         have c3b : (q45 == 0) = false := beq_eq_false_iff_ne.mpr c3
         have c4b : (q45 == 1) = false := beq_eq_false_iff_ne.mpr c4
         injection h with h
         injection h with e1 e2
         injection e2 with e2 e3
         subst e1
         subst e2
         subst e3
         go_wp2_with (first | ((with_reducible refine gate_callee (f := 109) rfl ?_); refine goesL_ (some 42) rfl rfl Try.func109 (by kernel_rfl) rfl #[.pointer (some ⟨g, 0, none⟩), .int .i64 nn] rfl zbd_ ?_; (refine (spec_l1Cur_pick.calls g s0_0 at_ mx_ nn q42 a42 m42 w0 _ (st_in HO.out 1 rfl HS_.out) HO.out.base HP42.out).mono ?_); rintro e w_1 ⟨rfl, hI, hB, hK⟩; refine ⟨_, rfl, ?_⟩; obtain ⟨vS_42, hS, ho⟩ := st_out HO.out 1 rfl hI hB hK; have HS_42 := aM hS; have HO_1 := aM ho; clear hI hB hK hS ho) | ((with_reducible refine gate_callee (f := 109) rfl ?_); refine goesL_ (some 45) rfl rfl Try.func109 (by kernel_rfl) rfl #[.pointer (some ⟨g, 0, none⟩), .int .i64 24] rfl zbd_ ?_; (refine (spec_l1Cur_pick.calls g s0_0 a42 m42 24 q45 a45 m45 w0 _ (st_in HO_1.out 1 rfl HS_42.out) HO_1.out.base HP45.out).mono ?_); rintro e w_2 ⟨rfl, hI, hB, hK⟩; refine ⟨_, rfl, ?_⟩; obtain ⟨vS_45, hS, ho⟩ := st_out HO_1.out 1 rfl hI hB hK; have HS_45 := aM hS; have HO_2 := aM ho; clear hI hB hK hS ho))
         obtain ⟨hR, hbx2, hB2, hK2⟩ := Sep.own_end (((HO_2.out.front 1 rfl).front 1 rfl)) HBW.out HG.out (fun w ok x cs b b' hM => by obtain rfl := k32_openM hM; exact k32_mkM _ _ _ _)
         obtain ⟨A9, c9, e9, hC9⟩ := HS_45.out
         subst e9
         have HR_ := aM hR
         have HX_ := aM (show IsS111 w0 _ g s0_0 _ _ from ⟨A9, c9, hbx2, HGE.out, hC9⟩)
         have HB_ := aM hB2
         have HK_ := aM hK2
         clear hR hbx2 hB2 hK2 hC9
         go_ret
         exact ⟨_, rfl, HR_.out, HX_.out, HB_.out, HK_.out⟩
      ·cases h
     ·have c2b : decide (0 < nn) = false := decide_eq_false c2
      rw [if_neg c2] at h
      injection h with h
      injection h with e1 e2
      injection e2 with e2 e3
      subst e1
      subst e2
      subst e3
      go_wp2
      obtain ⟨hR, hbx2, hB2, hK2⟩ := Sep.own_end (((HO.out.front 1 rfl).front 1 rfl)) HBW.out HG.out (fun w ok x cs b b' hM => by obtain rfl := k32_openM hM; exact k32_mkM _ _ _ _)
      obtain ⟨A9, c9, e9, hC9⟩ := HS_.out
      subst e9
      have HR_ := aM hR
      have HX_ := aM (show IsS111 w0 _ g s0_0 _ _ from ⟨A9, c9, hbx2, HGE.out, hC9⟩)
      have HB_ := aM hB2
      have HK_ := aM hK2
      clear hR hbx2 hB2 hK2 hC9
      go_ret
      exact ⟨_, rfl, HR_.out, HX_.out, HB_.out, HK_.out⟩
  ·cases h
 | false =>
  have h := HF.out
  clear HF
  rw [if_neg (by decide)] at h
  unfold cwBody at h
  obtain ⟨⟨q17, a17, m17⟩, e17, h_⟩ := oB.mp h
  clear h
  have h := h_
  clear h_
  have HP17 := aM e17
  clear e17
  dsimp only at h
  split at h
  ·rename_i hn1
   have HN1 := aM hn1
   clear hn1
   obtain ⟨⟨q18, a18, m18⟩, e18, h_⟩ := oB.mp h
   clear h
   have h := h_
   clear h_
   have HP18 := aM e18
   clear e18
   dsimp only at h
   have HF := aM h
   clear h
   go_wp2_with (first | ((with_reducible refine gate_callee (f := 109) rfl ?_); refine goesL_ (some 9) rfl rfl Try.func109 (by kernel_rfl) rfl #[.pointer (some ⟨g, 0, none⟩), .int .i64 8] rfl zbd_ ?_; (refine (spec_l1Cur_pick.calls g s0_0 s0_1 s0_2 8 q9 a9 m9 w0 _ (st_in HO.out 0 rfl HS_0.out) HO.out.base HP9.out).mono ?_); rintro e w_1 ⟨rfl, hI, hB, hK⟩; refine ⟨_, rfl, ?_⟩; obtain ⟨vS_9, hS, ho⟩ := st_out HO.out 0 rfl hI hB hK; have HS_9 := aM hS; have HO_1 := aM ho; clear hI hB hK hS ho) | ((with_reducible refine gate_callee (f := 139) rfl ?_); refine goesL_ (some 11) rfl rfl Try.func139 (by kernel_rfl) rfl #[.pointer (some ⟨g, 0, none⟩), .int .i64 20] rfl zbd_ ?_; (refine (spec_l1Cur_one.calls g s0_0 a9 m9 20 false a11 m11 w0 _ (st_in HO_1.out 0 rfl HS_9.out) HO_1.out.base HP11.out).mono ?_); rintro e w_2 ⟨rfl, hI, hB, hK⟩; refine ⟨_, rfl, ?_⟩; obtain ⟨vS_11, hS, ho⟩ := st_out HO_1.out 0 rfl hI hB hK; have HS_11 := aM hS; have HO_2 := aM ho; clear hI hB hK hS ho) | ((with_reducible refine gate_dst (N := 16) rfl ?_); refine Sep.own_litN (Value.int .i64) (h1 := fun _ => rfl) HO_2.out 3 [8, 16, 44] 3 rfl [.int .i64 8, .int .i64 16, .int .i64 44] rfl (by decide) ?hg (N := 16) ?hd ?hr ?_; (case hd => rfl); (case hg => rfl); (case hr => exact zf_); intro x_16 w_3 ho _; obtain ⟨g_16, n_16, c_16, hn_, rfl⟩ := Sep.own_row_fseal ho 0 rfl (by simp); obtain rfl : n_16 = 3 := hn_; have HO_3 := aM ho; clear ho) | ((with_reducible refine gate_callee (f := 110) rfl ?_); refine goesL_ (some 17) rfl rfl Try.func110 (by kernel_rfl) rfl #[.pointer (some ⟨g, 0, none⟩), .slice ((some ⟨g_16, 0, none⟩)) 3 c_16] rfl zbd_ ?_; (refine (spec_l1Cur_among.calls g s0_0 a11 m11 ((some ⟨g_16, 0, none⟩)) c_16 ([8, 16, 44]) q17 a17 m17 w0 _ (st_in HO_3.out 1 rfl HS_11.out) HO_3.out.base zdf_ zdg_ (fun ad he _ => by injection he with he; subst he; exact HO_3.out.row_ne_box 0 1 (by decide) rfl rfl) HP17.out).mono ?_); rintro e w_4 ⟨rfl, hI, hB, hK⟩; refine ⟨_, rfl, ?_⟩; obtain ⟨vS_17, hS, ho⟩ := st_out HO_3.out 1 rfl hI hB hK; have HS_17 := aM hS; have HO_4 := aM ho; clear hI hB hK hS ho))
   (try simp only [Act.put, sI, s0, sS])
   go_loopw [3] (fun v3 wr => ∃ (l : List S32) (at_ mx_ : Int) (vS_ : Value) (A_ : Option Addr) (m_ c_ : Nat), v3 = .slice A_ m_ c_ ∧ Aside0 (cwLoop s0_0 q17 (q9.toNat - l.length) l at_ mx_ = some (q18, a18, m18)) ∧ Aside0 (m_ = l.length ∧ l.length ≤ q9.toNat) ∧ Aside0 (∃ A c, vS_ = .slice A s0_0.length c ∧ Kd.C (Kd.int .u8) w0 A s0_0.length s0_0) ∧ Aside0 (Own w0 wr (Item.row k32 32 (.slice A_ m_ c_) (l) :: Item.box g 111 #[vS_, .int .i64 at_, .int .u64 mx_] :: [Sep.Item.kept w g]))) (fun v3 _ => q9.toNat - stLen v3)
   case atStart => exact ⟨[], a17, m17, vS_17, _, _, _, rfl, HP18, ⟨rfl, by simp⟩, HS_17, ⟨((((HO_4.out.nilrow k32 32).front 2 rfl).front 1 rfl).front 2 rfl).tail⟩⟩
   case round =>
    obtain ⟨l, at_, mx_, vS_, A_, m_, c_, rfl, HL, HM, HS_, HO⟩ := hrel
    clear HO_4
    by_cases c1 : (m_ : Int) < q9
    ·have c1b := decide_eq_true c1
     have hl := HL.out
     obtain ⟨d, hd⟩ : ∃ d, q9.toNat - l.length = d + 1 := ⟨q9.toNat - l.length - 1, by have := HM.out; omega⟩
     rw [hd, cwLoop] at hl
     have HD := aM hd
     clear hd
     obtain ⟨⟨q24, a24, m24⟩, e24, h_⟩ := oB.mp hl
     clear hl
     have hl := h_
     clear h_
     have HP24 := aM e24
     clear e24
     dsimp only at hl
     obtain ⟨⟨q30, a30, m30⟩, e30, h_⟩ := oB.mp hl
     clear hl
     have hl := h_
     clear h_
     have HP30 := aM e30
     clear e30
     dsimp only at hl
     obtain ⟨⟨q32, a32, m32⟩, e32, h_⟩ := oB.mp hl
     clear hl
     have hl := h_
     clear h_
     have HP32 := aM e32
     clear e32
     dsimp only at hl
     have HL2 := aM hl
     clear hl HL
     go_wp2_with (first | ((with_reducible refine gate_callee (f := 109) rfl ?_); refine goesL_ (some 24) rfl rfl Try.func109 (by kernel_rfl) rfl #[.pointer (some ⟨g, 0, none⟩), .int .i64 q17] rfl zbd_ ?_; (refine (spec_l1Cur_pick.calls g s0_0 at_ mx_ q17 q24 a24 m24 w0 _ (st_in HO.out 1 rfl HS_.out) HO.out.base HP24.out).mono ?_); rintro e w_1 ⟨rfl, hI, hB, hK⟩; refine ⟨_, rfl, ?_⟩; obtain ⟨vS_24, hS, ho⟩ := st_out HO.out 1 rfl hI hB hK; have HS_24 := aM hS; have HO_1 := aM ho; clear hI hB hK hS ho) | ((with_reducible refine gate_callee (f := 109) rfl ?_); refine goesL_ (some 30) rfl rfl Try.func109 (by kernel_rfl) rfl #[.pointer (some ⟨g, 0, none⟩), .int .i64 7] rfl zbd_ ?_; (refine (spec_l1Cur_pick.calls g s0_0 a24 m24 7 q30 a30 m30 w0 _ (st_in HO_1.out 1 rfl HS_24.out) HO_1.out.base HP30.out).mono ?_); rintro e w_2 ⟨rfl, hI, hB, hK⟩; refine ⟨_, rfl, ?_⟩; obtain ⟨vS_30, hS, ho⟩ := st_out HO_1.out 1 rfl hI hB hK; have HS_30 := aM hS; have HO_2 := aM ho; clear hI hB hK hS ho) | ((with_reducible refine gate_dst (N := 31) rfl ?_); refine Sep.own_litN (Value.int .i64) (h1 := fun _ => rfl) HO_2.out 3 [0, 1, 2, 5, q30] 5 rfl [.int .i64 0, .int .i64 1, .int .i64 2, .int .i64 5, .int .i64 q30] rfl (by decide) ?hg (N := 31) ?hd ?hr ?_; (case hd => rfl); (case hg => rfl); (case hr => exact zf_); intro x_31 w_3 ho _; obtain ⟨g_31, n_31, c_31, hn_, rfl⟩ := Sep.own_row_fseal ho 0 rfl (by simp); obtain rfl : n_31 = 5 := hn_; have HO_3 := aM ho; clear ho) | ((with_reducible refine gate_callee (f := 110) rfl ?_); refine goesL_ (some 32) rfl rfl Try.func110 (by kernel_rfl) rfl #[.pointer (some ⟨g, 0, none⟩), .slice ((some ⟨g_31, 0, none⟩)) 5 c_31] rfl zbd_ ?_; (refine (spec_l1Cur_among.calls g s0_0 a30 m30 ((some ⟨g_31, 0, none⟩)) c_31 ([0, 1, 2, 5, q30]) q32 a32 m32 w0 _ (st_in HO_3.out 2 rfl HS_30.out) HO_3.out.base zdf_ zdg_ (fun ad he _ => by injection he with he; subst he; exact HO_3.out.row_ne_box 0 2 (by decide) rfl rfl) HP32.out).mono ?_); rintro e w_4 ⟨rfl, hI, hB, hK⟩; refine ⟨_, rfl, ?_⟩; obtain ⟨vS_32, hS, ho⟩ := st_out HO_3.out 2 rfl hI hB hK; have HS_32 := aM hS; have HO_4 := aM ho; clear hI hB hK hS ho) | ((with_reducible refine gate_dst (N := 36) rfl ?_); at_builtin; refine Sep.own_append k32 HO_4.out 1 _ (l) 32 rfl rfl (.tmp 25) (.tmp 35) 23 (.agg #[.int .i64 0, .int .i64 0]) 16 rfl Try.underlying23 info32 rfl (by decide) (by omega) ((⟨q24, wrap64 (q24 + q32)⟩ : S32)) [.int .i64 q24, .int .i64 (wrap64 (q24 + q32))] rfl rfl (k32_mkM _ _ _ _) (by have := HM.out; have := HN1.out; omega) ?_; intro x_36 w_6 ho; have HO_6 := aM ho; clear ho))
     obtain ⟨A_36, n_36, c_36, hn_, rfl⟩ := HO_6.out.row_seal 1 rfl
     have HN_36 := aM hn_
     clear hn_
     go_roundw
     case measure => simp only [stLen]; have e1 := HN_36.out; have e2 := HM.out; rw [List.length_append, List.length_singleton] at e1; omega
     case rel => exact ⟨l ++ [(⟨q24, wrap64 (q24 + q32)⟩ : S32)], a32, m32, vS_32, _, _, _, rfl, ⟨by have e := HL2.out; rw [show q9.toNat - (l ++ [(⟨q24, wrap64 (q24 + q32)⟩ : S32)]).length = d from by rw [List.length_append, List.length_singleton]; have := HD.out; omega]; exact e⟩, ⟨HN_36.out, by rw [List.length_append, List.length_singleton]; have := HD.out; omega⟩, HS_32, ⟨(((HO_6.out.front 2 rfl).front 2 rfl).front 2 rfl).tail⟩⟩
    ·have c1b := decide_eq_false c1
     have hl := HL.out
     rw [show q9.toNat - l.length = 0 from by have := HM.out; omega, cwLoop] at hl
     injection hl with hl
     injection hl with e1 e2
     injection e2 with e2 e3
     subst e1
     subst e2
     subst e3
     have h := HF.out
     clear HF HL
     unfold cwEnd at h
     by_cases c2 : 0 < q9
     ·have c2b : decide (0 < q9) = true := decide_eq_true c2
      rw [if_pos c2] at h
      obtain ⟨⟨q42, a42, m42⟩, e42, h_⟩ := oB.mp h
      clear h
      have h := h_
      clear h_
      have HP42 := aM e42
      clear e42
      dsimp only at h
      split at h
      ·rename_i hq
       obtain ⟨hq0, hq1⟩ := hq
       obtain ⟨⟨q45, a45, m45⟩, e45, h_⟩ := oB.mp h
       clear h
       have h := h_
       clear h_
       have HP45 := aM e45
       clear e45
       dsimp only at h
       have p42 : (0 ≤ q42) = True := eq_true hq0
       have hm_ := HM.out.1
       have hq2 : q42 < (m_ : Int) := by omega
       have q42b : (q42 < (m_ : Int)) = True := eq_true hq2
       obtain ⟨gl, c3_, hv3⟩ := Sep.own_row_form HO.out 0 rfl (by omega)
       injection hv3 with ha hb hc
       subst ha
       subst hc
       have HQ := aM (show 0 ≤ q42 ∧ q42 < (l.length : Int) from ⟨hq0, hq1⟩)
       clear hb hm_ hq0 hq1 hq2
       obtain ⟨ce, hKe, hce⟩ := Sep.Own.seg_cells (w0 := w0) HO.out 0 rfl z32 q42 HQ.out.1 HQ.out.2
       clear hce hKe
       unfold cwSw at h
       by_cases c3 : q45 = 0
       ·rw [if_pos c3] at h
        subst c3
        obtain ⟨⟨q60, a60, m60⟩, e60, h_⟩ := oB.mp h
        clear h
        have h := h_
        clear h_
        have HP60 := aM e60
        clear e60
        dsimp only at h
        injection h with h
        injection h with e1 e2
        injection e2 with e2 e3
        subst e1
        subst e2
        subst e3
        go_wp2_with (first | ((with_reducible refine gate_callee (f := 109) rfl ?_); refine goesL_ (some 42) rfl rfl Try.func109 (by kernel_rfl) rfl #[.pointer (some ⟨g, 0, none⟩), .int .i64 q9] rfl zbd_ ?_; (refine (spec_l1Cur_pick.calls g s0_0 at_ mx_ q9 q42 a42 m42 w0 _ (st_in HO.out 1 rfl HS_.out) HO.out.base HP42.out).mono ?_); rintro e w_1 ⟨rfl, hI, hB, hK⟩; refine ⟨_, rfl, ?_⟩; obtain ⟨vS_42, hS, ho⟩ := st_out HO.out 1 rfl hI hB hK; have HS_42 := aM hS; have HO_1 := aM ho; clear hI hB hK hS ho) | ((with_reducible refine gate_callee (f := 109) rfl ?_); refine goesL_ (some 45) rfl rfl Try.func109 (by kernel_rfl) rfl #[.pointer (some ⟨g, 0, none⟩), .int .i64 24] rfl zbd_ ?_; (refine (spec_l1Cur_pick.calls g s0_0 a42 m42 24 0 a45 m45 w0 _ (st_in HO_1.out 1 rfl HS_42.out) HO_1.out.base HP45.out).mono ?_); rintro e w_2 ⟨rfl, hI, hB, hK⟩; refine ⟨_, rfl, ?_⟩; obtain ⟨vS_45, hS, ho⟩ := st_out HO_1.out 1 rfl hI hB hK; have HS_45 := aM hS; have HO_2 := aM ho; clear hI hB hK hS ho))
        have HD_13_0 := aM (HO_2.out.drew)
        refine start_ (n := 16) (S := fun w' => w'.cell? ⟨gl, q42.toNat * 2 + 1, none⟩ = some (.int .i64 (rd_T32 l q42).f1)) (ds := [15]) #[fi,fi,fi,fi,fi,fi,fi,fi,fi,fi,fi,fi,fi,fi,fi,fi] (by kernel_rfl) rfl rfl ((cw_cells HD_13_0.out 0 rfl q42 HQ.out.1 HQ.out.2).2) (fun hHeld => ?_)
        generalize w_2.drew = wd_13_1 at HD_13_0 hHeld ⊢
        refine pure_ (i := 0) (N := some 48) (v := ?_) (a' := ?_) #[ti,fi,fi,fi,fi,fi,fi,fi,fi,fi,fi,fi,fi,fi,fi,fi] rfl rfl (by kernel_rfl) (fun _ _ _ h => h) (Or.inl ⟨by rfl, ?_⟩) ?_ ?_; rotate_left; (· (intro w'; go_simp; with_reducible rfl)); rotate_left; (· (simp only [Act.put, sI, s0, sS, i64_w, i32_w]; rfl))
        refine pure_ (i := 1) (N := some 49) (v := ?_) (a' := ?_) #[ti,ti,fi,fi,fi,fi,fi,fi,fi,fi,fi,fi,fi,fi,fi,fi] rfl rfl (by kernel_rfl) (fun _ _ _ h => h) (Or.inl ⟨by rfl, ?_⟩) ?_ ?_; rotate_left; (· (intro w'; go_simp; with_reducible rfl)); rotate_left; (· (simp only [Act.put, sI, s0, sS, i64_w, i32_w]; rfl))
        refine pure_ (i := 2) (N := some 50) (v := ?_) (a' := ?_) #[ti,ti,ti,fi,fi,fi,fi,fi,fi,fi,fi,fi,fi,fi,fi,fi] rfl rfl (by kernel_rfl) (fun _ _ _ h => h) (Or.inl ⟨by rfl, ?_⟩) ?_ ?_; rotate_left; (· (intro w'; go_simp; with_reducible rfl)); rotate_left; (· (simp only [Act.put, sI, s0, sS, i64_w, i32_w]; rfl))
        refine pure_ (i := 3) (N := some 51) (v := ?_) (a' := ?_) #[ti,ti,ti,ti,fi,fi,fi,fi,fi,fi,fi,fi,fi,fi,fi,fi] rfl rfl (by kernel_rfl) (fun _ _ _ h => h) (Or.inl ⟨by rfl, ?_⟩) ?_ ?_; rotate_left; (· (intro w'; go_simp; with_reducible rfl)); rotate_left; (· (simp only [Act.put, sI, s0, sS, i64_w, i32_w]; rfl))
        refine pure_ (i := 4) (N := some 52) (v := ?_) (a' := ?_) #[ti,ti,ti,ti,ti,fi,fi,fi,fi,fi,fi,fi,fi,fi,fi,fi] rfl rfl (by kernel_rfl) (fun _ _ _ h => h) (Or.inl ⟨by rfl, ?_⟩) ?_ ?_; rotate_left; (· (intro w'; go_simp; with_reducible rfl)); rotate_left; (· (simp only [Act.put, sI, s0, sS, i64_w, i32_w]; rfl))
        refine pure_ (i := 6) (N := some 54) (v := ?_) (a' := ?_) #[ti,ti,ti,ti,ti,fi,ti,fi,fi,fi,fi,fi,fi,fi,fi,fi] rfl rfl (by kernel_rfl) (fun _ _ _ h => h) (Or.inl ⟨by rfl, ?_⟩) ?_ ?_; rotate_left; (· (intro w'; go_simp; with_reducible rfl)); rotate_left; (· (simp only [Act.put, sI, s0, sS, i64_w, i32_w]; rfl))
        refine pure_ (i := 7) (N := some 55) (v := ?_) (a' := ?_) #[ti,ti,ti,ti,ti,fi,ti,ti,fi,fi,fi,fi,fi,fi,fi,fi] rfl rfl (by kernel_rfl) (fun _ _ _ h => h) (Or.inl ⟨by rfl, ?_⟩) ?_ ?_; rotate_left; (· (intro w'; go_simp; with_reducible rfl)); rotate_left; (· (simp only [Act.put, sI, s0, sS, i64_w, i32_w]; rfl))
        refine pure_ (i := 8) (N := some 56) (v := ?_) (a' := ?_) #[ti,ti,ti,ti,ti,fi,ti,ti,ti,fi,fi,fi,fi,fi,fi,fi] rfl rfl (by kernel_rfl) (fun _ _ _ h => h) (Or.inl ⟨by rfl, ?_⟩) ?_ ?_; rotate_left; (· (intro w'; go_simp; with_reducible rfl)); rotate_left; (· (simp only [Act.put, sI, s0, sS, i64_w, i32_w]; rfl))
        refine take_ (i := 5) (N := some 53) (v := ?_) (a' := ?_) #[ti,ti,ti,ti,ti,ti,ti,ti,ti,fi,fi,fi,fi,fi,fi,fi] rfl rfl (by kernel_rfl) (fun _ _ _ h => h) (Or.inl ⟨by rfl, ?_⟩) hHeld ?_ ?_
        rotate_left
        ·intro w' s0
         go_simp
         with_reducible rfl
        rotate_left
        ·simp only [Act.put, sI, s0, sS, i64_w, i32_w]
         rfl
        refine take_ (i := 9) (N := some 57) (v := ?_) (a' := ?_) #[ti,ti,ti,ti,ti,ti,ti,ti,ti,ti,fi,fi,fi,fi,fi,fi] rfl rfl (by kernel_rfl) (fun _ _ _ h => h) (Or.inl ⟨by rfl, ?_⟩) hHeld ?_ ?_
        rotate_left
        ·intro w' s0
         go_simp
         with_reducible rfl
        rotate_left
        ·simp only [Act.put, sI, s0, sS, i64_w, i32_w]
         rfl
        refine pure_ (i := 10) (N := some 58) (v := ?_) (a' := ?_) #[ti,ti,ti,ti,ti,ti,ti,ti,ti,ti,ti,fi,fi,fi,fi,fi] rfl rfl (by kernel_rfl) (fun _ _ _ h => h) (Or.inl ⟨by rfl, ?_⟩) ?_ ?_; rotate_left; (· (intro w'; go_simp; with_reducible rfl)); rotate_left; (· (simp only [Act.put, sI, s0, sS, i64_w, i32_w]; rfl))
        refine one_ (i := 11) (N := some 59) #[ti,ti,ti,ti,ti,ti,ti,ti,ti,ti,ti,ti,fi,fi,fi,fi] rfl rfl (by kernel_rfl) (by decide) (fun K hK => ?_)
        refine Sep.own_litN_step (Value.int .i64) (h1 := fun _ => rfl) HD_13_0.out 3 [-1, (rd_T32 l q42).f1, wrap64 (((rd_T32 l q42).f1) + 1)] 3 rfl [.int .i64 (-1), .int .i64 ((rd_T32 l q42).f1), .int .i64 (wrap64 (((rd_T32 l q42).f1) + 1))] rfl (by decide) (by rfl) (N := 59) rfl zf_ ?_
        intro x_59 w_3 ho _
        obtain ⟨g_59, n_59, c_59, hn_, rfl⟩ := Sep.own_row_fseal ho 0 rfl (by simp)
        obtain rfl : n_59 = 3 := hn_
        have HO_3 := aM ho
        clear ho
        refine hK.out _ _ ((cw_cells HO_3.out 1 rfl q42 HQ.out.1 HQ.out.2).2) (fun hHeld => ?_)
        clear hK K
        refine norm_ (a' := ?_) ?_ ?_
        rotate_left
        ·show Act.put _ (some 59) _ = _
         simp only [Act.put, sI, s0, sS, i64_w, i32_w]
         rfl
        refine one_ (i := 12) (N := some 60) #[ti,ti,ti,ti,ti,ti,ti,ti,ti,ti,ti,ti,ti,fi,fi,fi] rfl rfl (by kernel_rfl) (by decide) (fun K hK => ?_)
        refine goes_ Try.func110 (by kernel_rfl) rfl #[.pointer (some ⟨g, 0, none⟩), .slice ((some ⟨g_59, 0, none⟩)) 3 c_59] (by rfl) rfl rfl (by simp only [mT, mC, mN]; rfl) ?_
        (refine (spec_l1Cur_among.calls g s0_0 a45 m45 ((some ⟨g_59, 0, none⟩)) c_59 ([-1, (rd_T32 l q42).f1, wrap64 (((rd_T32 l q42).f1) + 1)]) q60 a60 m60 w0 _ (st_in HO_3.out 2 rfl HS_45.out) HO_3.out.base zdf_ zdg_ (fun ad he _ => by injection he with he; subst he; exact HO_3.out.row_ne_box 0 2 (by decide) rfl rfl) HP60.out).mono ?_)
        rintro e w_4 ⟨rfl, hI, hB, hK⟩
        refine ⟨_, rfl, ?_⟩
        obtain ⟨vS_60, hS, ho⟩ := st_out HO_3.out 2 rfl hI hB hK
        have HS_60 := aM hS
        have HO_4 := aM ho
        clear hI hB hK hS ho
        refine hK.out _ _ ((cw_cells HO_4.out 1 rfl q42 HQ.out.1 HQ.out.2).2) (fun hHeld => ?_)
        clear hK K
        refine norm_ (a' := ?_) ?_ ?_
        rotate_left
        ·show Act.put _ (some 60) _ = _
         simp only [Act.put, sI, s0, sS, i64_w, i32_w]
         rfl
        refine pure_ (i := 13) (N := some 61) (v := ?_) (a' := ?_) #[ti,ti,ti,ti,ti,ti,ti,ti,ti,ti,ti,ti,ti,ti,fi,fi] rfl rfl (by kernel_rfl) (fun _ _ _ h => h) (Or.inl ⟨by rfl, ?_⟩) ?_ ?_; rotate_left; (· (intro w'; go_simp; with_reducible rfl)); rotate_left; (· (simp only [Act.put, sI, s0, sS, i64_w, i32_w]; rfl))
        refine pure_ (i := 14) (N := some 62) (v := ?_) (a' := ?_) #[ti,ti,ti,ti,ti,ti,ti,ti,ti,ti,ti,ti,ti,ti,ti,fi] rfl rfl (by kernel_rfl) (fun _ _ _ h => h) (Or.inl ⟨by rfl, ?_⟩) ?_ ?_; rotate_left; (· (intro w'; go_simp; with_reducible rfl)); rotate_left; (· (simp only [Act.put, sI, s0, sS, i64_w, i32_w]; rfl))
        refine last_ (i := 15) (N := none) #[ti,ti,ti,ti,ti,ti,ti,ti,ti,ti,ti,ti,ti,ti,ti,ti] rfl rfl (by kernel_rfl) (by decide) (fun K hK => ?_)
        refine Sep.own_seg_step HO_4.out 1 rfl z32 q42 HQ.out.1 HQ.out.2 0 (.int .i64 q60) (⟨q60, (rd_T32 l q42).f1⟩ : S32) 3 rfl rfl rfl (by decide) (fun base ok c hM => by obtain rfl := k32_openM hM; exact k32_mkM _ _ _ _) (by rfl) rfl (.tmp 62) (.tmp 60) rfl _ (by rfl) rfl rfl ?_
        intro w_5 ho
        have HO_5 := aM ho
        clear ho
        refine hK.out _ _ ?_
        clear hK K
        refine done_ (by kernel_rfl) ?_
        go_wp2
        obtain ⟨hR, hbx2, hB2, hK2⟩ := Sep.own_end ((((HO_5.out.front 2 rfl).front 2 rfl).front 2 rfl).tail) HBW.out HG.out (fun w ok x cs b b' hM => by obtain rfl := k32_openM hM; exact k32_mkM _ _ _ _)
        obtain ⟨A9, c9, e9, hC9⟩ := HS_60.out
        subst e9
        have HR_ := aM hR
        have HX_ := aM (show IsS111 w0 _ g s0_0 _ _ from ⟨A9, c9, hbx2, HGE.out, hC9⟩)
        have HB_ := aM hB2
        have HK_ := aM hK2
        clear hR hbx2 hB2 hK2 hC9
        go_ret
        exact ⟨_, rfl, HR_.out, HX_.out, HB_.out, HK_.out⟩
       ·rw [if_neg c3] at h
        by_cases c4 : q45 = 1
        ·rw [if_pos c4] at h
         subst c4
         obtain ⟨⟨q73, a73, m73⟩, e73, h_⟩ := oB.mp h
         clear h
         have h := h_
         clear h_
         have HP73 := aM e73
         clear e73
         dsimp only at h
         injection h with h
         injection h with e1 e2
         injection e2 with e2 e3
         subst e1
         subst e2
         subst e3
         go_wp2_with (first | ((with_reducible refine gate_callee (f := 109) rfl ?_); refine goesL_ (some 42) rfl rfl Try.func109 (by kernel_rfl) rfl #[.pointer (some ⟨g, 0, none⟩), .int .i64 q9] rfl zbd_ ?_; (refine (spec_l1Cur_pick.calls g s0_0 at_ mx_ q9 q42 a42 m42 w0 _ (st_in HO.out 1 rfl HS_.out) HO.out.base HP42.out).mono ?_); rintro e w_1 ⟨rfl, hI, hB, hK⟩; refine ⟨_, rfl, ?_⟩; obtain ⟨vS_42, hS, ho⟩ := st_out HO.out 1 rfl hI hB hK; have HS_42 := aM hS; have HO_1 := aM ho; clear hI hB hK hS ho) | ((with_reducible refine gate_callee (f := 109) rfl ?_); refine goesL_ (some 45) rfl rfl Try.func109 (by kernel_rfl) rfl #[.pointer (some ⟨g, 0, none⟩), .int .i64 24] rfl zbd_ ?_; (refine (spec_l1Cur_pick.calls g s0_0 a42 m42 24 1 a45 m45 w0 _ (st_in HO_1.out 1 rfl HS_42.out) HO_1.out.base HP45.out).mono ?_); rintro e w_2 ⟨rfl, hI, hB, hK⟩; refine ⟨_, rfl, ?_⟩; obtain ⟨vS_45, hS, ho⟩ := st_out HO_1.out 1 rfl hI hB hK; have HS_45 := aM hS; have HO_2 := aM ho; clear hI hB hK hS ho; have z_1 : w_2.cell? ⟨gl, q42.toNat * 2, none⟩ = some (.int .i64 (rd_T32 l q42).f0) := (cw_cells HO_2.out 0 rfl q42 HQ.out.1 HQ.out.2).1) | ((with_reducible refine gate_dst (N := 72) rfl ?_); refine Sep.own_litN (Value.int .i64) (h1 := fun _ => rfl) HO_2.out 3 [wrap64 (((rd_T32 l q42).f0) - 1), 50, 51] 3 rfl [.int .i64 (wrap64 (((rd_T32 l q42).f0) - 1)), .int .i64 50, .int .i64 51] rfl (by decide) ?hg (N := 72) ?hd ?hr ?_; (case hd => rfl); (case hg => rfl); (case hr => exact zf_); intro x_72 w_3 ho _; obtain ⟨g_72, n_72, c_72, hn_, rfl⟩ := Sep.own_row_fseal ho 0 rfl (by simp); obtain rfl : n_72 = 3 := hn_; have HO_3 := aM ho; clear ho) | ((with_reducible refine gate_callee (f := 110) rfl ?_); refine goesL_ (some 73) rfl rfl Try.func110 (by kernel_rfl) rfl #[.pointer (some ⟨g, 0, none⟩), .slice ((some ⟨g_72, 0, none⟩)) 3 c_72] rfl zbd_ ?_; (refine (spec_l1Cur_among.calls g s0_0 a45 m45 ((some ⟨g_72, 0, none⟩)) c_72 ([wrap64 (((rd_T32 l q42).f0) - 1), 50, 51]) q73 a73 m73 w0 _ (st_in HO_3.out 2 rfl HS_45.out) HO_3.out.base zdf_ zdg_ (fun ad he _ => by injection he with he; subst he; exact HO_3.out.row_ne_box 0 2 (by decide) rfl rfl) HP73.out).mono ?_); rintro e w_4 ⟨rfl, hI, hB, hK⟩; refine ⟨_, rfl, ?_⟩; obtain ⟨vS_73, hS, ho⟩ := st_out HO_3.out 2 rfl hI hB hK; have HS_73 := aM hS; have HO_4 := aM ho; clear hI hB hK hS ho) | ((with_reducible refine gate_store (t := 3) (p := 75) (v := .tmp 73) rfl ?_); refine Sep.own_seg_ev HO_4.out 1 rfl z32 q42 HQ.out.1 HQ.out.2 1 (.int .i64 q73) (⟨(rd_T32 l q42).f0, q73⟩ : S32) 3 rfl rfl rfl (by decide) (fun base ok c hM => by obtain rfl := k32_openM hM; exact k32_mkM _ _ _ _) rfl rfl (.tmp 75) (.tmp 73) rfl _ (by rfl) rfl rfl ?_; intro w_5 ho; have HO_5 := aM ho; clear ho))
         obtain ⟨hR, hbx2, hB2, hK2⟩ := Sep.own_end ((((HO_5.out.front 2 rfl).front 2 rfl).front 2 rfl).tail) HBW.out HG.out (fun w ok x cs b b' hM => by obtain rfl := k32_openM hM; exact k32_mkM _ _ _ _)
         obtain ⟨A9, c9, e9, hC9⟩ := HS_73.out
         subst e9
         have HR_ := aM hR
         have HX_ := aM (show IsS111 w0 _ g s0_0 _ _ from ⟨A9, c9, hbx2, HGE.out, hC9⟩)
         have HB_ := aM hB2
         have HK_ := aM hK2
         clear hR hbx2 hB2 hK2 hC9
         go_ret
         exact ⟨_, rfl, HR_.out, HX_.out, HB_.out, HK_.out⟩
        ·rw [if_neg c4] at h
         have c3b : (q45 == 0) = false := beq_eq_false_iff_ne.mpr c3
         have c4b : (q45 == 1) = false := beq_eq_false_iff_ne.mpr c4
         injection h with h
         injection h with e1 e2
         injection e2 with e2 e3
         subst e1
         subst e2
         subst e3
         go_wp2_with (first | ((with_reducible refine gate_callee (f := 109) rfl ?_); refine goesL_ (some 42) rfl rfl Try.func109 (by kernel_rfl) rfl #[.pointer (some ⟨g, 0, none⟩), .int .i64 q9] rfl zbd_ ?_; (refine (spec_l1Cur_pick.calls g s0_0 at_ mx_ q9 q42 a42 m42 w0 _ (st_in HO.out 1 rfl HS_.out) HO.out.base HP42.out).mono ?_); rintro e w_1 ⟨rfl, hI, hB, hK⟩; refine ⟨_, rfl, ?_⟩; obtain ⟨vS_42, hS, ho⟩ := st_out HO.out 1 rfl hI hB hK; have HS_42 := aM hS; have HO_1 := aM ho; clear hI hB hK hS ho) | ((with_reducible refine gate_callee (f := 109) rfl ?_); refine goesL_ (some 45) rfl rfl Try.func109 (by kernel_rfl) rfl #[.pointer (some ⟨g, 0, none⟩), .int .i64 24] rfl zbd_ ?_; (refine (spec_l1Cur_pick.calls g s0_0 a42 m42 24 q45 a45 m45 w0 _ (st_in HO_1.out 1 rfl HS_42.out) HO_1.out.base HP45.out).mono ?_); rintro e w_2 ⟨rfl, hI, hB, hK⟩; refine ⟨_, rfl, ?_⟩; obtain ⟨vS_45, hS, ho⟩ := st_out HO_1.out 1 rfl hI hB hK; have HS_45 := aM hS; have HO_2 := aM ho; clear hI hB hK hS ho))
         obtain ⟨hR, hbx2, hB2, hK2⟩ := Sep.own_end (((HO_2.out.front 1 rfl).front 1 rfl)) HBW.out HG.out (fun w ok x cs b b' hM => by obtain rfl := k32_openM hM; exact k32_mkM _ _ _ _)
         obtain ⟨A9, c9, e9, hC9⟩ := HS_45.out
         subst e9
         have HR_ := aM hR
         have HX_ := aM (show IsS111 w0 _ g s0_0 _ _ from ⟨A9, c9, hbx2, HGE.out, hC9⟩)
         have HB_ := aM hB2
         have HK_ := aM hK2
         clear hR hbx2 hB2 hK2 hC9
         go_ret
         exact ⟨_, rfl, HR_.out, HX_.out, HB_.out, HK_.out⟩
      ·cases h
     ·have c2b : decide (0 < q9) = false := decide_eq_false c2
      rw [if_neg c2] at h
      injection h with h
      injection h with e1 e2
      injection e2 with e2 e3
      subst e1
      subst e2
      subst e3
      go_wp2
      obtain ⟨hR, hbx2, hB2, hK2⟩ := Sep.own_end (((HO.out.front 1 rfl).front 1 rfl)) HBW.out HG.out (fun w ok x cs b b' hM => by obtain rfl := k32_openM hM; exact k32_mkM _ _ _ _)
      obtain ⟨A9, c9, e9, hC9⟩ := HS_.out
      subst e9
      have HR_ := aM hR
      have HX_ := aM (show IsS111 w0 _ g s0_0 _ _ from ⟨A9, c9, hbx2, HGE.out, hC9⟩)
      have HB_ := aM hB2
      have HK_ := aM hK2
      clear hR hbx2 hB2 hK2 hC9
      go_ret
      exact ⟨_, rfl, HR_.out, HX_.out, HB_.out, HK_.out⟩
  ·cases h
end Go.Proofs.Ytbkighlfgaifeaa.QFnTracks
