/- Functions of FnLevels, each as a Lean function, with the proof that the Go code comes to its answers. -/
import Derived.Test.YtlnhpkjioppbiaaSFnLevelsx1
namespace Go.Proofs.Ytlnhpkjioppbiaa.QFnLevels
open Go.RowKit Go.Proofs.YtlnhpkjioppbiaaW.PrintWords Go.Proofs.YtlnhpkjioppbiaaW.PrintLast Go.Proofs.YtlnhpkjioppbiaaW.PrintMore
open Go.Proofs.YtlnhpkjioppbiaaW.PrintWords renaming pw_below_drewN → pN, below_drew1 → p1, below_alloc → pA
open Go.Proofs.YtlnhpkjioppbiaaW.PrintWords.Kd renaming R_alloc → kA, R_drewN → kN, R_drew → kD, Q_alloc → qA, Q_drewN → qN, Q_drew → qD, C_alloc → cA, C_drewN → cN, C_drew → cD
open Go.Proofs.YtlnhpkjioppbiaaW.PrintWords.Aside0 renaming mk → aM
open List renaming setIfInBounds_toArray → sI, set_cons_zero → s0, set_cons_succ → sS, map_toArray → mT, length_take → lT, length_drop → lD, map_cons → mC, map_nil → mN
open Option renaming bind_eq_some_iff → oB
attribute [local go_sem] max2_int min2_int max_two min_two max_three min_three max_four min_four
set_option maxHeartbeats 8000000
set_option maxRecDepth 100000
set_option linter.unusedVariables false
set_option linter.unusedSimpArgs false
theorem st_in {w0 w : World} {g : Nat} {vS : Value} {code : List Int} {at_ mix : Int} {L : List Sep.Item} (h : Sep.Own w0 w L) (i : Nat) (hi : L[i]? = some (Sep.Item.box g 86 #[vS, .int .i64 at_, .int .u64 mix])) (hS : ∃ A c, vS = .slice A code.length c ∧ Kd.C (Kd.int .u8) w0 A code.length code) : IsS86 w0 w g code at_ mix := by
 obtain ⟨A, c, rfl, hC⟩ := hS
 obtain ⟨P, h1⟩ := h.get i hi
 exact ⟨A, c, h1.2.2, h1.2.1, hC⟩
theorem st_out {w0 w w1 : World} {g : Nat} {cs : Array Value} {code : List Int} {at_ mix : Int} {L : List Sep.Item} (h : Sep.Own w0 w L) (i : Nat) (hi : L[i]? = some (Sep.Item.box g 86 cs)) (hI : IsS86 w0 w1 g code at_ mix) (hB : Below w0.heap.size w0 w1) (hK : KeepBut w w1 g none) :
  ∃ vS : Value, (∃ A c, vS = .slice A code.length c ∧ Kd.C (Kd.int .u8) w0 A code.length code) ∧ Sep.Own w0 w1 (L.set i (Sep.Item.box g 86 #[vS, .int .i64 at_, .int .u64 mix])) := by
 obtain ⟨A, c, hb, hg, hC⟩ := hI
 exact ⟨_, ⟨A, c, rfl, hC⟩, h.put i hi ⟨hB.os.trans h.base.os.symm, hB.tape.trans h.base.tape.symm, hB.output.trans h.base.output.symm, hK.1, fun k hk hn => hK.2 k hk hn (by simp)⟩ hb⟩
def stLen : Value → Nat
 | .slice _ m _ => m
 | _ => 0
theorem st_out2 {α β : Type} {d1 : Kd α} {d2 : Kd β} {e1 e2 : Nat} {v1 v2 : Value} {xs1 : List α} {xs2 : List β} {w0 w w1 : World} {g : Nat} {cs : Array Value} {code : List Int} {at_ mix : Int} {L : List Sep.Item} (h : Sep.Own w0 w L) (i : Nat) (hi : L[i]? = some (Sep.Item.box g 86 cs)) (hI : IsS86 w0 w1 g code at_ mix) (hB : Below w0.heap.size w0 w1) (hK : KeepBut w w1 g none)
  (h1 : d1.R e1 w1 w.heap.size (fun _ => True) v1 xs1) (h2 : d2.R e2 w1 w.heap.size (fun _ => True) v2 xs2) (hne : ∀ q, q ∈ e1 :: d1.E → q ∈ e2 :: d2.E → False) :
  ∃ vS : Value, (∃ A c, vS = .slice A code.length c ∧ Kd.C (Kd.int .u8) w0 A code.length code) ∧ Sep.Own w0 w1 (Sep.Item.row d1 e1 v1 xs1 :: Sep.Item.row d2 e2 v2 xs2 :: L.set i (Sep.Item.box g 86 #[vS, .int .i64 at_, .int .u64 mix])) := by
 obtain ⟨A, c, hb, hg, hC⟩ := hI
 refine ⟨.slice A code.length c, ⟨A, c, rfl, hC⟩, hB, ?_⟩
 obtain ⟨hB0, f, hf⟩ := h
 classical
 refine ⟨fun k => if k < w.heap.size then f k + 2 else if ∃ q cells, q ∈ e1 :: d1.E ∧ w1.heap[k]? = some (.cells cells q (0, 0)) then 0 else 1, fun j it hj => ?_⟩
 match j with
 | 0 =>
  obtain rfl : Sep.Item.row d1 e1 v1 xs1 = it := by simpa using hj
  refine Kd.R_mono (Kd.R_lower (Kd.R_mono (Kd.R_bound h1) (fun k hk => ?_)) hB0.size) (fun _ hk => hk)
  obtain ⟨_, hk0, _, q, hq, cells, hc⟩ := hk
  dsimp only
  rw [if_neg (by omega), if_pos ⟨q, cells, hq, hc⟩]
 | 1 =>
  obtain rfl : Sep.Item.row d2 e2 v2 xs2 = it := by simpa using hj
  refine Kd.R_mono (Kd.R_lower (Kd.R_mono (Kd.R_bound h2) (fun k hk => ?_)) hB0.size) (fun _ hk => hk)
  obtain ⟨_, hk0, _, q, hq, cells, hc⟩ := hk
  dsimp only
  rw [if_neg (by omega), if_neg]
  rintro ⟨q', cells', hq', hc'⟩
  rw [hc] at hc'
  injection hc' with hc'
  injection hc' with _ hc'
  subst hc'
  exact hne _ hq' hq
 | j + 2 =>
  rw [List.getElem?_cons_succ, List.getElem?_cons_succ, List.getElem?_set] at hj; have hgi := (hf i _ hi).1; have hgs : g < w.heap.size := blk_lt (hf i _ hi).2.2
  split at hj
  ·rename_i hij
   subst hij
   split at hj
   ·injection hj with hj
    subst hj
    exact ⟨by dsimp only; rw [if_pos hgs, hgi], hg, hb⟩
   ·cases hj
  ·rename_i hij
   have h0 := it.bound (hf j it hj)
   refine it.mono (fun k hk => ?_) (it.step h0 (fun k hk hs => hK.2 k hs (fun e => ?_) (by simp)))
   ·dsimp only
    rw [if_pos hk.2.2, hk.1]
   ·subst e
    exact hij (hgi.symm.trans hk.1)
def ciGates (code : List Int) (inp : Int) : Nat → List S109 → Int → Int → Option (List S109 × Int × Int)
 | 0, l, a, m => some (l, a, m)
 | d + 1, l, a, m => (spec_l1Cur_pick.f code a m 4).bind fun x => (spec_l1Cur_pick.f code x.2.1 x.2.2 (wrap64 (inp + (l.length : Int)))).bind fun y => (spec_l1Cur_pick.f code y.2.1 y.2.2 (wrap64 (inp + (l.length : Int)))).bind fun z => ciGates code inp d (l ++ [(⟨wrap64 (1 + x.1), y.1, if wrap64 (1 + x.1) = 4 then y.1 else z.1⟩ : S109)]) z.2.1 z.2.2
def ciOuts (code : List Int) (inp n : Int) : Nat → List Int → Int → Int → Option (List Int × Int × Int)
 | 0, l, a, m => some (l, a, m)
 | d + 1, l, a, m => (spec_l1Cur_pick.f code a m (wrap64 (inp + n))).bind fun y => (spec_l1Cur_among.f code y.2.1 y.2.2 [wrap64 (wrap64 (inp + n) - 1), y.1]).bind fun z => ciOuts code inp n d (l ++ [z.1]) z.2.1 z.2.2
def ciBody (code : List Int) (inp n a m : Int) : Option (Int × List S109 × List Int × Int × Int) :=
 if n ≤ 1000 then ((ciGates code inp n.toNat [] a m).bind fun lp => (spec_l1Cur_pick.f code lp.2.1 lp.2.2 3).bind fun kk => if wrap64 (1 + kk.1) ≤ 1000 then ((ciOuts code inp n (wrap64 (1 + kk.1)).toNat [] kk.2.1 kk.2.2).bind fun op => some (inp, lp.1, op.1, op.2.1, op.2.2)) else none) else none
def spec_l1Cur_circuit.f (s0_0 : List Int) (s0_1 : Int) (s0_2 : Int) : Option (Int × List S109 × List Int × Int × Int) :=
 (spec_l1Cur_pick.f s0_0 s0_1 s0_2 4).bind fun b1 => (spec_l1Cur_pick.f s0_0 b1.2.1 b1.2.2 7).bind fun b2 => (spec_l1Cur_one.f s0_0 b2.2.1 b2.2.2 20).bind fun b3 => if b3.1 = true then ciBody s0_0 (wrap64 (1 + b1.1)) 16 b3.2.1 b3.2.2 else ciBody s0_0 (wrap64 (1 + b1.1)) b2.1 b3.2.1 b3.2.2
open Go.Proofs.Ytlnhpkjioppbiaa.Sep in
set_option maxHeartbeats 32000000 in
set_option maxRecDepth 100000 in
theorem spec_l1Cur_circuit.calls (g : Nat) (s0_0 : List Int) (s0_1 : Int) (s0_2 : Int) (r1 : Int) (r2 : List S109) (r3 : List Int) (r4 : Int) (r5 : Int) (w0 w : World) (hI : IsS86 w0 w g s0_0 s0_1 s0_2) (hB : Below w0.heap.size w0 w) (h : spec_l1Cur_circuit.f s0_0 s0_1 s0_2 = some (r1, r2, r3, r4, r5)) :
  Calls Try.prog 121 #[.pointer (some ⟨g, 0, none⟩)] w fun e w' => ∃ v1_ v2_ : Value, e = .returned (.agg #[.int .i64 r1, v1_, v2_]) ∧ Kd.R k109 109 w' w.heap.size (fun _ => True) v1_ r2 ∧ Kd.R (Kd.int .i64) 3 w' w.heap.size (fun _ => True) v2_ r3 ∧ IsS86 w0 w' g s0_0 r4 r5 ∧ Below w0.heap.size w0 w' ∧ KeepBut w w' g none := by
 obtain ⟨A0, c0, hbx, hge, hC⟩ := hI
 have HG := aM (blk_lt hbx)
 have HGE := aM hge
 obtain ⟨vS_0, hS, ho⟩ : ∃ vS : Value, (∃ A c, vS = .slice A s0_0.length c ∧ Kd.C (Kd.int .u8) w0 A s0_0.length s0_0) ∧ Own w0 w [Sep.Item.box g 86 #[vS, .int .i64 s0_1, .int .u64 s0_2], Sep.Item.kept w g] := ⟨_, ⟨A0, c0, rfl, hC⟩, Sep.own_start hB hge hbx⟩
 have HS_0 := aM hS
 have HO := aM ho
 have HBW := aM hB
 clear hS ho hB hbx hge hC
 unfold spec_l1Cur_circuit.f at h
 obtain ⟨⟨q9, a9, m9⟩, e9, h_⟩ := oB.mp h
 clear h
 have h := h_
 clear h_
 have HP9 := aM e9
 clear e9
 dsimp only at h
 obtain ⟨⟨q13, a13, m13⟩, e13, h_⟩ := oB.mp h
 clear h
 have h := h_
 clear h_
 have HP13 := aM e13
 clear e13
 dsimp only at h
 obtain ⟨⟨q15, a15, m15⟩, e15, h_⟩ := oB.mp h
 clear h
 have h := h_
 clear h_
 have HP15 := aM e15
 clear e15
 dsimp only at h
 obtain ⟨inp, hinp⟩ : ∃ inp, wrap64 (1 + q9) = inp := ⟨_, rfl⟩
 rw [hinp] at h
 have HF := aM h
 clear h
 have h := HF.out
 clear HF
 obtain ⟨nn, hnn⟩ : ∃ nn : Int, (if q15 = true then (16 : Int) else q13) = nn := ⟨_, rfl⟩
 have h2 : ciBody s0_0 inp nn a15 m15 = some (r1, r2, r3, r4, r5) := by
  rw [← hnn]
  by_cases hb : q15 = true
  ·rw [if_pos hb] at h ⊢
   exact h
  ·rw [if_neg hb] at h ⊢
   exact h
 clear h
 have HNN := aM hnn
 have HF := aM h2
 clear hnn h2
 go_enter Try.func121, Try.ntmps121
 go_upto_if 15 with (first | ((with_reducible refine gate_dst (N := 2) rfl ?_); refine box_event ?hg (N := 2) ?hd (cs := #[.int .i64 0, .slice none 0 0, .slice none 0 0]) (t := 61) ?hr ?_; (case hd => rfl); (case hg => rfl); (case hr => exact zd_); intro g2 hg w_1 hbox hb; have HO_1 := aM (HO.out.add_box (T := 61) (cs := #[.int .i64 0, .slice none 0 0, .slice none 0 0]) hg hbox hb); clear hg hbox hb) | ((with_reducible refine gate_callee (f := 68) rfl ?_); refine goesL_ (some 9) rfl rfl Try.func68 (by kernel_rfl) rfl #[.pointer (some ⟨g, 0, none⟩), .int .i64 4] rfl ze_ ?_; (refine (spec_l1Cur_pick.calls g s0_0 s0_1 s0_2 4 q9 a9 m9 w0 _ (st_in HO_1.out 1 rfl HS_0.out) HO_1.out.base HP9.out).mono ?_); rintro e w_2 ⟨rfl, hI, hB, hK⟩; refine ⟨_, rfl, ?_⟩; obtain ⟨vS_9, hS, ho⟩ := st_out HO_1.out 1 rfl hI hB hK; have HS_9 := aM hS; have HO_2 := aM ho; clear hI hB hK hS ho) | ((with_reducible refine gate_dst (N := 3) rfl ?_); refine box_event ?hg (N := 3) ?hd (cs := #[.int .i64 0, .slice none 0 0, .slice none 0 0]) (t := 61) ?hr ?_; (case hd => rfl); (case hg => rfl); (case hr => exact zd_); intro g3 hg w_3 hbox hb; have HO_3 := aM (HO_2.out.add_box (T := 61) (cs := #[.int .i64 0, .slice none 0 0, .slice none 0 0]) hg hbox hb); clear hg hbox hb) | ((with_reducible refine gate_store (t := 61) (p := 3) (v := .tmp 11) rfl ?_); refine Sep.own_store HO_3.out 0 g3 61 _ #[.int .i64 inp, .slice none 0 0, .slice none 0 0] rfl rfl rfl 61 (.tmp 3) (.tmp 11) rfl rfl _ rfl rfl rfl (by kernel_rfl) (by simp [Value.oneCell']) ?_; intro w_4 ho; have HO_4 := aM ho; clear ho) | ((with_reducible refine gate_callee (f := 68) rfl ?_); refine goesL_ (some 13) rfl rfl Try.func68 (by kernel_rfl) rfl #[.pointer (some ⟨g, 0, none⟩), .int .i64 7] rfl ze_ ?_; (refine (spec_l1Cur_pick.calls g s0_0 a9 m9 7 q13 a13 m13 w0 _ (st_in HO_4.out 2 rfl HS_9.out) HO_4.out.base HP13.out).mono ?_); rintro e w_5 ⟨rfl, hI, hB, hK⟩; refine ⟨_, rfl, ?_⟩; obtain ⟨vS_13, hS, ho⟩ := st_out HO_4.out 2 rfl hI hB hK; have HS_13 := aM hS; have HO_5 := aM ho; clear hI hB hK hS ho) | ((with_reducible refine gate_callee (f := 65) rfl ?_); refine goesL_ (some 15) rfl rfl Try.func65 (by kernel_rfl) rfl #[.pointer (some ⟨g, 0, none⟩), .int .i64 20] rfl ze_ ?_; (refine (spec_l1Cur_one.calls g s0_0 a13 m13 20 q15 a15 m15 w0 _ (st_in HO_5.out 2 rfl HS_13.out) HO_5.out.base HP15.out).mono ?_); rintro e w_6 ⟨rfl, hI, hB, hK⟩; refine ⟨_, rfl, ?_⟩; obtain ⟨vS_15, hS, ho⟩ := st_out HO_5.out 2 rfl hI hB hK; have HS_15 := aM hS; have HO_6 := aM ho; clear hI hB hK hS ho))
 (try simp only [Act.put, sI, s0, sS])
 go_cut [4] (fun v4 wc => v4 = .int .i64 nn ∧ Aside0 (Own w0 wc (Item.box g3 61 #[.int .i64 inp, .slice none 0 0, .slice none 0 0] :: Item.box g2 61 #[.int .i64 0, .slice none 0 0, .slice none 0 0] :: Item.box g 86 #[vS_15, .int .i64 a15, .int .u64 m15] :: [Sep.Item.kept w g])))
 case first =>
  have hnn := HNN.out
  cases q15 with
  | true =>
   rw [if_pos rfl] at hnn; subst hnn
   go_wp2
   go_meet
   case rel => exact ⟨rfl, ⟨HO_6.out⟩⟩
  | false =>
   rw [if_neg (by decide)] at hnn; subst hnn
   go_wp2
   go_meet
   case rel => exact ⟨rfl, ⟨HO_6.out⟩⟩
 case rest =>
  clear HO_6 HNN; obtain ⟨rfl, HOC⟩ := hcut; have h := HF.out; clear HF
  unfold ciBody at h
  split at h
  ·rename_i hn1
   have HN1 := aM hn1; clear hn1; obtain ⟨⟨q118, a118, m118⟩, e118, h_⟩ := oB.mp h; clear h; have h := h_; clear h_; have HP118 := aM e118; clear e118
   dsimp only at h
   obtain ⟨⟨q50, a50, m50⟩, e50, h_⟩ := oB.mp h; clear h; have h := h_; clear h_; have HP50 := aM e50; clear e50
   dsimp only at h
   obtain ⟨kk, hkk⟩ : ∃ kk, wrap64 (1 + q50) = kk := ⟨_, rfl⟩; rw [hkk] at h
   split at h
   ·rename_i hk1
    have HK1 := aM hk1; clear hk1; obtain ⟨⟨q119, a119, m119⟩, e119, h_⟩ := oB.mp h; clear h; have h := h_; clear h_; have HP119 := aM e119; clear e119
    dsimp only at h
    injection h with h
    injection h with e_0 h
    injection h with e_1 h
    injection h with e_2 h
    injection h with e_3 h
    have e_4 := h; clear h; subst e_0; subst e_1; subst e_2; subst e_3; subst e_4
    go_wp2
    go_loopg [] nn.toNat (fun kq wr => ∃ (l : List S109) (at_ mx_ : Int) (vS_ : Value) (Ag_ : Option Addr) (mg_ cg_ : Nat), Aside0 (ciGates s0_0 inp kq l at_ mx_ = some (q118, a118, m118)) ∧ Aside0 (mg_ = l.length ∧ l.length + kq = nn.toNat) ∧ Aside0 (∃ A c, vS_ = .slice A s0_0.length c ∧ Kd.C (Kd.int .u8) w0 A s0_0.length s0_0) ∧ Aside0 (Own w0 wr (Item.row k109 109 (.slice Ag_ mg_ cg_) (l) :: Item.box g 86 #[vS_, .int .i64 at_, .int .u64 mx_] :: Item.box g3 61 #[.int .i64 inp, .slice Ag_ mg_ cg_, .slice none 0 0] :: Item.box g2 61 #[.int .i64 0, .slice none 0 0, .slice none 0 0] :: [Sep.Item.kept w g])))
    case atStart => exact ⟨[], a15, m15, vS_15, none, 0, 0, HP118, ⟨rfl, by simp⟩, HS_15, ⟨(((((HOC.out.nilrow k109 109).front 2 rfl).front 2 rfl).front 3 rfl).front 3 rfl)⟩⟩
    case round =>
     obtain ⟨l, at_, mx_, vS_, Ag_, mg_, cg_, HL, HM, HS_, HO⟩ := hrel; clear HOC
     cases gk with
     | zero =>
      have hl := HL.out; rw [ciGates] at hl
      injection hl with hl
      injection hl with e_0 hl
      injection hl with e_1 hl
      have e_2 := hl; clear hl; subst e_0; subst e_1; subst e_2; have c1b : decide ((mg_ : Int) < nn) = false := decide_eq_false (by have := HM.out; omega); clear HL; have z_1 : wr.cell? ⟨g3, 1, none⟩ = some (.slice Ag_ mg_ cg_) := (HO.out.cell 2 rfl 1 rfl)
      go_wp2_with (first | ((with_reducible refine gate_callee (f := 68) rfl ?_); refine goesL_ (some 50) rfl rfl Try.func68 (by kernel_rfl) rfl #[.pointer (some ⟨g, 0, none⟩), .int .i64 3] rfl ze_ ?_; (refine (spec_l1Cur_pick.calls g s0_0 at_ mx_ 3 q50 a50 m50 w0 _ (st_in HO.out 1 rfl HS_.out) HO.out.base HP50.out).mono ?_); rintro e w_1 ⟨rfl, hI, hB, hK⟩; refine ⟨_, rfl, ?_⟩; obtain ⟨vS_50, hS, ho⟩ := st_out HO.out 1 rfl hI hB hK; have HS_50 := aM hS; have HO_1 := aM ho; clear hI hB hK hS ho))
      (try simp only [Act.put, sI, s0, sS])
      go_loopg [7] kk.toNat (fun kq v7 wr => ∃ (kv_ : Int) (lo : List Int) (at_ mx_ : Int) (vS_ : Value) (Ao_ : Option Addr) (mo_ co_ : Nat), v7 = .int .i64 kv_ ∧ Aside0 (ciOuts s0_0 inp nn kq lo at_ mx_ = some (q119, a119, m119)) ∧ Aside0 (mo_ = lo.length ∧ lo.length + kq = kk.toNat ∧ kv_ ≤ 1000 ∧ kv_.toNat = kq) ∧ Aside0 (∃ A c, vS_ = .slice A s0_0.length c ∧ Kd.C (Kd.int .u8) w0 A s0_0.length s0_0) ∧ Aside0 (Own w0 wr (Item.row (Kd.int .i64) 3 (.slice Ao_ mo_ co_) (lo) :: Item.row k109 109 (.slice Ag_ mg_ cg_) (l) :: Item.box g 86 #[vS_, .int .i64 at_, .int .u64 mx_] :: Item.box g3 61 #[.int .i64 inp, .slice Ag_ mg_ cg_, .slice Ao_ mo_ co_] :: Item.box g2 61 #[.int .i64 0, .slice none 0 0, .slice none 0 0] :: [Sep.Item.kept w g])))
      case atStart => exact ⟨kk, [], a50, m50, vS_50, none, 0, 0, congrArg (Value.int .i64) hkk, HP119, ⟨rfl, by simp, HK1.out, rfl⟩, HS_50, ⟨((((((HO_1.out.nilrow (Kd.int .i64) 3).front 4 rfl).front 4 rfl).front 4 rfl).front 4 rfl).front 4 rfl)⟩⟩
      case round =>
       obtain ⟨kv_, lo, at_, mx_, vS_, Ao_, mo_, co_, rfl, HL, HM2, HS_, HO⟩ := hrel; clear HO_1
       cases gk with
       | zero =>
        have hl := HL.out; rw [ciOuts] at hl
        injection hl with hl
        injection hl with e_0 hl
        injection hl with e_1 hl
        have e_2 := hl; clear hl; subst e_0; subst e_1; subst e_2; have c4b : decide (kv_ > 0) = false := decide_eq_false (by have := HM2.out; omega); have c4c : decide (0 < kv_) = false := decide_eq_false (by have := HM2.out; omega); clear HL; have z_2 : wr.cell? ⟨g3, 0, none⟩ = some (.int .i64 inp) := (HO.out.cell 3 rfl 0 rfl); have z_3 : wr.cell? ⟨g3, 1, none⟩ = some (.slice Ag_ mg_ cg_) := (HO.out.cell 3 rfl 1 rfl); have z_4 : wr.cell? ⟨g3, 2, none⟩ = some (.slice Ao_ mo_ co_) := (HO.out.cell 3 rfl 2 rfl)
        go_wp2_with (first | ((with_reducible refine gate_store (t := 61) (p := 2) (v := .tmp 75) rfl ?_); refine Sep.own_store HO.out 4 g2 61 _ #[.int .i64 inp, .slice Ag_ mg_ cg_, .slice Ao_ mo_ co_] rfl rfl rfl 61 (.tmp 2) (.tmp 75) rfl rfl _ rfl rfl rfl (by kernel_rfl) (by simp [Value.oneCell']) ?_; intro w_1 ho; have HO_1 := aM ho; clear ho))
        obtain ⟨hR, hbx2, hB2, hK2⟩ := Sep.own_end ((((((HO_1.out.front 2 rfl).front 2 rfl).front 4 rfl).front 4 rfl).front 4 rfl).tail.tail.tail) HBW.out HG.out (fun w ok x cs b b' hM => by obtain rfl := k109_openM hM; exact k109_mkM _ _ _ _); obtain ⟨hR2, _, _, _⟩ := Sep.own_end ((((((HO_1.out.front 2 rfl).front 1 rfl).front 4 rfl).front 4 rfl).front 4 rfl).tail.tail.tail) HBW.out HG.out (fun w ok x cs b b' hM => hM); obtain ⟨A9, c9, e9, hC9⟩ := HS_.out; subst e9; have HR_ := aM hR; have HR2_ := aM hR2; have HX_ := aM (show IsS86 w0 _ g s0_0 _ _ from ⟨A9, c9, hbx2, HGE.out, hC9⟩); have HB_ := aM hB2; have HK_ := aM hK2; clear hR hR2 hbx2 hB2 hK2 hC9; (try simp only [Exit.inBlock, Exit.then])
        refine bodyPost_ret (results_cell_row rfl _ _ g2 61 #[.int .i64 inp, .slice Ag_ mg_ cg_, .slice Ao_ mo_ co_] (0, 0) _ rfl (HO_1.out.blk 4 rfl) Try.underlying61 rfl (by kernel_rfl)) rfl ?_
        exact ⟨_, _, rfl, HR_.out, HR2_.out, HX_.out, HB_.out, HK_.out⟩
       | succ k1 =>
        have c4b : decide (kv_ > 0) = true := decide_eq_true (by have := HM2.out; omega); have c4c : decide (0 < kv_) = true := decide_eq_true (by have := HM2.out; omega); have hl := HL.out; rw [ciOuts] at hl; obtain ⟨⟨q69, a69, m69⟩, e69, h_⟩ := oB.mp hl; clear hl; have hl := h_; clear h_; have HP69 := aM e69; clear e69
        dsimp only at hl
        obtain ⟨⟨q71, a71, m71⟩, e71, h_⟩ := oB.mp hl; clear hl; have hl := h_; clear h_; have HP71 := aM e71; clear e71
        dsimp only at hl
        have HL2 := aM hl; clear hl HL
        go_wp2
        have HD_14_1 := aM (HO.out.drew)
        refine start_ (n := 20) (S := fun w' => w'.cell? ⟨g3, 2, none⟩ = some (.slice Ao_ mo_ co_) ∧ w'.cell? ⟨g3, 0, none⟩ = some (.int .i64 inp)) (ds := [19]) #[fi,fi,fi,fi,fi,fi,fi,fi,fi,fi,fi,fi,fi,fi,fi,fi,fi,fi,fi,fi] (by kernel_rfl) rfl rfl ⟨(HD_14_1.out.cell 3 rfl 2 rfl), (HD_14_1.out.cell 3 rfl 0 rfl)⟩ (fun hHeld => ?_)
        generalize wr.drew = wd_14_2 at HD_14_1 hHeld ⊢
        refine oz_ 0 56 ?_
        refine oz_ 2 58 ?_
        refine oz_ 3 59 ?_
        refine oz_ 5 61 ?_
        refine oz_ 8 64 ?_
        refine oz_ 9 65 ?_
        refine oz_ 11 67 ?_
        refine tz2_ 1 57 hHeld ?_
        refine tz2_ 4 60 hHeld ?_
        refine oz_ 6 62 ?_
        refine oz_ 7 63 ?_
        refine tz2_ 10 66 hHeld ?_
        refine oz_ 12 68 ?_
        refine oo_ 13 69 (fun K hK => ?_)
        refine goes_ Try.func68 (by kernel_rfl) rfl #[.pointer (some ⟨g, 0, none⟩), .int .i64 (wrap64 (inp + nn))] (by rfl) rfl rfl zbi_ ?_
        (refine (spec_l1Cur_pick.calls g s0_0 at_ mx_ (wrap64 (inp + nn)) q69 a69 m69 w0 _ (st_in HD_14_1.out 2 rfl HS_.out) HD_14_1.out.base HP69.out).mono ?_)
        rintro e w_1 ⟨rfl, hI, hB, hK⟩
        refine ⟨_, rfl, ?_⟩
        obtain ⟨vS_69, hS, ho⟩ := st_out HD_14_1.out 2 rfl hI hB hK; have HS_69 := aM hS; have HO_1 := aM ho; clear hI hB hK hS ho
        refine hK.out _ _ ⟨(HO_1.out.cell 3 rfl 2 rfl), (HO_1.out.cell 3 rfl 0 rfl)⟩ (fun hHeld => ?_)
        clear hK K
        refine nz_ 69 ?_
        refine oo_ 14 70 (fun K hK => ?_)
        refine Sep.own_litN_step (Value.int .i64) (h1 := fun _ => rfl) HO_1.out 3 [wrap64 (wrap64 (inp + nn) - 1), q69] 2 rfl [.int .i64 (wrap64 (wrap64 (inp + nn) - 1)), .int .i64 q69] rfl (by decide) (by rfl) (N := 70) rfl zd_ ?_
        intro x_70 w_2 ho _
        obtain ⟨g_70, n_70, c_70, hn_, rfl⟩ := Sep.own_row_fseal ho 0 rfl (by simp); obtain rfl : n_70 = 2 := hn_; have HO_2 := aM ho; clear ho
        refine hK.out _ _ ⟨(HO_2.out.cell 4 rfl 2 rfl), (HO_2.out.cell 4 rfl 0 rfl)⟩ (fun hHeld => ?_)
        clear hK K
        refine nz_ 70 ?_
        refine oo_ 15 71 (fun K hK => ?_)
        refine goes_ Try.func66 (by kernel_rfl) rfl #[.pointer (some ⟨g, 0, none⟩), .slice ((some ⟨g_70, 0, none⟩)) 2 c_70] (by rfl) rfl rfl zbi_ ?_
        (refine (spec_l1Cur_among.calls g s0_0 a69 m69 ((some ⟨g_70, 0, none⟩)) c_70 ([wrap64 (wrap64 (inp + nn) - 1), q69]) q71 a71 m71 w0 _ (st_in HO_2.out 3 rfl HS_69.out) HO_2.out.base (by exact (HO_2.out.row_reads 0 rfl).2.2) (by exact (HO_2.out.row_reads 0 rfl).2.1) (fun ad he _ => by injection he with he; subst he; exact HO_2.out.row_ne_box 0 3 (by decide) rfl rfl) HP71.out).mono ?_)
        rintro e w_3 ⟨rfl, hI, hB, hK⟩
        refine ⟨_, rfl, ?_⟩
        obtain ⟨vS_71, hS, ho⟩ := st_out HO_2.out 3 rfl hI hB hK; have HS_71 := aM hS; have HO_3 := aM ho; clear hI hB hK hS ho
        refine hK.out _ _ ⟨(HO_3.out.cell 4 rfl 2 rfl), (HO_3.out.cell 4 rfl 0 rfl)⟩ (fun hHeld => ?_)
        clear hK K
        refine nz_ 71 ?_
        refine oo_ 16 72 (fun K hK => ?_)
        refine value_ (w1 := ?_) (v := ?_) (by rfl) rfl ?_ ?_
        rotate_left 2
        ·go_simp
         constructor
         ·rfl
         ·rfl
        have HOb72 := aM (HO_3.out.below (pA (Below.refl _ _) (.cells #[.int .i64 q71] 3)))
        refine hK.out _ _ ⟨(HOb72.out.cell 4 rfl 2 rfl), (HOb72.out.cell 4 rfl 0 rfl)⟩ (fun hHeld => ?_)
        clear hK K
        refine nz_ 72 ?_
        refine oo_ 17 73 (fun K hK => ?_)
        refine Sep.own_append_step (Kd.int .i64) HO_3.out 1 _ (lo) 3 rfl (by rfl) (.tmp 57) (.tmp 72) 39 (.int .i64 0) 8 rfl Try.underlying39 info3 rfl (by decide) (by omega) q71 [.int .i64 q71] rfl rfl rfl (by have := HM2.out; have := HK1.out; omega) ?_
        intro x_73 w_5 ho
        obtain ⟨A_73, n_73, c_73, hn_, rfl⟩ := ho.row_seal 1 rfl; have HN_73 := aM hn_; clear hn_; have HO_5 := aM ho; clear ho
        refine hK.out _ _ ⟨(HO_5.out.cell 4 rfl 2 rfl), (HO_5.out.cell 4 rfl 0 rfl)⟩ (fun hHeld => ?_)
        clear hK K
        refine nz_ 73 ?_
        refine oz_ 18 74 ?_
        refine last_ (i := 19) (N := none) #[ti,ti,ti,ti,ti,ti,ti,ti,ti,ti,ti,ti,ti,ti,ti,ti,ti,ti,ti,ti] rfl rfl (by kernel_rfl) (by decide) (fun K hK => ?_)
        have hbs := HO_5.out.cell 4 rfl 2 rfl; have hbf := HO_5.out.free 4 rfl 2
        refine skip_ (w1 := ?_) (by rfl) rfl ?_ ?_
        rotate_left
        ·go_simp
         rfl
        have HO_6 := aM (HO_5.out.put1 4 rfl 2 (.slice A_73 n_73 c_73)); clear hbs hbf
        refine hK.out _ _ ?_
        clear hK K
        refine done_ (by kernel_rfl) ?_
        go_wp2
        go_roundg k1
        case measure => omega
        case rel => exact ⟨wrap64 (kv_ - 1), lo ++ [q71], a71, m71, vS_71, _, _, _, rfl, HL2, ⟨HN_73.out, by rw [List.length_append, List.length_singleton]; have := HM2.out; omega, by have := HM2.out; unfold wrap64; omega, by have := HM2.out; unfold wrap64; omega⟩, HS_71, ⟨((((((HO_6.out.front 5 rfl).front 5 rfl).front 5 rfl).front 5 rfl).front 5 rfl).front 5 rfl).tail⟩⟩
     | succ k1 =>
      have c1b : decide ((mg_ : Int) < nn) = true := decide_eq_true (by have := HM.out; omega); have hl := HL.out; rw [ciGates, ← HM.out.1] at hl; obtain ⟨⟨q28, a28, m28⟩, e28, h_⟩ := oB.mp hl; clear hl; have hl := h_; clear h_; have HP28 := aM e28; clear e28
      dsimp only at hl
      obtain ⟨⟨q32, a32, m32⟩, e32, h_⟩ := oB.mp hl; clear hl; have hl := h_; clear h_; have HP32 := aM e32; clear e32
      dsimp only at hl
      obtain ⟨⟨q35, a35, m35⟩, e35, h_⟩ := oB.mp hl; clear hl; have hl := h_; clear h_; have HP35 := aM e35; clear e35
      dsimp only at hl
      obtain ⟨kd, hkd⟩ : ∃ kd, wrap64 (1 + q28) = kd := ⟨_, rfl⟩; rw [hkd] at hl; have HL2 := aM hl; clear hl HL
      by_cases c3 : kd = 4
      ·have hl := HL2.out
       rw [if_pos c3] at hl; have HL3 := aM hl; clear hl HL2; have c3b : (kd == 4) = true := beq_iff_eq.mpr c3; clear c3; have z_1 : wr.cell? ⟨g3, 1, none⟩ = some (.slice Ag_ mg_ cg_) := (HO.out.cell 2 rfl 1 rfl); have z_2 : wr.cell? ⟨g3, 0, none⟩ = some (.int .i64 inp) := (HO.out.cell 2 rfl 0 rfl); have z_3 : wr.cell? ⟨g3, 1, none⟩ = some (.slice Ag_ mg_ cg_) := (HO.out.cell 2 rfl 1 rfl)
       go_wp2_with (first | ((with_reducible refine gate_callee (f := 68) rfl ?_); refine goesL_ (some 28) rfl rfl Try.func68 (by kernel_rfl) rfl #[.pointer (some ⟨g, 0, none⟩), .int .i64 4] rfl ze_ ?_; (refine (spec_l1Cur_pick.calls g s0_0 at_ mx_ 4 q28 a28 m28 w0 _ (st_in HO.out 1 rfl HS_.out) HO.out.base HP28.out).mono ?_); rintro e w_1 ⟨rfl, hI, hB, hK⟩; refine ⟨_, rfl, ?_⟩; obtain ⟨vS_28, hS, ho⟩ := st_out HO.out 1 rfl hI hB hK; have HS_28 := aM hS; have HO_1 := aM ho; clear hI hB hK hS ho) | ((with_reducible refine gate_callee (f := 68) rfl ?_); refine goesL_ (some 32) rfl rfl Try.func68 (by kernel_rfl) rfl #[.pointer (some ⟨g, 0, none⟩), .int .i64 (wrap64 (inp + ((mg_ : Int))))] rfl ze_ ?_; (refine (spec_l1Cur_pick.calls g s0_0 a28 m28 (wrap64 (inp + ((mg_ : Int)))) q32 a32 m32 w0 _ (st_in HO_1.out 1 rfl HS_28.out) HO_1.out.base HP32.out).mono ?_); rintro e w_2 ⟨rfl, hI, hB, hK⟩; refine ⟨_, rfl, ?_⟩; obtain ⟨vS_32, hS, ho⟩ := st_out HO_1.out 1 rfl hI hB hK; have HS_32 := aM hS; have HO_2 := aM ho; clear hI hB hK hS ho) | ((with_reducible refine gate_callee (f := 68) rfl ?_); refine goesL_ (some 35) rfl rfl Try.func68 (by kernel_rfl) rfl #[.pointer (some ⟨g, 0, none⟩), .int .i64 (wrap64 (inp + ((mg_ : Int))))] rfl ze_ ?_; (refine (spec_l1Cur_pick.calls g s0_0 a32 m32 (wrap64 (inp + ((mg_ : Int)))) q35 a35 m35 w0 _ (st_in HO_2.out 1 rfl HS_32.out) HO_2.out.base HP35.out).mono ?_); rintro e w_3 ⟨rfl, hI, hB, hK⟩; refine ⟨_, rfl, ?_⟩; obtain ⟨vS_35, hS, ho⟩ := st_out HO_2.out 1 rfl hI hB hK; have HS_35 := aM hS; have HO_3 := aM ho; clear hI hB hK hS ho) | ((with_reducible refine gate_dst (N := 6) rfl ?_); refine box_event ?hg (N := 6) ?hd (cs := #[.int .i64 0, .int .i64 0, .int .i64 0]) (t := 109) ?hr ?_; (case hd => rfl); (case hg => rfl); (case hr => exact zd_); intro g6 hg w_4 hbox hb; have HO_4 := aM (HO_3.out.add_box (T := 109) (cs := #[.int .i64 0, .int .i64 0, .int .i64 0]) hg hbox hb); clear hg hbox hb) | ((with_reducible refine gate_store (t := 109) (p := 6) (v := .tmp 36) rfl ?_); refine Sep.own_store HO_4.out 0 g6 109 _ #[.int .i64 kd, .int .i64 q32, .int .i64 q35] rfl rfl rfl 109 (.tmp 6) (.tmp 36) rfl rfl _ rfl rfl rfl (by kernel_rfl) (by simp [Value.oneCell']) ?_; intro w_5 ho; have HO_5 := aM ho; clear ho; have z_4 : w_5.cell? ⟨g6, 0, none⟩ = some (.int .i64 kd) := (HO_5.out.cell 0 rfl 0 rfl); have z_5 : w_5.cell? ⟨g6, 1, none⟩ = some (.int .i64 q32) := (HO_5.out.cell 0 rfl 1 rfl)) | ((with_reducible refine gate_store (t := 3) (p := 42) (v := .tmp 41) rfl ?_); refine Sep.own_store_at HO_5.out 0 g6 109 _ rfl rfl rfl 3 (.tmp 42) (.tmp 41) rfl 2 rfl (.int .i64 q32) rfl rfl (by kernel_rfl) rfl (by simp) ?_; intro w_6 ho; have HO_6 := aM ho; clear ho; have z_6 : w_6.cell? ⟨g3, 1, none⟩ = some (.slice Ag_ mg_ cg_) := (HO_6.out.cell 3 rfl 1 rfl); have z_7 : w_6.cell? ⟨g6, 0, none⟩ = some (.int .i64 kd) := (HO_6.out.cell 0 rfl 0 rfl); have z_8 : w_6.cell? ⟨g6, 1, none⟩ = some (.int .i64 q32) := (HO_6.out.cell 0 rfl 1 rfl); have z_9 : w_6.cell? ⟨g6, 2, none⟩ = some (.int .i64 q32) := (HO_6.out.cell 0 rfl 2 rfl)) | ((with_reducible refine gate_dst (N := 47) rfl ?_); at_builtin; refine Sep.own_append k109 HO_6.out 1 _ (l) 109 rfl rfl (.tmp 44) (.tmp 46) 59 (.agg #[.int .i64 0, .int .i64 0, .int .i64 0]) 24 rfl Try.underlying59 info109 rfl (by decide) (by omega) ((⟨kd, q32, q32⟩ : S109)) [.int .i64 kd, .int .i64 q32, .int .i64 q32] rfl rfl (k109_mkM _ _ _ _) (by have := HM.out; have := HN1.out; omega) ?_; intro x_47 w_8 ho; obtain ⟨A_47, n_47, c_47, hn_, rfl⟩ := ho.row_seal 1 rfl; have HN_47 := aM hn_; clear hn_; have HO_8 := aM ho; clear ho) | ((with_reducible refine gate_store (t := 59) (p := 48) (v := .tmp 47) rfl ?_); refine Sep.own_store_at HO_8.out 3 g3 61 _ rfl rfl rfl 59 (.tmp 48) (.tmp 47) rfl 1 rfl (.slice A_47 n_47 c_47) rfl rfl (by kernel_rfl) rfl (by simp) ?_; intro w_9 ho; have HO_9 := aM ho; clear ho))
       go_roundg k1
       case measure => omega
       case rel => exact ⟨l ++ [(⟨kd, q32, q32⟩ : S109)], a35, m35, vS_35, _, _, _, HL3, ⟨HN_47.out, by rw [List.length_append, List.length_singleton]; have := HM.out; omega⟩, HS_35, ⟨(((((HO_9.out.front 4 rfl).front 4 rfl).front 4 rfl).front 4 rfl).front 4 rfl).tail⟩⟩
      ·have hl := HL2.out
       rw [if_neg c3] at hl; have HL3 := aM hl; clear hl HL2; have c3b : (kd == 4) = false := beq_eq_false_iff_ne.mpr c3; clear c3; have z_1 : wr.cell? ⟨g3, 1, none⟩ = some (.slice Ag_ mg_ cg_) := (HO.out.cell 2 rfl 1 rfl); have z_2 : wr.cell? ⟨g3, 0, none⟩ = some (.int .i64 inp) := (HO.out.cell 2 rfl 0 rfl); have z_3 : wr.cell? ⟨g3, 1, none⟩ = some (.slice Ag_ mg_ cg_) := (HO.out.cell 2 rfl 1 rfl)
       go_wp2_with (first | ((with_reducible refine gate_callee (f := 68) rfl ?_); refine goesL_ (some 28) rfl rfl Try.func68 (by kernel_rfl) rfl #[.pointer (some ⟨g, 0, none⟩), .int .i64 4] rfl ze_ ?_; (refine (spec_l1Cur_pick.calls g s0_0 at_ mx_ 4 q28 a28 m28 w0 _ (st_in HO.out 1 rfl HS_.out) HO.out.base HP28.out).mono ?_); rintro e w_1 ⟨rfl, hI, hB, hK⟩; refine ⟨_, rfl, ?_⟩; obtain ⟨vS_28, hS, ho⟩ := st_out HO.out 1 rfl hI hB hK; have HS_28 := aM hS; have HO_1 := aM ho; clear hI hB hK hS ho) | ((with_reducible refine gate_callee (f := 68) rfl ?_); refine goesL_ (some 32) rfl rfl Try.func68 (by kernel_rfl) rfl #[.pointer (some ⟨g, 0, none⟩), .int .i64 (wrap64 (inp + ((mg_ : Int))))] rfl ze_ ?_; (refine (spec_l1Cur_pick.calls g s0_0 a28 m28 (wrap64 (inp + ((mg_ : Int)))) q32 a32 m32 w0 _ (st_in HO_1.out 1 rfl HS_28.out) HO_1.out.base HP32.out).mono ?_); rintro e w_2 ⟨rfl, hI, hB, hK⟩; refine ⟨_, rfl, ?_⟩; obtain ⟨vS_32, hS, ho⟩ := st_out HO_1.out 1 rfl hI hB hK; have HS_32 := aM hS; have HO_2 := aM ho; clear hI hB hK hS ho) | ((with_reducible refine gate_callee (f := 68) rfl ?_); refine goesL_ (some 35) rfl rfl Try.func68 (by kernel_rfl) rfl #[.pointer (some ⟨g, 0, none⟩), .int .i64 (wrap64 (inp + ((mg_ : Int))))] rfl ze_ ?_; (refine (spec_l1Cur_pick.calls g s0_0 a32 m32 (wrap64 (inp + ((mg_ : Int)))) q35 a35 m35 w0 _ (st_in HO_2.out 1 rfl HS_32.out) HO_2.out.base HP35.out).mono ?_); rintro e w_3 ⟨rfl, hI, hB, hK⟩; refine ⟨_, rfl, ?_⟩; obtain ⟨vS_35, hS, ho⟩ := st_out HO_2.out 1 rfl hI hB hK; have HS_35 := aM hS; have HO_3 := aM ho; clear hI hB hK hS ho) | ((with_reducible refine gate_dst (N := 6) rfl ?_); refine box_event ?hg (N := 6) ?hd (cs := #[.int .i64 0, .int .i64 0, .int .i64 0]) (t := 109) ?hr ?_; (case hd => rfl); (case hg => rfl); (case hr => exact zd_); intro g6 hg w_4 hbox hb; have HO_4 := aM (HO_3.out.add_box (T := 109) (cs := #[.int .i64 0, .int .i64 0, .int .i64 0]) hg hbox hb); clear hg hbox hb) | ((with_reducible refine gate_store (t := 109) (p := 6) (v := .tmp 36) rfl ?_); refine Sep.own_store HO_4.out 0 g6 109 _ #[.int .i64 kd, .int .i64 q32, .int .i64 q35] rfl rfl rfl 109 (.tmp 6) (.tmp 36) rfl rfl _ rfl rfl rfl (by kernel_rfl) (by simp [Value.oneCell']) ?_; intro w_5 ho; have HO_5 := aM ho; clear ho; have z_4 : w_5.cell? ⟨g6, 0, none⟩ = some (.int .i64 kd) := (HO_5.out.cell 0 rfl 0 rfl); have z_5 : w_5.cell? ⟨g3, 1, none⟩ = some (.slice Ag_ mg_ cg_) := (HO_5.out.cell 3 rfl 1 rfl); have z_6 : w_5.cell? ⟨g6, 0, none⟩ = some (.int .i64 kd) := (HO_5.out.cell 0 rfl 0 rfl); have z_7 : w_5.cell? ⟨g6, 1, none⟩ = some (.int .i64 q32) := (HO_5.out.cell 0 rfl 1 rfl); have z_8 : w_5.cell? ⟨g6, 2, none⟩ = some (.int .i64 q35) := (HO_5.out.cell 0 rfl 2 rfl)) | ((with_reducible refine gate_dst (N := 47) rfl ?_); at_builtin; refine Sep.own_append k109 HO_5.out 1 _ (l) 109 rfl rfl (.tmp 44) (.tmp 46) 59 (.agg #[.int .i64 0, .int .i64 0, .int .i64 0]) 24 rfl Try.underlying59 info109 rfl (by decide) (by omega) ((⟨kd, q32, q35⟩ : S109)) [.int .i64 kd, .int .i64 q32, .int .i64 q35] rfl rfl (k109_mkM _ _ _ _) (by have := HM.out; have := HN1.out; omega) ?_; intro x_47 w_7 ho; obtain ⟨A_47, n_47, c_47, hn_, rfl⟩ := ho.row_seal 1 rfl; have HN_47 := aM hn_; clear hn_; have HO_7 := aM ho; clear ho) | ((with_reducible refine gate_store (t := 59) (p := 48) (v := .tmp 47) rfl ?_); refine Sep.own_store_at HO_7.out 3 g3 61 _ rfl rfl rfl 59 (.tmp 48) (.tmp 47) rfl 1 rfl (.slice A_47 n_47 c_47) rfl rfl (by kernel_rfl) rfl (by simp) ?_; intro w_8 ho; have HO_8 := aM ho; clear ho))
       go_roundg k1
       case measure => omega
       case rel => exact ⟨l ++ [(⟨kd, q32, q35⟩ : S109)], a35, m35, vS_35, _, _, _, HL3, ⟨HN_47.out, by rw [List.length_append, List.length_singleton]; have := HM.out; omega⟩, HS_35, ⟨(((((HO_8.out.front 4 rfl).front 4 rfl).front 4 rfl).front 4 rfl).front 4 rfl).tail⟩⟩
   ·cases h
  ·cases h
end Go.Proofs.Ytlnhpkjioppbiaa.QFnLevels
