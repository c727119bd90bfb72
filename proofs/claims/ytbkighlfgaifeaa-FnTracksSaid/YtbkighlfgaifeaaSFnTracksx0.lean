/- Functions of the law FnTracks, each as a Lean function, and the proofs that the Go code comes to their answers. Made by wip/gen/slim.py. Conditions: those of each theorem. -/
import Derived.Test.YtbkighlfgaifeaaProg
import Derived.Below
import Derived.Deep.Draws
import Derived.Deep.AppendLies
import Derived.Maps.AppendAt
import Derived.OwnWalk
import Derived.Laws.BytesArg
import Derived.Laws.MakeOwn
import Derived.Laws.OwnMore
import Derived.Deep.OwnRows
import Derived.Tactics
import Derived.Lib.ConvBytes
import Derived.Laws.Slices
import Derived.WalkKit
import Derived.KernelRfl
import Derived.RowKit3
import Derived.Deep.LoopGhost
import Derived.Deep.QuietTactic
import Derived.BigQuiet
import Derived.WideLaws
import Derived.Deep.DeepCutAuto
import Derived.Deep.CutBlock
import Derived.Deep.RegionHeld3
import Derived.Laws.Rows
import Derived.Lib.AppendStr
import Derived.ArgAppend
import Derived.Laws.IdiomCopy
import Derived.OrdersHeld
import Derived.Laws.BitsLemmas
import Derived.RowKit
import Derived.Maps.OwnSet
import Derived.Maps.Views
import Derived.Test.YtbkighlfgaifeaaVTrSep
import Derived.Test.YtbkighlfgaifeaaVTrWWords
import Derived.Test.YtbkighlfgaifeaaVTrWLast
import Derived.Test.YtbkighlfgaifeaaVTrWTab
import Derived.Test.YtbkighlfgaifeaaVTrWFour
import Derived.Test.YtbkighlfgaifeaaVTrWQPut
import Derived.Test.YtbkighlfgaifeaaVTrWApart
import Derived.Test.YtbkighlfgaifeaaVTrWArr
import Derived.Test.YtbkighlfgaifeaaVTrWZeros
import Derived.Test.YtbkighlfgaifeaaVTrWFoot
import Derived.Test.YtbkighlfgaifeaaVTrWKept
import Derived.Test.YtbkighlfgaifeaaVTrWShare
import Derived.Test.YtbkighlfgaifeaaVTrWN
import Derived.Test.YtbkighlfgaifeaaVTrWFootNe
import Derived.Test.YtbkighlfgaifeaaVTrWAt
import Derived.Test.YtbkighlfgaifeaaVTrWEqStruct
import Derived.Test.YtbkighlfgaifeaaVTrWRepsOne
import Derived.Test.YtbkighlfgaifeaaVTrWInv
import Derived.Test.YtbkighlfgaifeaaVTrWInvWords
import Derived.Test.YtbkighlfgaifeaaVTrWGuard
import Derived.Test.YtbkighlfgaifeaaVTrWNEv
import Derived.Test.YtbkighlfgaifeaaVTrWMore
namespace Go.Proofs.Ytbkighlfgaifeaa.QFnTracks
open Go.RowKit Go.Proofs.YtbkighlfgaifeaaW.PrintWords Go.Proofs.YtbkighlfgaifeaaW.PrintLast Go.Proofs.YtbkighlfgaifeaaW.PrintMore
open Go.Proofs.YtbkighlfgaifeaaW.PrintWords renaming pw_below_drewN → pN, below_drew1 → p1, below_alloc → pA
open Go.Proofs.YtbkighlfgaifeaaW.PrintWords.Kd renaming R_alloc → kA, R_drewN → kN, R_drew → kD, Q_alloc → qA, Q_drewN → qN, Q_drew → qD, C_alloc → cA, C_drewN → cN, C_drew → cD
open Go.Proofs.YtbkighlfgaifeaaW.PrintWords.Aside0 renaming mk → aM
open List renaming setIfInBounds_toArray → sI, set_cons_zero → s0, set_cons_succ → sS, map_toArray → mT, length_take → lT, length_drop → lD, map_cons → mC, map_nil → mN
open Option renaming bind_eq_some_iff → oB, bind_some → oS
attribute [local go_sem] max2_int min2_int max_two min_two max_three min_three max_four min_four
set_option maxHeartbeats 8000000
set_option maxRecDepth 100000
set_option linter.unusedVariables false
set_option linter.unusedSimpArgs false
abbrev ti : Bool := true
abbrev fi : Bool := false
theorem z {a b : Prop} (h : a) (k : b) : Aside0 a ∧ b := ⟨⟨h⟩, k⟩
theorem z1 {a : Prop} (h : a) : Aside0 a := ⟨h⟩
theorem zb {p q : Prop} (h : q) (f : q → p := by intro hq; (with_reducible repeat (first | refine blk_drewN ?_ _ | refine blk_drew ?_ | refine blk_alloc ?_ _)); exact hq) : p := f h
theorem zr {p q : Prop} (h : q) (f : q → p := by intro hq; (with_reducible repeat (first | apply kA | apply kN | apply kD)); exact hq) : p := f h
theorem zq {p q : Prop} (h : q) (f : q → p := by intro hq; (with_reducible repeat (first | apply qA | apply qN | apply qD)); exact hq) : p := f h
theorem py_ {P : Program} {ops : Array Oper} {Q : Exit → Act → World → Prop} {md : Region.Mode} {S : World → Prop} {ds : List Nat} {T : Bool × List (List Nat × List Nat)} {oi : Oper} {v : Value} {fuel : Nat} {l : Array Bool} {a a' : Act} {w : World} (i : Nat) (n : Tmp) (hT : rtab md ops = T)
    (h : wpAnyLast P md ops Q S ds fuel (l.setIfInBounds i true) a' w) (hi : ops[i]? = some oi := by exact rfl) (hN : oi.dst = some n := by exact rfl) (hc : anyT T l.toList (l.setIfInBounds i true).toList i = true := by kernel_rfl)
    (hQ : ∀ c a w, Q (.panic c) (a.put oi.dst v) w → Q (.panic c) a w := by exact fun _ _ _ h => h) (hd : Region.wanted oi (yielded ops a.tmps) = true := by rfl) (hy : ∀ w, (execOp a.eval oi).run P w = .ok (.value v) w := by (intro w'; go_simp; with_reducible rfl)) (ha : a.put (some n) v = a' := by (simp only [Act.put, sI, s0, sS, i64_w, i32_w]; rfl)) : wpAnyLast P md ops Q S ds (fuel + 1) l a w :=
  pure_ _ hi hN (any_of hT hc) hQ (Or.inl ⟨hd, hy⟩) ha h
theorem za_ {p : Prop} (h : p := by repeat (first | (with_reducible first | exact HB.out | apply pA | apply pN | apply p1) | exact HB.out)) : p := h
theorem zb_ {p : Prop} (h : p := by first | (with_reducible assumption) | assumption) : p := h
theorem zc_ {p : Prop} (h : p := by first | rfl | (simp; done) | (simp [*]; done)) : p := h
theorem zd_ {p : Prop} (h : p := by (try simp only [mT, mC, mN]); first | done | rfl | (simp only [lD, lT]; rfl)) : p := h
theorem ze_ {p : Prop} (h : p := by repeat (first | (with_reducible first | exact HK.out | apply KeepBut.set_ | apply keep_drewN | apply keep_drew | apply keep_alloc) | exact HK.out)) : p := h
theorem zf_ {p : Prop} (h : p := by first | (go_simp; done) | (go_simp; rfl)) : p := h
theorem zg_ {p : Prop} (h : p := by first | rfl | (simp [errW_none, errW_some] <;> rfl) | (simp [*, errW_none, errW_some] <;> rfl)) : p := h
theorem zh_ {p : Prop} (h : p := by repeat (first | (with_reducible first | exact HB.out | apply pA | apply pN | apply p1 | refine below_set ?_ GE422.out) | exact HB.out)) : p := h
theorem zi_ {p : Prop} (h : p := by repeat (first | (with_reducible first | exact HI0.out | apply IsS111.alloc | apply IsS111.drewN | apply IsS111.drew | apply IsS111.set_1 | apply IsS111.set_2) | exact HI0.out)) : p := h
theorem zj_ {p : Prop} (h : p := by repeat (first | (with_reducible first | exact HB.out | apply pA | apply pN | apply p1 | refine below_set ?_ (IsS111.ge HI0.out)) | exact HB.out)) : p := h
theorem zba_ {p : Prop} (h : p := by repeat (first | (with_reducible first | exact HB.out | apply pA | apply pN | apply p1 | refine below_set ?_ GE279.out) | exact HB.out)) : p := h
theorem zbb_ {p : Prop} (h : p := by repeat (first | exact (Kd.C_below HR1.out HB.out) | (with_reducible refine cA ?_ _) | (with_reducible refine cN ?_ _) | (with_reducible refine cD ?_))) : p := h
theorem zbc_ {p : Prop} (h : p := by repeat (first | exact Drawn0.refl _ | apply Drawn0.step)) : p := h
theorem zbd_ {p : Prop} (h : p := by (try simp only [mT, mC, mN]); first | done | rfl) : p := h
theorem zbe_ {p : Prop} (h : p := by repeat (first | exact (Kd.C_below HR0.out HB.out) | (with_reducible refine cA ?_ _) | (with_reducible refine cN ?_ _) | (with_reducible refine cD ?_))) : p := h
theorem zbf_ {p : Prop} (h : p := by repeat (first | (with_reducible first | exact HB.out | apply pA | apply pN | apply p1 | refine below_set ?_ GE295.out) | exact HB.out)) : p := h
theorem zbg_ {p : Prop} (h : p := by first | omega | exact Nat.le_refl _) : p := h
theorem zbh_ {p : Prop} (h : p := by repeat (first | exact HR0.out | (with_reducible refine cA ?_ _) | (with_reducible refine cN ?_ _) | (with_reducible refine cD ?_))) : p := h
theorem zbi_ {p : Prop} (h : p := by have := HK1.out; have := HK2.out; omega) : p := h
theorem zbj_ {p : Prop} (h : p := by repeat (first | exact (Kd.R_reads' HO150.out).2.2 | (with_reducible refine cA ?_ _) | (with_reducible refine cN ?_ _) | (with_reducible refine cD ?_))) : p := h
theorem zca_ {p : Prop} (h : p := by exact (Kd.R_reads' HO150.out).2.1) : p := h
theorem zcb_ {p : Prop} (h : p := by repeat (first | (with_reducible first | exact HK.out | apply Kept.alloc | apply Kept.drewN | apply Kept.drew) | exact HK.out)) : p := h
theorem zcc_ {p : Prop} (h : p := by have := HK1.out; omega) : p := h
theorem zcd_ {p : Prop} (h : p := by exact (by repeat (first | (with_reducible first | exact HB.out | apply pA | apply pN | apply p1) | exact HB.out))) : p := h
theorem zce_ {p : Prop} (h : p := by exact (below_size (by repeat (first | (with_reducible first | exact HB.out | apply pA | apply pN | apply p1) | exact HB.out)))) : p := h
theorem zcf_ {p : Prop} (h : p := by have := HJ3.out; have := HK2.out; have := HK3.out; omega) : p := h
theorem zcg_ {p : Prop} (h : p := by repeat (first | (with_reducible first | exact HB.out | apply pA | apply pN | apply p1 | refine below_set ?_ (IsS111.ge HI307.out)) | exact HB.out)) : p := h
theorem zch_ {p : Prop} (h : p := by first | exact Kd.R_nil _ _ _ _ _ | exact Kd.N_nil _ _ _ _ _ | exact Kd.V_nil _ _ _ _ _ | exact Kd.Q_nil _ _ _ _ _ | exact Kd.S_nil _ _ _ _ _) : p := h
theorem zci_ {p : Prop} (h : p := by have := HJ2.out; have := HK2.out; have := HK3.out; have := HK4.out; have := HK5.out; omega) : p := h
theorem zcj_ {p : Prop} (h : p := by exact (fun _ _ => trivial)) : p := h
theorem zda_ {p : Prop} (h : p := by repeat (first | (with_reducible first | exact HB.out | apply pA | apply pN | apply p1 | refine below_set ?_ GE215.out) | exact HB.out)) : p := h
theorem zdb_ {p : Prop} (h : p := by have := World.block_lt_of_cell? _ _ hx241_0; first | rwa [add_block] at this | exact this) : p := h
theorem zdc_ {p : Prop} (h : p := by repeat (first | (with_reducible first | exact HB.out | apply pA | apply pN | apply p1 | refine below_set ?_ (IsS111.ge HI261.out) | refine below_set ?_ GE260.out) | exact HB.out)) : p := h
theorem zdd_ {p : Prop} (h : p := by exact (by repeat (first | (with_reducible first | exact HB.out | apply pA | apply pN | apply p1 | refine below_set ?_ GE422.out) | exact HB.out))) : p := h
theorem zde_ {p : Prop} (h : p := by exact (below_size (by repeat (first | (with_reducible first | exact HB.out | apply pA | apply pN | apply p1 | refine below_set ?_ GE422.out) | exact HB.out)))) : p := h
theorem zdf_ {p : Prop} (h : p := by exact (HO_3.out.row_reads 0 rfl).2.2) : p := h
theorem zdg_ {p : Prop} (h : p := by exact (HO_3.out.row_reads 0 rfl).2.1) : p := h
theorem zdh_ {p : Prop} (h : p := by repeat (first | (with_reducible first | exact HB.out | apply pA | apply pN | apply p1 | refine below_set ?_ GE101.out) | exact HB.out)) : p := h
theorem zdi_ {p : Prop} (h : p := by repeat (first | exact (Kd.R_reads' HO160.out).2.2 | (with_reducible refine cA ?_ _) | (with_reducible refine cN ?_ _) | (with_reducible refine cD ?_))) : p := h
theorem zdj_ {p : Prop} (h : p := by exact (Kd.R_reads' HO160.out).2.1) : p := h
theorem zea_ {p : Prop} (h : p := by refine zr ?_; exact HO150.out) : p := h
theorem zeb_ {p : Prop} (h : p := by repeat (first | (with_reducible first | exact HB.out | apply pA | apply pN | apply p1 | refine below_set ?_ GE199.out) | exact HB.out)) : p := h
theorem zec_ {p : Prop} (h : p := by have := World.block_lt_of_cell? _ _ hx255_0; first | rwa [add_block] at this | exact this) : p := h
theorem zed_ {p : Prop} (h : p := by have := World.block_lt_of_cell? _ _ hx290_0; first | rwa [add_block] at this | exact this) : p := h
theorem zee_ {p : Prop} (h : p := by exact (fun k_ hk => ⟨(.inr (Nat.le_trans (by first | exact HK.out.1 | exact (show Kept w _ (fun k_ => P0_ k_) from by repeat (first | (with_reducible first | exact HK.out | apply Kept.alloc | apply Kept.drewN | apply Kept.drew) | exact HK.out)).1) hk)), Kd.fresh' (Kd.R_lt (zr HO_0.out)) k_ hk⟩)) : p := h
theorem zef_ {p : Prop} (h : p := by refine zr ?_; exact Kd.R_mono HO163.out (fun _ hk => trivial)) : p := h
theorem zeg_ {p : Prop} (h : p := by repeat (first | (with_reducible first | exact HB.out | apply pA | apply pN | apply p1 | refine below_set ?_ GE254.out) | exact HB.out)) : p := h
theorem zeh_ {p : Prop} (h : p := by repeat (first | (with_reducible first | exact HB.out | apply pA | apply pN | apply p1 | refine below_set ?_ GE279.out | refine below_set ?_ GE289.out) | exact HB.out)) : p := h
theorem zei_ {p : Prop} (h : p := by repeat (first | (with_reducible first | exact HI307.out | apply IsS111.alloc | apply IsS111.drewN | apply IsS111.drew | apply IsS111.set_1 | apply IsS111.set_2) | exact HI307.out)) : p := h
theorem zej_ {p : Prop} (h : p := by repeat (first | (with_reducible first | exact HB.out | apply pA | apply pN | apply p1 | refine below_set ?_ GE107.out) | exact HB.out)) : p := h
theorem zfa_ {p : Prop} (h : p := by repeat (first | (with_reducible first | exact HB.out | apply pA | apply pN | apply p1 | refine below_set ?_ GE110.out) | exact HB.out)) : p := h
theorem zfb_ {p : Prop} (h : p := by repeat (first | (with_reducible first | exact HB.out | apply pA | apply pN | apply p1 | refine below_set ?_ (IsS111.ge HI185.out)) | exact HB.out)) : p := h
theorem zfc_ {p : Prop} (h : p := by repeat (first | (with_reducible first | exact HB.out | apply pA | apply pN | apply p1 | refine below_set ?_ GE196.out) | exact HB.out)) : p := h
theorem zfd_ {p : Prop} (h : p := by first | (rw [add_block]; exact hn241_0) | (show (Addr.add _ _).block ≠ _; rw [add_block]; exact hn241_0) | exact hn241_0) : p := h
theorem zfe_ {p : Prop} (h : p := by first | (rw [add_block]; exact hn241_1) | (show (Addr.add _ _).block ≠ _; rw [add_block]; exact hn241_1) | exact hn241_1) : p := h
theorem zff_ {p : Prop} (h : p := by refine zr ?_; exact Kd.R_mono (Kd.R_far (p := ⟨gb240, 1, none⟩) (Kd.R_far (p := ⟨gb240, 0, none⟩) (Kd.R_types HO_9.out BK240.out (by decide)) (fun _ hk => hk.2) (.int .i64 ((rd_T32 l0 x61_5).f0))) (fun _ hk => hk.2) (.int .i64 ((rd_T32 l0 x61_5).f1))) (fun _ hk => trivial)) : p := h
theorem zfg_ {p : Prop} (h : p := by repeat (first | (with_reducible first | exact HB.out | apply pA | apply pN | apply p1 | refine below_set ?_ GE240.out) | exact HB.out)) : p := h
theorem zfh_ {p : Prop} (h : p := by repeat (first | (with_reducible first | exact HB.out | apply pA | apply pN | apply p1 | refine below_set ?_ GE260.out) | exact HB.out)) : p := h
theorem zfi_ {p : Prop} (h : p := by repeat (first | (with_reducible first | exact HI261.out | apply IsS111.alloc | apply IsS111.drewN | apply IsS111.drew | apply IsS111.set_1 | apply IsS111.set_2 | refine IsS111.far ?_ NB261_260.out _) | exact HI261.out)) : p := h
theorem zfj_ {p : Prop} (h : p := by have := World.block_lt_of_cell? _ _ hx302_0; first | rwa [add_block] at this | exact this) : p := h
theorem zga_ {p : Prop} (h : p := by repeat (first | (with_reducible first | exact HB.out | apply pA | apply pN | apply p1 | refine below_set ?_ GE295.out | refine below_set ?_ GE301.out) | exact HB.out)) : p := h
theorem zgb_ {p : Prop} (h : p := by repeat (first | exact (Kd.R_reads' HO403.out).2.2 | (with_reducible refine cA ?_ _) | (with_reducible refine cN ?_ _) | (with_reducible refine cD ?_))) : p := h
theorem zgc_ {p : Prop} (h : p := by repeat (first | exact (Kd.Q_reads' HO405.out).2.2 | (with_reducible refine cA ?_ _) | (with_reducible refine cN ?_ _) | (with_reducible refine cD ?_))) : p := h
theorem zgd_ {p : Prop} (h : p := by repeat (first | (with_reducible first | exact HB.out | apply pA | apply pN | apply p1 | refine below_set ?_ GE194.out) | exact HB.out)) : p := h
theorem zge_ {p : Prop} (h : p := by first | (rw [add_block]; exact hn255_0) | (show (Addr.add _ _).block ≠ _; rw [add_block]; exact hn255_0) | exact hn255_0) : p := h
theorem zgf_ {p : Prop} (h : p := by first | (rw [add_block]; exact hn255_1) | (show (Addr.add _ _).block ≠ _; rw [add_block]; exact hn255_1) | exact hn255_1) : p := h
theorem zgg_ {p : Prop} (h : p := by first | (rw [add_block]; exact hn290_0) | (show (Addr.add _ _).block ≠ _; rw [add_block]; exact hn290_0) | exact hn290_0) : p := h
theorem zgh_ {p : Prop} (h : p := by first | (rw [add_block]; exact hn290_1) | (show (Addr.add _ _).block ≠ _; rw [add_block]; exact hn290_1) | exact hn290_1) : p := h
theorem zgi_ {p : Prop} (h : p := by refine zb ?_; refine blk_far ?_ NB279_289.out _; refine zb ?_; refine blk_far ?_ NB279_289.out _; refine zb ?_; exact BK279.out) : p := h
theorem zgj_ {p : Prop} (h : p := by refine zb ?_; refine blk_far ?_ NB295_301.out _; refine zb ?_; refine blk_far ?_ NB295_301.out _; refine zb ?_; exact BK295.out) : p := h
theorem zha_ {p : Prop} (h : p := by refine zq ?_; exact (Kd.Q_mono (Kd.Q_far (p := ⟨gb422, 1, none⟩) (Kd.Q_far (p := ⟨gb422, 0, none⟩) (Kd.Q_types HO419.out BK422.out (by decide)) (fun _ hk => hk.2) (.int .i64 t420)) (fun _ hk => hk.2) (.int .i64 t421)) (fun _ h_ => h_.1))) : p := h
theorem zhb_ {p : Prop} (h : p := by repeat (first | exact (Kd.R_reads' HO_15.out).2.2 | (with_reducible refine cA ?_ _) | (with_reducible refine cN ?_ _) | (with_reducible refine cD ?_))) : p := h
theorem zhc_ {p : Prop} (h : p := by exact (Reps.c2 (show Kd.M k32 _ _ _ (⟨t420, t421⟩ : S32) [.int .i64 t420, .int .i64 t421] from (k32_mkM _ _ _ (⟨t420, t421⟩ : S32) )) (Reps.none _ _))) : p := h
theorem zhd_ {p : Prop} (h : p := by exact (fun k_ hk => ⟨Kd.fresh' (Kd.R_lt (zr HO_5.out)) k_ hk, Kd.fresh' (Kd.R_lt (zr HO_15.out)) k_ hk, Kd.fresh' (Kd.R_lt (zr HO462.out)) k_ hk, Kd.freshB (g := gb422) (o := .cells #[.int .i64 t420, .int .i64 t421] 32 (0, 0)) (zb BK422.out) k_ hk⟩)) : p := h
theorem zhe_ {p : Prop} (h : p := by have := HJ17.out; have := HJ64.out; have := HJ66.out; have := HJ114.out; first | omega | exact Nat.le_refl _) : p := h
def errW : Option Int → Value
 | none => .nilIface
 | some c => .iface 0 (.int .i64 c)
theorem errW_none : errW none = .nilIface := rfl
theorem errW_some (c : Int) : errW (some c) = .iface 0 (.int .i64 c) := rfl
theorem info3 : (Try.prog.info? 3).map (fun i => (i.zero, i.size, i.bytes)) = some (some (.int .i64 0), 1, 8) := by kernel_rfl
theorem info5 : (Try.prog.info? 5).map (fun i => (i.zero, i.size, i.bytes)) = some (some (.int .u8 0), 1, 1) := by kernel_rfl
theorem info23 : (Try.prog.info? 23).map (fun i => (i.zero, i.size, i.bytes)) = some (some (.slice none 0 0), 1, 24) := by kernel_rfl
theorem info24 : (Try.prog.info? 24).map (fun i => (i.zero, i.size, i.bytes)) = some (some (.slice none 0 0), 1, 24) := by kernel_rfl
theorem info32 : (Try.prog.info? 32).map (fun i => (i.zero, i.size, i.bytes)) = some (some (.agg #[(.int .i64 0), (.int .i64 0)]), 2, 16) := by kernel_rfl
structure S32 where
 f0 : Int
 f1 : Int
def z32 : S32 := ⟨(0 : Int), (0 : Int)⟩
def k32 : Kd S32 := Kd.iso (Kd.pair (Kd.int .i64) (Kd.int .i64)) (fun x : S32 => (x.f0, x.f1))
theorem k32_open {w : World} {x : S32} {cs : List Value} (h : k32.K w x cs) : cs = [.int .i64 x.f0, .int .i64 x.f1] := by
 obtain ⟨_, _, rfl, rfl, rfl⟩ := h
 exact rfl
theorem k32_openM {w : World} {base : Nat} {ok : Nat → Prop} {x : S32} {cs : List Value} (h : k32.M w base ok x cs) : cs = [.int .i64 x.f0, .int .i64 x.f1] := by
 obtain ⟨_, _, rfl, rfl, rfl⟩ := h
 exact rfl
theorem k32_mk (w : World) (x : S32)  : k32.K w x [.int .i64 x.f0, .int .i64 x.f1] := ⟨[.int .i64 x.f0], [.int .i64 x.f1], rfl, rfl, rfl⟩
theorem k32_mkM (w : World) (base : Nat) (ok : Nat → Prop) (x : S32)  : k32.M w base ok x [.int .i64 x.f0, .int .i64 x.f1] := ⟨[.int .i64 x.f0], [.int .i64 x.f1], rfl, rfl, rfl⟩
def rd_T32 (xs : List S32) (i : Int) : S32 := xs.getD i.toNat z32
theorem at_T32 {w : World} {A : Option Addr} {n : Nat} {xs : List S32} (h : Kd.C k32 w A n xs) (i : Int) (h0 : 0 ≤ i) (h1 : i < n) : ∃ ad , A = some ad ∧ w.cell? (ad.add (i.toNat * 2)) = some (.int .i64 (rd_T32 xs i).f0) ∧ w.cell? ⟨(ad.add (i.toNat * 2)).block, (ad.add (i.toNat * 2)).off + 1, none⟩ = some (.int .i64 (rd_T32 xs i).f1) := by
 obtain ⟨ad, c, e, _, hK, hc0⟩ := Kd.C_get h z32 i h0 h1
 have hc : ∀ j u, c[j]? = some u → w.cell? (ad.add (i.toNat * 2 + j)) = some u := hc0
 obtain rfl := k32_open hK
 exact ⟨ad, e, hc 0 _ rfl, by rw [← add_field _ _ 1 (by omega)]; exact hc 1 _ rfl⟩
def rd_L3 (xs : List (List S32)) (i : Int) : (List S32) := xs.getD i.toNat ([] : List S32)
theorem at_L3 {w : World} {A : Option Addr} {n : Nat} {xs : List (List S32)} (h : Kd.C (Kd.slice 32 k32) w A n xs) (i : Int) (h0 : 0 ≤ i) (h1 : i < n) : ∃ ad A0 c0, A = some ad ∧ w.cell? (ad.add i.toNat) = some (.slice A0 (rd_L3 xs i).length c0) ∧ (rd_L3 xs i).length ≤ c0 ∧ k32.C w A0 (rd_L3 xs i).length (rd_L3 xs i) := by
 obtain ⟨ad, c, e, _, hK, hc0⟩ := Kd.C_get h ([] : List S32) i h0 h1
 have hc : ∀ j u, c[j]? = some u → w.cell? (ad.add (i.toNat * 1 + j)) = some u := hc0
 obtain ⟨A0, c0, rfl, l0, g0⟩ := hK
 exact ⟨ad, A0, c0, e, by have hq := hc 0 _ rfl; rwa [Nat.mul_one, Nat.add_zero] at hq, l0, g0⟩
def rd_L4 (xs : List (List Int)) (i : Int) : (List Int) := xs.getD i.toNat ([] : List Int)
theorem at_L4 {w : World} {A : Option Addr} {n : Nat} {xs : List (List Int)} (h : Kd.C (Kd.slice 3 (Kd.int .i64)) w A n xs) (i : Int) (h0 : 0 ≤ i) (h1 : i < n) : ∃ ad A0 c0, A = some ad ∧ w.cell? (ad.add i.toNat) = some (.slice A0 (rd_L4 xs i).length c0) ∧ (rd_L4 xs i).length ≤ c0 ∧ (Kd.int .i64).C w A0 (rd_L4 xs i).length (rd_L4 xs i) := by
 obtain ⟨ad, c, e, _, hK, hc0⟩ := Kd.C_get h ([] : List Int) i h0 h1
 have hc : ∀ j u, c[j]? = some u → w.cell? (ad.add (i.toNat * 1 + j)) = some u := hc0
 obtain ⟨A0, c0, rfl, l0, g0⟩ := hK
 exact ⟨ad, A0, c0, e, by have hq := hc 0 _ rfl; rwa [Nat.mul_one, Nat.add_zero] at hq, l0, g0⟩
end Go.Proofs.Ytbkighlfgaifeaa.QFnTracks
