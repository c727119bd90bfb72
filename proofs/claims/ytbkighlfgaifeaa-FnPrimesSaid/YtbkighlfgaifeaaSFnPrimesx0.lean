/- Functions of the law FnPrimes, each as a Lean function, and the proofs that the Go code comes to their answers. Made by wip/gen/slim.py. Conditions: those of each theorem. -/
import Derived.Test.YtbkighlfgaifeaaProg
import Derived.Below
import Derived.Deep.Draws
import Derived.Deep.AppendLies
import Derived.Maps.AppendAt
import Derived.OwnWalk
import Derived.Laws.BytesArg
import Derived.Laws.MakeOwn
import Derived.Laws.OwnMore
import Derived.Deep.OwnRows
import Derived.Tactics
import Derived.Lib.ConvBytes
import Derived.Laws.Slices
import Derived.WalkKit
import Derived.KernelRfl
import Derived.RowKit3
import Derived.Deep.LoopGhost
import Derived.Deep.QuietTactic
import Derived.BigQuiet
import Derived.WideLaws
import Derived.Deep.DeepCutAuto
import Derived.Deep.CutBlock
import Derived.Deep.RegionHeld3
import Derived.Laws.Rows
import Derived.Lib.AppendStr
import Derived.ArgAppend
import Derived.Laws.IdiomCopy
import Derived.OrdersHeld
import Derived.Laws.BitsLemmas
import Derived.RowKit
import Derived.Test.YtbkighlfgaifeaaVPrSep
import Derived.Test.YtbkighlfgaifeaaVPrWWords
import Derived.Test.YtbkighlfgaifeaaVPrWLast
import Derived.Test.YtbkighlfgaifeaaVPrWTab
import Derived.Test.YtbkighlfgaifeaaVPrWFour
import Derived.Test.YtbkighlfgaifeaaVPrWQPut
import Derived.Test.YtbkighlfgaifeaaVPrWApart
import Derived.Test.YtbkighlfgaifeaaVPrWArr
import Derived.Test.YtbkighlfgaifeaaVPrWZeros
import Derived.Test.YtbkighlfgaifeaaVPrWFoot
import Derived.Test.YtbkighlfgaifeaaVPrWKept
import Derived.Test.YtbkighlfgaifeaaVPrWShare
import Derived.Test.YtbkighlfgaifeaaVPrWN
import Derived.Test.YtbkighlfgaifeaaVPrWFootNe
import Derived.Test.YtbkighlfgaifeaaVPrWAt
import Derived.Test.YtbkighlfgaifeaaVPrWEqStruct
import Derived.Test.YtbkighlfgaifeaaVPrWRepsOne
import Derived.Test.YtbkighlfgaifeaaVPrWInv
import Derived.Test.YtbkighlfgaifeaaVPrWInvWords
import Derived.Test.YtbkighlfgaifeaaVPrWGuard
import Derived.Test.YtbkighlfgaifeaaVPrWNEv
import Derived.Test.YtbkighlfgaifeaaVPrWMore
namespace Go.Proofs.Ytbkighlfgaifeaa.QFnPrimes
open Go.RowKit Go.Proofs.YtbkighlfgaifeaaW.PrintWords Go.Proofs.YtbkighlfgaifeaaW.PrintLast Go.Proofs.YtbkighlfgaifeaaW.PrintMore
open Go.Proofs.YtbkighlfgaifeaaW.PrintWords renaming pw_below_drewN → pN, below_drew1 → p1, below_alloc → pA
open Go.Proofs.YtbkighlfgaifeaaW.PrintWords.Kd renaming R_alloc → kA, R_drewN → kN, R_drew → kD, Q_alloc → qA, Q_drewN → qN, Q_drew → qD, C_alloc → cA, C_drewN → cN, C_drew → cD
open Go.Proofs.YtbkighlfgaifeaaW.PrintWords.Aside0 renaming mk → aM
open List renaming setIfInBounds_toArray → sI, set_cons_zero → s0, set_cons_succ → sS, map_toArray → mT, length_take → lT, length_drop → lD, map_cons → mC, map_nil → mN
open Option renaming bind_eq_some_iff → oB, bind_some → oS
attribute [local go_sem] max2_int min2_int max_two min_two max_three min_three max_four min_four
set_option maxHeartbeats 8000000
set_option maxRecDepth 100000
set_option linter.unusedVariables false
set_option linter.unusedSimpArgs false
abbrev ti : Bool := true
abbrev fi : Bool := false
theorem z {a b : Prop} (h : a) (k : b) : Aside0 a ∧ b := ⟨⟨h⟩, k⟩
theorem z1 {a : Prop} (h : a) : Aside0 a := ⟨h⟩
theorem zb {p q : Prop} (h : q) (f : q → p := by intro hq; (with_reducible repeat (first | refine blk_drewN ?_ _ | refine blk_drew ?_ | refine blk_alloc ?_ _)); exact hq) : p := f h
theorem zr {p q : Prop} (h : q) (f : q → p := by intro hq; (with_reducible repeat (first | apply kA | apply kN | apply kD)); exact hq) : p := f h
theorem zq {p q : Prop} (h : q) (f : q → p := by intro hq; (with_reducible repeat (first | apply qA | apply qN | apply qD)); exact hq) : p := f h
theorem py_ {P : Program} {ops : Array Oper} {Q : Exit → Act → World → Prop} {md : Region.Mode} {S : World → Prop} {ds : List Nat} {T : Bool × List (List Nat × List Nat)} {oi : Oper} {v : Value} {fuel : Nat} {l : Array Bool} {a a' : Act} {w : World} (i : Nat) (n : Tmp) (hT : rtab md ops = T)
    (h : wpAnyLast P md ops Q S ds fuel (l.setIfInBounds i true) a' w) (hi : ops[i]? = some oi := by exact rfl) (hN : oi.dst = some n := by exact rfl) (hc : anyT T l.toList (l.setIfInBounds i true).toList i = true := by kernel_rfl)
    (hQ : ∀ c a w, Q (.panic c) (a.put oi.dst v) w → Q (.panic c) a w := by exact fun _ _ _ h => h) (hd : Region.wanted oi (yielded ops a.tmps) = true := by rfl) (hy : ∀ w, (execOp a.eval oi).run P w = .ok (.value v) w := by (intro w'; go_simp; with_reducible rfl)) (ha : a.put (some n) v = a' := by (simp only [Act.put, sI, s0, sS, i64_w, i32_w]; rfl)) : wpAnyLast P md ops Q S ds (fuel + 1) l a w :=
  pure_ _ hi hN (any_of hT hc) hQ (Or.inl ⟨hd, hy⟩) ha h
theorem pu_ {P : Program} {ops : Array Oper} {Q : Exit → Act → World → Prop} {md : Region.Mode} {S : World → Prop} {ds : List Nat} {T : Bool × List (List Nat × List Nat)} {oi : Oper} {fuel : Nat} {l : Array Bool} {a a' : Act} {w : World} (i : Nat) (n : Tmp) (hT : rtab md ops = T)
    (h : wpAnyLast P md ops Q S ds fuel (l.setIfInBounds i true) a' w) (hi : ops[i]? = some oi := by exact rfl) (hN : oi.dst = some n := by exact rfl) (hc : anyT T l.toList (l.setIfInBounds i true).toList i = true := by kernel_rfl)
    (hQ : ∀ c a w, Q (.panic c) (a.put oi.dst undef) w → Q (.panic c) a w := by exact fun _ _ _ h => h) (hd : Region.wanted oi (yielded ops a.tmps) = false := by rfl) (ha : a.put (some n) undef = a' := by (simp only [Act.put, sI, s0, sS, i64_w, i32_w]; rfl)) : wpAnyLast P md ops Q S ds (fuel + 1) l a w :=
  pure_ _ hi hN (any_of hT hc) hQ (Or.inr ⟨hd, rfl⟩) ha h
theorem za_ {p : Prop} (h : p := by repeat (first | (with_reducible first | exact HB.out | apply pA | apply pN | apply p1) | exact HB.out)) : p := h
theorem zb_ {p : Prop} (h : p := by first | (with_reducible assumption) | assumption) : p := h
theorem zc_ {p : Prop} (h : p := by first | (go_simp; done) | (go_simp; rfl)) : p := h
theorem zd_ {p : Prop} (h : p := by first | rfl | (simp; done) | (simp [*]; done)) : p := h
theorem ze_ {p : Prop} (h : p := by (try simp only [mT, mC, mN]); first | done | rfl | (simp only [lD, lT]; rfl)) : p := h
theorem zf_ {p : Prop} (h : p := by repeat (first | (with_reducible first | exact HK.out | apply KeepBut.set_ | apply keep_drewN | apply keep_drew | apply keep_alloc) | exact HK.out)) : p := h
theorem zg_ {p : Prop} (h : p := by repeat (first | (with_reducible first | exact HI0.out | apply IsS111.alloc | apply IsS111.drewN | apply IsS111.drew | apply IsS111.set_1 | apply IsS111.set_2) | exact HI0.out)) : p := h
theorem zh_ {p : Prop} (h : p := by repeat (first | (with_reducible first | exact HB.out | apply pA | apply pN | apply p1 | refine below_set ?_ (IsS111.ge HI0.out)) | exact HB.out)) : p := h
theorem zi_ {p : Prop} (h : p := by first | rfl | (simp [errW_none, errW_some] <;> rfl) | (simp [*, errW_none, errW_some] <;> rfl)) : p := h
theorem zj_ {p : Prop} (h : p := by repeat (first | (with_reducible first | exact HB.out | apply pA | apply pN | apply p1 | refine below_set ?_ GE242.out) | exact HB.out)) : p := h
theorem zba_ {p : Prop} (h : p := by repeat (first | exact (Kd.C_below HR0_1.out HB.out) | (with_reducible refine cA ?_ _) | (with_reducible refine cN ?_ _) | (with_reducible refine cD ?_))) : p := h
theorem zbb_ {p : Prop} (h : p := by repeat (first | exact Drawn0.refl _ | apply Drawn0.step)) : p := h
theorem zbc_ {p : Prop} (h : p := by have := HK1.out; omega) : p := h
theorem zbd_ {p : Prop} (h : p := by repeat (first | (with_reducible first | exact HK.out | apply KeepBut.set_ | apply keep_drewN | apply keep_drew | apply keep_alloc | refine keep_far ?_ GW151.out _) | exact HK.out)) : p := h
theorem zbe_ {p : Prop} (h : p := by repeat (first | (with_reducible first | exact HK.out | apply KeepBut.set_ | apply keep_drewN | apply keep_drew | apply keep_alloc | refine keep_far ?_ GW151.out _ | refine keep_far ?_ GW158.out _) | exact HK.out)) : p := h
theorem zbf_ {p : Prop} (h : p := by repeat (first | (with_reducible first | exact HI0.out | apply IsS111.alloc | apply IsS111.drewN | apply IsS111.drew | apply IsS111.set_1 | apply IsS111.set_2 | refine IsS111.far ?_ NB0_151.out _ | refine IsS111.far ?_ NB0_158.out _) | exact HI0.out)) : p := h
theorem zbg_ {p : Prop} (h : p := by repeat (first | (with_reducible first | exact HB.out | apply pA | apply pN | apply p1 | refine below_set ?_ (IsS111.ge HI0.out) | refine below_set ?_ GE151.out | refine below_set ?_ GE158.out) | exact HB.out)) : p := h
theorem zbh_ {p : Prop} (h : p := by repeat (first | (with_reducible first | exact HB.out | apply pA | apply pN | apply p1 | refine below_set ?_ GE473.out | refine below_set ?_ GE493.out | refine below_set ?_ GE512.out | refine below_set ?_ GE513.out | refine below_set ?_ GE522.out | refine below_set ?_ GE526.out) | exact HB.out)) : p := h
theorem zbi_ {p : Prop} (h : p := by repeat (first | (with_reducible first | exact HK.out | apply KeepBut.set_ | apply keep_drewN | apply keep_drew | apply keep_alloc | refine keep_far ?_ GW295.out _ | refine keep_far ?_ GW301.out _) | exact HK.out)) : p := h
theorem zbj_ {p : Prop} (h : p := by have := HK1.out; have := HK2.out; omega) : p := h
theorem zca_ {p : Prop} (h : p := by repeat (first | (with_reducible first | exact HI0.out | apply IsS111.alloc | apply IsS111.drewN | apply IsS111.drew | apply IsS111.set_1 | apply IsS111.set_2 | refine IsS111.far ?_ NB0_295.out _ | refine IsS111.far ?_ NB0_301.out _) | exact HI0.out)) : p := h
theorem zcb_ {p : Prop} (h : p := by repeat (first | (with_reducible first | exact HB.out | apply pA | apply pN | apply p1 | refine below_set ?_ (IsS111.ge HI0.out) | refine below_set ?_ GE295.out | refine below_set ?_ GE301.out) | exact HB.out)) : p := h
theorem zcc_ {p : Prop} (h : p := by repeat (first | (with_reducible first | exact HK.out | apply KeepBut.set_ | apply keep_drewN | apply keep_drew | apply keep_alloc | refine keep_far ?_ GW117.out _ | refine keep_far ?_ GW118.out _) | exact HK.out)) : p := h
theorem zcd_ {p : Prop} (h : p := by repeat (first | (with_reducible first | exact HB.out | apply pA | apply pN | apply p1 | refine below_set ?_ GE198.out | refine below_set ?_ GE202.out) | exact HB.out)) : p := h
theorem zce_ {p : Prop} (h : p := by repeat (first | (with_reducible first | exact HB.out | apply pA | apply pN | apply p1 | refine below_set ?_ GE230.out | refine below_set ?_ GE231.out) | exact HB.out)) : p := h
theorem zcf_ {p : Prop} (h : p := by repeat (first | (with_reducible first | exact HB.out | apply pA | apply pN | apply p1 | refine below_set ?_ GE473.out | refine below_set ?_ GE493.out | refine below_set ?_ GE512.out | refine below_set ?_ GE513.out | refine below_set ?_ GE522.out | refine below_set ?_ GE526.out | refine below_set ?_ GE540.out) | exact HB.out)) : p := h
theorem zcg_ {p : Prop} (h : p := by repeat (first | (with_reducible first | exact HB.out | apply pA | apply pN | apply p1 | refine below_set ?_ (IsS111.ge HI0.out) | refine below_set ?_ GE117.out | refine below_set ?_ GE118.out) | exact HB.out)) : p := h
theorem zch_ {p : Prop} (h : p := by repeat (first | (with_reducible first | exact HB.out | apply pA | apply pN | apply p1 | refine below_set ?_ (IsS111.ge HI390.out) | refine below_set ?_ GE388.out | refine below_set ?_ GE389.out | refine below_set ?_ GE397.out | refine below_set ?_ GE402.out) | exact HB.out)) : p := h
theorem zci_ {p : Prop} (h : p := by repeat (first | (with_reducible first | exact HI0.out | apply IsS111.alloc | apply IsS111.drewN | apply IsS111.drew | apply IsS111.set_1 | apply IsS111.set_2 | refine IsS111.far ?_ NB0_117.out _ | refine IsS111.far ?_ NB0_118.out _) | exact HI0.out)) : p := h
theorem zcj_ {p : Prop} (h : p := by repeat (first | (with_reducible first | exact HB.out | apply pA | apply pN | apply p1 | refine below_set ?_ GE346.out) | exact HB.out)) : p := h
theorem zda_ {p : Prop} (h : p := by repeat (first | (with_reducible first | exact HB.out | apply pA | apply pN | apply p1 | refine below_set ?_ (IsS111.ge HI443.out)) | exact HB.out)) : p := h
theorem zdb_ {p : Prop} (h : p := by repeat (first | (with_reducible first | exact HB.out | apply pA | apply pN | apply p1 | refine below_set ?_ GE473.out | refine below_set ?_ GE493.out | refine below_set ?_ GE512.out | refine below_set ?_ GE513.out | refine below_set ?_ GE522.out | refine below_set ?_ GE526.out | refine below_set ?_ GE563.out) | exact HB.out)) : p := h
theorem zdc_ {p : Prop} (h : p := by repeat (first | (with_reducible first | exact HB.out | apply pA | apply pN | apply p1 | refine below_set ?_ GE280.out) | exact HB.out)) : p := h
theorem zdd_ {p : Prop} (h : p := by repeat (first | (with_reducible first | exact HK.out | apply KeepBut.set_ | apply keep_drewN | apply keep_drew | apply keep_alloc | refine keep_far ?_ GW295.out _) | exact HK.out)) : p := h
theorem zde_ {p : Prop} (h : p := by repeat (first | (with_reducible first | exact HB.out | apply pA | apply pN | apply p1 | refine below_set ?_ GE473.out) | exact HB.out)) : p := h
theorem zdf_ {p : Prop} (h : p := by first | exact Kd.R_nil _ _ _ _ _ | exact Kd.N_nil _ _ _ _ _ | exact Kd.V_nil _ _ _ _ _ | exact Kd.Q_nil _ _ _ _ _ | exact Kd.S_nil _ _ _ _ _) : p := h
theorem zdg_ {p : Prop} (h : p := by repeat (first | (with_reducible first | exact HB.out | apply pA | apply pN | apply p1 | refine below_set ?_ GE375.out) | exact HB.out)) : p := h
theorem zdh_ {p : Prop} (h : p := by repeat (first | (with_reducible first | exact HB.out | apply pA | apply pN | apply p1 | refine below_set ?_ GE473.out | refine below_set ?_ GE493.out) | exact HB.out)) : p := h
theorem zdi_ {p : Prop} (h : p := by repeat (first | (with_reducible first | exact HI0.out | apply IsS111.alloc | apply IsS111.drewN | apply IsS111.drew | apply IsS111.set_1 | apply IsS111.set_2 | refine IsS111.far ?_ NB0_151.out _) | exact HI0.out)) : p := h
theorem zdj_ {p : Prop} (h : p := by repeat (first | (with_reducible first | exact HB.out | apply pA | apply pN | apply p1 | refine below_set ?_ (IsS111.ge HI0.out) | refine below_set ?_ GE151.out) | exact HB.out)) : p := h
theorem zea_ {p : Prop} (h : p := by repeat (first | (with_reducible first | exact HB.out | apply pA | apply pN | apply p1 | refine below_set ?_ GE198.out) | exact HB.out)) : p := h
theorem zeb_ {p : Prop} (h : p := by repeat (first | (with_reducible first | exact HB.out | apply pA | apply pN | apply p1 | refine below_set ?_ GE414.out) | exact HB.out)) : p := h
theorem zec_ {p : Prop} (h : p := by repeat (first | (with_reducible first | exact HB.out | apply pA | apply pN | apply p1 | refine below_set ?_ GE414.out | refine below_set ?_ GE415.out) | exact HB.out)) : p := h
theorem zed_ {p : Prop} (h : p := by repeat (first | (with_reducible first | exact HB.out | apply pA | apply pN | apply p1 | refine below_set ?_ GE419.out) | exact HB.out)) : p := h
theorem zee_ {p : Prop} (h : p := by repeat (first | (with_reducible first | exact HB.out | apply pA | apply pN | apply p1 | refine below_set ?_ GE419.out | refine below_set ?_ GE420.out) | exact HB.out)) : p := h
theorem zef_ {p : Prop} (h : p := by exact (Reps.one (show Kd.M (Kd.int .u8) _ _ _ (bt a2 t434) [.int .u8 (bt a2 t434)] from rfl) (Reps.none _ _))) : p := h
theorem zeg_ {p : Prop} (h : p := by repeat (first | (with_reducible first | exact HI443.out | apply IsS111.alloc | apply IsS111.drewN | apply IsS111.drew | apply IsS111.set_1 | apply IsS111.set_2) | exact HI443.out)) : p := h
theorem zeh_ {p : Prop} (h : p := by exact (fun _ _ => trivial)) : p := h
theorem zei_ {p : Prop} (h : p := by repeat (first | (with_reducible first | exact HB.out | apply pA | apply pN | apply p1 | refine below_set ?_ GE230.out) | exact HB.out)) : p := h
theorem zej_ {p : Prop} (h : p := by repeat (first | (with_reducible first | exact HB.out | apply pA | apply pN | apply p1 | refine below_set ?_ GE270.out | refine below_set ?_ GE272.out) | exact HB.out)) : p := h
theorem zfa_ {p : Prop} (h : p := by repeat (first | (with_reducible first | exact HB.out | apply pA | apply pN | apply p1 | refine below_set ?_ GE280.out | refine below_set ?_ GE289.out) | exact HB.out)) : p := h
theorem zfb_ {p : Prop} (h : p := by repeat (first | (with_reducible first | exact HI390.out | apply IsS111.alloc | apply IsS111.drewN | apply IsS111.drew | apply IsS111.set_1 | apply IsS111.set_2 | refine IsS111.far ?_ NB390_388.out _ | refine IsS111.far ?_ NB390_389.out _ | refine IsS111.far ?_ NB390_397.out _ | refine IsS111.far ?_ NB390_402.out _) | exact HI390.out)) : p := h
theorem zfc_ {p : Prop} (h : p := by repeat (first | (with_reducible first | exact HB.out | apply pA | apply pN | apply p1 | refine below_set ?_ GE462.out | refine below_set ?_ GE463.out) | exact HB.out)) : p := h
theorem zfd_ {p : Prop} (h : p := by repeat (first | (with_reducible first | exact HB.out | apply pA | apply pN | apply p1 | refine below_set ?_ GE473.out | refine below_set ?_ GE493.out | refine below_set ?_ GE512.out | refine below_set ?_ GE513.out) | exact HB.out)) : p := h
theorem zfe_ {p : Prop} (h : p := by repeat (first | (with_reducible first | exact HK.out | apply KeepBut.set_ | apply keep_drewN | apply keep_drew | apply keep_alloc | refine keep_far ?_ GW138.out _) | exact HK.out)) : p := h
theorem zff_ {p : Prop} (h : p := by repeat (first | (with_reducible first | exact HB.out | apply pA | apply pN | apply p1 | refine below_set ?_ GE208.out) | exact HB.out)) : p := h
theorem zfg_ {p : Prop} (h : p := by repeat (first | (with_reducible first | exact HB.out | apply pA | apply pN | apply p1 | refine below_set ?_ GE219.out) | exact HB.out)) : p := h
theorem zfh_ {p : Prop} (h : p := by repeat (first | (with_reducible first | exact HB.out | apply pA | apply pN | apply p1 | refine below_set ?_ GE223.out | refine below_set ?_ GE224.out) | exact HB.out)) : p := h
theorem zfi_ {p : Prop} (h : p := by repeat (first | (with_reducible first | exact HB.out | apply pA | apply pN | apply p1 | refine below_set ?_ GE237.out) | exact HB.out)) : p := h
theorem zfj_ {p : Prop} (h : p := by rw [← hq_]; exact (zb BK295.out)) : p := h
theorem zga_ {p : Prop} (h : p := by rw [← hq_]; exact (by repeat (first | (with_reducible first | exact HI0.out | apply IsS111.alloc | apply IsS111.drewN | apply IsS111.drew | apply IsS111.set_1 | apply IsS111.set_2 | refine IsS111.far ?_ NB0_295.out _) | exact HI0.out))) : p := h
theorem zgb_ {p : Prop} (h : p := by rw [← hq_]; exact (by repeat (first | (with_reducible first | exact HK.out | apply KeepBut.set_ | apply keep_drewN | apply keep_drew | apply keep_alloc | refine keep_far ?_ GW295.out _) | exact HK.out))) : p := h
theorem zgc_ {p : Prop} (h : p := by rw [← hq_]; exact (by repeat (first | (with_reducible first | exact HB.out | apply pA | apply pN | apply p1 | refine below_set ?_ (IsS111.ge HI0.out) | refine below_set ?_ GE295.out) | exact HB.out))) : p := h
theorem zgd_ {p : Prop} (h : p := by (try simp only [mT, mC, mN]); first | done | (simp only [hji7]; rfl) | rfl | (simp only [lD, lT]; rfl)) : p := h
theorem zge_ {p : Prop} (h : p := by repeat (first | (with_reducible first | exact HI0.out | apply IsS111.alloc | apply IsS111.drewN | apply IsS111.drew | apply IsS111.set_1 | apply IsS111.set_2 | refine IsS111.far ?_ NB0_295.out _) | exact HI0.out)) : p := h
theorem zgf_ {p : Prop} (h : p := by repeat (first | (with_reducible first | exact HB.out | apply pA | apply pN | apply p1 | refine below_set ?_ (IsS111.ge HI0.out) | refine below_set ?_ GE295.out) | exact HB.out)) : p := h
theorem zgg_ {p : Prop} (h : p := by first | rfl | (simp [errW_none, errW_some] <;> rfl) | (simp only [← hji5, ← hji7]; first | rfl | (simp [errW_none, errW_some] <;> rfl)) | (simp [*, errW_none, errW_some] <;> rfl)) : p := h
theorem zgh_ {p : Prop} (h : p := by repeat (first | (with_reducible first | exact HB.out | apply pA | apply pN | apply p1 | refine below_set ?_ GE345.out) | exact HB.out)) : p := h
theorem zgi_ {p : Prop} (h : p := by repeat (first | (with_reducible first | exact HB.out | apply pA | apply pN | apply p1 | refine below_set ?_ GE383.out) | exact HB.out)) : p := h
theorem zgj_ {p : Prop} (h : p := by repeat (first | (with_reducible first | exact HB.out | apply pA | apply pN | apply p1 | refine below_set ?_ GE464.out) | exact HB.out)) : p := h
theorem zha_ {p : Prop} (h : p := by repeat (first | (with_reducible first | exact HB.out | apply pA | apply pN | apply p1 | refine below_set ?_ GE464.out | refine below_set ?_ GE466.out) | exact HB.out)) : p := h
theorem zhb_ {p : Prop} (h : p := by refine zb ?_; refine blk_far ?_ NB151_158.out _; refine zb ?_; refine blk_far ?_ NB151_158.out _; refine zb ?_; exact BK151.out) : p := h
theorem zhc_ {p : Prop} (h : p := by refine zb ?_; refine blk_put (cs := #[.int .i64 t152, .slice none 0 0]) ?_ 1 _ rfl; refine zb ?_; refine blk_put (cs := #[.int .i64 0, .slice none 0 0]) ?_ 0 _ rfl; refine zb ?_; exact BK158.out) : p := h
theorem zhd_ {p : Prop} (h : p := by repeat (first | (with_reducible first | exact HB.out | apply pA | apply pN | apply p1 | refine below_set ?_ GE195.out | refine below_set ?_ GE196.out) | exact HB.out)) : p := h
theorem zhe_ {p : Prop} (h : p := by have := HK1.out; have := HK2.out; have := HJ7.out; have := HK4.out; omega) : p := h
theorem zhf_ {p : Prop} (h : p := by have := HK1.out; have := HK2.out; have := HJ8.out; have := HK4.out; omega) : p := h
theorem zhg_ {p : Prop} (h : p := by repeat (first | (with_reducible first | exact HB.out | apply pA | apply pN | apply p1 | refine below_set ?_ GE242.out | refine below_set ?_ GE255.out) | exact HB.out)) : p := h
theorem zhh_ {p : Prop} (h : p := by repeat (first | (with_reducible first | exact HB.out | apply pA | apply pN | apply p1 | refine below_set ?_ GE270.out) | exact HB.out)) : p := h
theorem zhi_ {p : Prop} (h : p := by repeat (first | (with_reducible first | exact HB.out | apply pA | apply pN | apply p1 | refine below_set ?_ GE368.out) | exact HB.out)) : p := h
theorem zhj_ {p : Prop} (h : p := by repeat (first | (with_reducible first | exact HB.out | apply pA | apply pN | apply p1 | refine below_set ?_ GE372.out) | exact HB.out)) : p := h
theorem zia_ {p : Prop} (h : p := by repeat (first | (with_reducible first | exact HB.out | apply pA | apply pN | apply p1 | refine below_set ?_ (IsS111.ge HI390.out) | refine below_set ?_ GE388.out | refine below_set ?_ GE389.out) | exact HB.out)) : p := h
theorem zib_ {p : Prop} (h : p := by repeat (first | (with_reducible first | exact HI0.out | apply IsS111.alloc | apply IsS111.drewN | apply IsS111.drew | apply IsS111.set_1 | apply IsS111.set_2 | refine IsS111.far ?_ NB0_138.out _) | exact HI0.out)) : p := h
theorem zic_ {p : Prop} (h : p := by repeat (first | (with_reducible first | exact HB.out | apply pA | apply pN | apply p1 | refine below_set ?_ (IsS111.ge HI0.out) | refine below_set ?_ GE138.out) | exact HB.out)) : p := h
theorem zid_ {p : Prop} (h : p := by repeat (first | (with_reducible first | exact HB.out | apply pA | apply pN | apply p1 | refine below_set ?_ GE184.out) | exact HB.out)) : p := h
theorem zie_ {p : Prop} (h : p := by repeat (first | (with_reducible first | exact HB.out | apply pA | apply pN | apply p1 | refine below_set ?_ GE193.out) | exact HB.out)) : p := h
theorem zif_ {p : Prop} (h : p := by have := HK1.out; have := HK2.out; first | omega | exact Nat.le_refl _) : p := h
theorem zig_ {p : Prop} (h : p := by refine zr ?_; exact Kd.R_mono HO_3.out (fun _ hk => trivial)) : p := h
theorem zih_ {p : Prop} (h : p := by repeat (first | (with_reducible first | exact HB.out | apply pA | apply pN | apply p1 | refine below_set ?_ GE216.out) | exact HB.out)) : p := h
theorem zii_ {p : Prop} (h : p := by repeat (first | (with_reducible first | exact HB.out | apply pA | apply pN | apply p1 | refine below_set ?_ GE242.out | refine below_set ?_ GE265.out) | exact HB.out)) : p := h
theorem zij_ {p : Prop} (h : p := by repeat (first | (with_reducible first | exact HB.out | apply pA | apply pN | apply p1 | refine below_set ?_ GE332.out) | exact HB.out)) : p := h
theorem zja_ {p : Prop} (h : p := by repeat (first | (with_reducible first | exact HB.out | apply pA | apply pN | apply p1 | refine below_set ?_ GE357.out) | exact HB.out)) : p := h
theorem zjb_ {p : Prop} (h : p := by repeat (first | (with_reducible first | exact HB.out | apply pA | apply pN | apply p1 | refine below_set ?_ GE388.out | refine below_set ?_ GE389.out) | exact HB.out)) : p := h
theorem zjc_ {p : Prop} (h : p := by repeat (first | (with_reducible first | exact HB.out | apply pA | apply pN | apply p1 | refine below_set ?_ (IsS111.ge HI390.out) | refine below_set ?_ GE388.out | refine below_set ?_ GE389.out | refine below_set ?_ GE397.out) | exact HB.out)) : p := h
theorem zjd_ {p : Prop} (h : p := by refine zq ?_; exact (Kd.Q_mono (Kd.Q_far (p := ⟨gb402, 1, none⟩) (Kd.Q_far (p := ⟨gb402, 0, none⟩) (Kd.Q_types HO394.out BK402.out (by decide)) (fun _ hk => hk.2) (.int .i64 t398)) (fun _ hk => hk.2) (.int .i64 t399)) (fun _ h_ => h_.1))) : p := h
theorem zje_ {p : Prop} (h : p := by repeat (first | (with_reducible first | exact HB.out | apply pA | apply pN | apply p1 | refine below_set ?_ GE462.out) | exact HB.out)) : p := h
theorem zjf_ {p : Prop} (h : p := by repeat (first | (with_reducible first | exact HB.out | apply pA | apply pN | apply p1 | refine below_set ?_ GE473.out | refine below_set ?_ GE493.out | refine below_set ?_ GE512.out | refine below_set ?_ GE513.out | refine below_set ?_ GE522.out) | exact HB.out)) : p := h
theorem zjg_ {p : Prop} (h : p := by repeat (first | (with_reducible first | exact HK.out | apply KeepBut.set_ | apply keep_drewN | apply keep_drew | apply keep_alloc | refine keep_far ?_ GW117.out _) | exact HK.out)) : p := h
theorem zjh_ {p : Prop} (h : p := by exact (keep_size (w := w) (g := g) (row := none) (by repeat (first | (with_reducible first | exact HK.out | apply KeepBut.set_ | apply keep_drewN | apply keep_drew | apply keep_alloc | refine keep_far ?_ GW117.out _ | refine keep_far ?_ GW118.out _) | exact HK.out)))) : p := h
theorem zji_ {p : Prop} (h : p := by refine zb ?_; refine blk_put (cs := #[.int .i64 a1, u119001]) ?_ 1 _ rfl; refine zb ?_; exact BK118.out) : p := h
theorem zjj_ {p : Prop} (h : p := by repeat (first | (with_reducible first | exact HB.out | apply pA | apply pN | apply p1 | refine below_set ?_ (IsS111.ge HI185.out) | refine below_set ?_ GE184.out) | exact HB.out)) : p := h
theorem zbaa_ {p : Prop} (h : p := by repeat (first | (with_reducible first | exact HB.out | apply pA | apply pN | apply p1 | refine below_set ?_ GE195.out) | exact HB.out)) : p := h
theorem zbab_ {p : Prop} (h : p := by first | rfl | (simp [errW_none, errW_some] <;> rfl) | (simp only [← hji4, ← hji6]; first | rfl | (simp [errW_none, errW_some] <;> rfl)) | (simp [*, errW_none, errW_some] <;> rfl)) : p := h
theorem zbac_ {p : Prop} (h : p := by repeat (first | (with_reducible first | exact HB.out | apply pA | apply pN | apply p1 | refine below_set ?_ GE223.out) | exact HB.out)) : p := h
theorem zbad_ {p : Prop} (h : p := by refine zr ?_; exact Kd.R_mono (Kd.R_far (p := ⟨gb255, 1, none⟩) (Kd.R_far (p := ⟨gb255, 0, none⟩) (Kd.R_types HO_8.out BK255.out (by decide)) (fun _ hk => hk.2) (.int .i64 ((rd_T72 t244 x33_2).f0))) (fun _ hk => hk.2) (.int .i64 ((rd_T72 t244 x33_2).f1))) (fun _ hk => trivial)) : p := h
theorem zbae_ {p : Prop} (h : p := by refine zr ?_; exact (Kd.R_mono (Kd.R_far (p := ⟨gb255, 1, none⟩) (Kd.R_far (p := ⟨gb255, 0, none⟩) (Kd.R_types HO_8.out BK255.out (by decide)) (fun _ hk => hk.2) (.int .i64 ((rd_T72 t244 x33_2).f0))) (fun _ hk => hk.2) (.int .i64 ((rd_T72 t244 x33_2).f1))) (fun _ h_ => h_.1))) : p := h
theorem zbaf_ {p : Prop} (h : p := by refine zb ?_; refine blk_far ?_ NB242_255.out _; refine zb ?_; refine blk_far ?_ NB242_255.out _; refine zb ?_; exact BK242.out) : p := h
theorem zbag_ {p : Prop} (h : p := by refine zb ?_; refine blk_far ?_ NB295_301.out _; refine zb ?_; refine blk_far ?_ NB295_301.out _; refine zb ?_; exact BK295.out) : p := h
theorem zbah_ {p : Prop} (h : p := by refine zb ?_; refine blk_put (cs := #[.int .i64 t298, .int .i64 0]) ?_ 1 _ rfl; refine zb ?_; refine blk_put (cs := #[.int .i64 0, .int .i64 0]) ?_ 0 _ rfl; refine zb ?_; exact BK301.out) : p := h
theorem zbai_ {p : Prop} (h : p := by refine zb ?_; refine blk_put (cs := #[.int .i64 t298, .int .i64 0]) ?_ 1 _ rfl; refine zb ?_; exact BK301.out) : p := h
theorem zbaj_ {p : Prop} (h : p := by repeat (first | (with_reducible first | exact HB.out | apply pA | apply pN | apply p1 | refine below_set ?_ (IsS111.ge HI333.out) | refine below_set ?_ GE332.out) | exact HB.out)) : p := h
theorem zbba_ {p : Prop} (h : p := by first | rfl | (simp [errW_none, errW_some] <;> rfl) | (simp only [← hji7]; first | rfl | (simp [errW_none, errW_some] <;> rfl)) | (simp [*, errW_none, errW_some] <;> rfl)) : p := h
theorem zbbb_ {p : Prop} (h : p := by repeat (first | (with_reducible first | exact HB.out | apply pA | apply pN | apply p1 | refine below_set ?_ GE388.out) | exact HB.out)) : p := h
theorem zbbc_ {p : Prop} (h : p := by refine zb ?_; refine blk_far ?_ NB388_402.out _; refine zb ?_; refine blk_far ?_ NB388_402.out _; refine zb ?_; exact BK388.out) : p := h
theorem zbbd_ {p : Prop} (h : p := by refine zb ?_; refine blk_far ?_ NB389_402.out _; refine zb ?_; refine blk_far ?_ NB389_402.out _; refine zb ?_; exact BK389.out) : p := h
theorem zbbe_ {p : Prop} (h : p := by refine zb ?_; refine blk_far ?_ NB397_402.out _; refine zb ?_; refine blk_far ?_ NB397_402.out _; refine zb ?_; exact BK397.out) : p := h
theorem zbbf_ {p : Prop} (h : p := by refine zb ?_; refine blk_far ?_ NB388_389.out _; refine zb ?_; refine blk_far ?_ NB388_389.out _; refine zb ?_; refine blk_put (cs := #[.int .i64 t391, .slice none 0 0]) ?_ 1 _ rfl; refine zb ?_; refine blk_put (cs := #[.int .i64 0, .slice none 0 0]) ?_ 0 _ rfl; refine zb ?_; exact BK388.out) : p := h
theorem zbbg_ {p : Prop} (h : p := by repeat (first | exact (Kd.Q_reads' HO472.out).2.2 | (with_reducible refine cA ?_ _) | (with_reducible refine cN ?_ _) | (with_reducible refine cD ?_))) : p := h
theorem zbbh_ {p : Prop} (h : p := by repeat (first | exact (Kd.C_below HR1.out HB.out) | (with_reducible refine cA ?_ _) | (with_reducible refine cN ?_ _) | (with_reducible refine cD ?_))) : p := h
theorem zbbi_ {p : Prop} (h : p := by repeat (first | (with_reducible first | exact HB.out | apply pA | apply pN | apply p1 | refine below_set ?_ GE473.out | refine below_set ?_ GE493.out | refine below_set ?_ GE512.out) | exact HB.out)) : p := h
theorem zbbj_ {p : Prop} (h : p := by repeat (first | (with_reducible first | exact HB.out | apply pA | apply pN | apply p1 | refine below_set ?_ GE473.out | refine below_set ?_ GE493.out | refine below_set ?_ GE512.out | refine below_set ?_ GE513.out | refine below_set ?_ GE522.out | refine below_set ?_ GE526.out | refine below_set ?_ GE534.out) | exact HB.out)) : p := h
theorem zbca_ {p : Prop} (h : p := by repeat (first | exact (Kd.R_reads' HO545.out).2.2 | (with_reducible refine cA ?_ _) | (with_reducible refine cN ?_ _) | (with_reducible refine cD ?_))) : p := h
theorem zbcb_ {p : Prop} (h : p := by repeat (first | exact (Kd.R_reads' HO549.out).2.2 | (with_reducible refine cA ?_ _) | (with_reducible refine cN ?_ _) | (with_reducible refine cD ?_))) : p := h
theorem zbcc_ {p : Prop} (h : p := by refine zr ?_; exact Kd.R_mono HO_8.out (fun _ hk => ⟨hk.1.1, ⟨hk.1.2.1, ⟨hk.1.2.2.1, ⟨hk.1.2.2.2.1, ⟨hk.1.2.2.2.2, hk.2⟩⟩⟩⟩⟩)) : p := h
theorem zbcd_ {p : Prop} (h : p := by refine zr ?_; exact Kd.R_mono HO_12.out (fun _ hk => ⟨hk.1.1, ⟨hk.1.2.1, ⟨hk.1.2.2.1, ⟨hk.1.2.2.2.1, ⟨hk.1.2.2.2.2.1, ⟨hk.1.2.2.2.2.2, hk.2⟩⟩⟩⟩⟩⟩)) : p := h
theorem zbce_ {p : Prop} (h : p := by refine zr ?_; exact Kd.R_mono HO_269.out (fun _ hk => ⟨hk.1.1, ⟨hk.1.2.1, ⟨hk.1.2.2.1, ⟨hk.1.2.2.2.1, ⟨hk.1.2.2.2.2, hk.2⟩⟩⟩⟩⟩)) : p := h
theorem zbcf_ {p : Prop} (h : p := by have := HJ38.out; have := HK2.out; have := HJ149.out; have := HK4.out; have := HK5.out; omega) : p := h
theorem zbcg_ {p : Prop} (h : p := by have := HJ38.out; have := HK2.out; have := HK3.out; have := HK4.out; have := HK5.out; have := HK6.out; omega) : p := h
def errW : Option Int → Value
 | none => .nilIface
 | some c => .iface 0 (.int .i64 c)
theorem errW_none : errW none = .nilIface := rfl
theorem errW_some (c : Int) : errW (some c) = .iface 0 (.int .i64 c) := rfl
theorem info3 : (Try.prog.info? 3).map (fun i => (i.zero, i.size, i.bytes)) = some (some (.int .i64 0), 1, 8) := by kernel_rfl
theorem info4 : (Try.prog.info? 4).map (fun i => (i.zero, i.size, i.bytes)) = some (some (.bool false), 1, 1) := by kernel_rfl
theorem info5 : (Try.prog.info? 5).map (fun i => (i.zero, i.size, i.bytes)) = some (some (.int .u8 0), 1, 1) := by kernel_rfl
theorem info9 : (Try.prog.info? 9).map (fun i => (i.zero, i.size, i.bytes)) = some (some (.string ⟨#[]⟩), 1, 16) := by kernel_rfl
theorem info72 : (Try.prog.info? 72).map (fun i => (i.zero, i.size, i.bytes)) = some (some (.agg #[(.int .i64 0), (.int .i64 0)]), 2, 16) := by kernel_rfl
structure S72 where
 f0 : Int
 f1 : Int
def z72 : S72 := ⟨(0 : Int), (0 : Int)⟩
def k72 : Kd S72 := Kd.iso (Kd.pair (Kd.int .i64) (Kd.int .i64)) (fun x : S72 => (x.f0, x.f1))
theorem k72_open {w : World} {x : S72} {cs : List Value} (h : k72.K w x cs) : cs = [.int .i64 x.f0, .int .i64 x.f1] := by
 obtain ⟨_, _, rfl, rfl, rfl⟩ := h
 exact rfl
theorem k72_openM {w : World} {base : Nat} {ok : Nat → Prop} {x : S72} {cs : List Value} (h : k72.M w base ok x cs) : cs = [.int .i64 x.f0, .int .i64 x.f1] := by
 obtain ⟨_, _, rfl, rfl, rfl⟩ := h
 exact rfl
theorem k72_mk (w : World) (x : S72)  : k72.K w x [.int .i64 x.f0, .int .i64 x.f1] := ⟨[.int .i64 x.f0], [.int .i64 x.f1], rfl, rfl, rfl⟩
theorem k72_mkM (w : World) (base : Nat) (ok : Nat → Prop) (x : S72)  : k72.M w base ok x [.int .i64 x.f0, .int .i64 x.f1] := ⟨[.int .i64 x.f0], [.int .i64 x.f1], rfl, rfl, rfl⟩
def rd_T72 (xs : List S72) (i : Int) : S72 := xs.getD i.toNat z72
theorem at_T72 {w : World} {A : Option Addr} {n : Nat} {xs : List S72} (h : Kd.C k72 w A n xs) (i : Int) (h0 : 0 ≤ i) (h1 : i < n) : ∃ ad , A = some ad ∧ w.cell? (ad.add (i.toNat * 2)) = some (.int .i64 (rd_T72 xs i).f0) ∧ w.cell? ⟨(ad.add (i.toNat * 2)).block, (ad.add (i.toNat * 2)).off + 1, none⟩ = some (.int .i64 (rd_T72 xs i).f1) := by
 obtain ⟨ad, c, e, _, hK, hc0⟩ := Kd.C_get h z72 i h0 h1
 have hc : ∀ j u, c[j]? = some u → w.cell? (ad.add (i.toNat * 2 + j)) = some u := hc0
 obtain rfl := k72_open hK
 exact ⟨ad, e, hc 0 _ rfl, by rw [← add_field _ _ 1 (by omega)]; exact hc 1 _ rfl⟩
end Go.Proofs.Ytbkighlfgaifeaa.QFnPrimes
