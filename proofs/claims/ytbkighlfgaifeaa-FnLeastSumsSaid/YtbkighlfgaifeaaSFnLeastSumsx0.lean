/- Functions of FnLeastSums, each as a Lean function, with the proof that the Go code comes to its answers. -/
import Derived.Test.YtbkighlfgaifeaaProg
import Derived.Below
import Derived.Deep.Draws
import Derived.Deep.AppendLies
import Derived.Maps.AppendAt
import Derived.OwnWalk
import Derived.Laws.BytesArg
import Derived.Laws.MakeOwn
import Derived.Laws.OwnMore
import Derived.Deep.OwnRows
import Derived.Tactics
import Derived.Lib.ConvBytes
import Derived.Laws.Slices
import Derived.WalkKit
import Derived.KernelRfl
import Derived.RowKit3
import Derived.Deep.LoopGhost
import Derived.Deep.QuietTactic
import Derived.BigQuiet
import Derived.WideLaws
import Derived.Deep.DeepCutAuto
import Derived.Deep.CutBlock
import Derived.Deep.RegionHeld3
import Derived.Laws.Rows
import Derived.Lib.AppendStr
import Derived.ArgAppend
import Derived.Laws.IdiomCopy
import Derived.OrdersHeld
import Derived.Laws.BitsLemmas
import Derived.RowKit
import Derived.Test.YtbkighlfgaifeaaVLeSep
import Derived.Test.YtbkighlfgaifeaaVLeWWords
import Derived.Test.YtbkighlfgaifeaaVLeWLast
import Derived.Test.YtbkighlfgaifeaaVLeWTab
import Derived.Test.YtbkighlfgaifeaaVLeWFour
import Derived.Test.YtbkighlfgaifeaaVLeWQPut
import Derived.Test.YtbkighlfgaifeaaVLeWApart
import Derived.Test.YtbkighlfgaifeaaVLeWArr
import Derived.Test.YtbkighlfgaifeaaVLeWZeros
import Derived.Test.YtbkighlfgaifeaaVLeWFoot
import Derived.Test.YtbkighlfgaifeaaVLeWKept
import Derived.Test.YtbkighlfgaifeaaVLeWShare
import Derived.Test.YtbkighlfgaifeaaVLeWN
import Derived.Test.YtbkighlfgaifeaaVLeWFootNe
import Derived.Test.YtbkighlfgaifeaaVLeWAt
import Derived.Test.YtbkighlfgaifeaaVLeWEqStruct
import Derived.Test.YtbkighlfgaifeaaVLeWRepsOne
import Derived.Test.YtbkighlfgaifeaaVLeWInv
import Derived.Test.YtbkighlfgaifeaaVLeWInvWords
import Derived.Test.YtbkighlfgaifeaaVLeWGuard
import Derived.Test.YtbkighlfgaifeaaVLeWNEv
import Derived.Test.YtbkighlfgaifeaaVLeWMore
namespace Go.Proofs.Ytbkighlfgaifeaa.QFnLeastSums
open Go.RowKit Go.Proofs.YtbkighlfgaifeaaW.PrintWords Go.Proofs.YtbkighlfgaifeaaW.PrintLast Go.Proofs.YtbkighlfgaifeaaW.PrintMore
open Go.Proofs.YtbkighlfgaifeaaW.PrintWords renaming pw_below_drewN → pN, below_drew1 → p1, below_alloc → pA
open Go.Proofs.YtbkighlfgaifeaaW.PrintWords.Kd renaming R_alloc → kA, R_drewN → kN, R_drew → kD, Q_alloc → qA, Q_drewN → qN, Q_drew → qD, C_alloc → cA, C_drewN → cN, C_drew → cD
open List renaming setIfInBounds_toArray → sI, set_cons_zero → s0, set_cons_succ → sS, map_toArray → mT, length_take → lT, length_drop → lD, map_cons → mC, map_nil → mN
attribute [local go_sem] max2_int min2_int max_two min_two max_three min_three max_four min_four
set_option maxHeartbeats 8000000
set_option maxRecDepth 100000
set_option linter.unusedVariables false
set_option linter.unusedSimpArgs false
abbrev ti : Bool := true
abbrev fi : Bool := false
theorem z {a b : Prop} (h : a) (k : b) : Aside0 a ∧ b := ⟨⟨h⟩, k⟩
theorem z1 {a : Prop} (h : a) : Aside0 a := ⟨h⟩
theorem zb {p q : Prop} (h : q) (f : q → p := by intro hq; (with_reducible repeat (first | refine blk_drewN ?_ _ | refine blk_drew ?_ | refine blk_alloc ?_ _)); exact hq) : p := f h
theorem zr {p q : Prop} (h : q) (f : q → p := by intro hq; (with_reducible repeat (first | apply kA | apply kN | apply kD)); exact hq) : p := f h
theorem zq {p q : Prop} (h : q) (f : q → p := by intro hq; (with_reducible repeat (first | apply qA | apply qN | apply qD)); exact hq) : p := f h
theorem py_ {P : Program} {ops : Array Oper} {Q : Exit → Act → World → Prop} {md : Region.Mode} {S : World → Prop} {ds : List Nat} {T : Bool × List (List Nat × List Nat)} {oi : Oper} {v : Value} {fuel : Nat} {l : Array Bool} {a a' : Act} {w : World} (i : Nat) (n : Tmp) (hT : rtab md ops = T)
    (h : wpAnyLast P md ops Q S ds fuel (l.setIfInBounds i true) a' w) (hi : ops[i]? = some oi := by exact rfl) (hN : oi.dst = some n := by exact rfl) (hc : anyT T l.toList (l.setIfInBounds i true).toList i = true := by kernel_rfl)
    (hQ : ∀ c a w, Q (.panic c) (a.put oi.dst v) w → Q (.panic c) a w := by exact fun _ _ _ h => h) (hd : Region.wanted oi (yielded ops a.tmps) = true := by rfl) (hy : ∀ w, (execOp a.eval oi).run P w = .ok (.value v) w := by (intro w'; go_simp; with_reducible rfl)) (ha : a.put (some n) v = a' := by (simp only [Act.put, sI, s0, sS, i64_w, i32_w]; rfl)) : wpAnyLast P md ops Q S ds (fuel + 1) l a w :=
  pure_ _ hi hN (any_of hT hc) hQ (Or.inl ⟨hd, hy⟩) ha h
theorem pu_ {P : Program} {ops : Array Oper} {Q : Exit → Act → World → Prop} {md : Region.Mode} {S : World → Prop} {ds : List Nat} {T : Bool × List (List Nat × List Nat)} {oi : Oper} {fuel : Nat} {l : Array Bool} {a a' : Act} {w : World} (i : Nat) (n : Tmp) (hT : rtab md ops = T)
    (h : wpAnyLast P md ops Q S ds fuel (l.setIfInBounds i true) a' w) (hi : ops[i]? = some oi := by exact rfl) (hN : oi.dst = some n := by exact rfl) (hc : anyT T l.toList (l.setIfInBounds i true).toList i = true := by kernel_rfl)
    (hQ : ∀ c a w, Q (.panic c) (a.put oi.dst undef) w → Q (.panic c) a w := by exact fun _ _ _ h => h) (hd : Region.wanted oi (yielded ops a.tmps) = false := by rfl) (ha : a.put (some n) undef = a' := by (simp only [Act.put, sI, s0, sS, i64_w, i32_w]; rfl)) : wpAnyLast P md ops Q S ds (fuel + 1) l a w :=
  pure_ _ hi hN (any_of hT hc) hQ (Or.inr ⟨hd, rfl⟩) ha h
theorem za_ {p : Prop} (h : p := by repeat (first | (with_reducible first | exact HB.out | apply pA | apply pN | apply p1) | exact HB.out)) : p := h
theorem zb_ {p : Prop} (h : p := by first | rfl | (simp; done) | (simp [*]; done)) : p := h
theorem zc_ {p : Prop} (h : p := by first | (go_simp; done) | (go_simp; rfl)) : p := h
theorem zd_ {p : Prop} (h : p := by first | (with_reducible assumption) | assumption) : p := h
theorem ze_ {p : Prop} (h : p := by (try simp only [mT, mC, mN]); first | done | rfl | (simp only [lD, lT]; rfl)) : p := h
theorem zf_ {p : Prop} (h : p := by first | rfl | (simp [errW_none, errW_some] <;> rfl) | (simp [*, errW_none, errW_some] <;> rfl)) : p := h
theorem zg_ {p : Prop} (h : p := by repeat (first | (with_reducible first | exact HI0.out | apply IsS111.alloc | apply IsS111.drewN | apply IsS111.drew | apply IsS111.set_1 | apply IsS111.set_2) | exact HI0.out)) : p := h
theorem zh_ {p : Prop} (h : p := by repeat (first | (with_reducible first | exact HK.out | apply KeepBut.set_ | apply keep_drewN | apply keep_drew | apply keep_alloc) | exact HK.out)) : p := h
theorem zi_ {p : Prop} (h : p := by repeat (first | exact (Kd.C_below HR0_1.out HB.out) | (with_reducible refine cA ?_ _) | (with_reducible refine cN ?_ _) | (with_reducible refine cD ?_))) : p := h
theorem zj_ {p : Prop} (h : p := by repeat (first | exact Drawn0.refl _ | apply Drawn0.step)) : p := h
theorem zba_ {p : Prop} (h : p := by have := HK1.out; omega) : p := h
theorem zbb_ {p : Prop} (h : p := by repeat (first | (with_reducible first | exact HI0.out | apply IsS111.alloc | apply IsS111.drewN | apply IsS111.drew | apply IsS111.set_1 | apply IsS111.set_2 | refine IsS111.far ?_ NB0_219.out _ | refine IsS111.far ?_ NB0_226.out _) | exact HI0.out)) : p := h
theorem zbc_ {p : Prop} (h : p := by repeat (first | (with_reducible first | exact HB.out | apply pA | apply pN | apply p1 | refine below_set ?_ (IsS111.ge HI0.out)) | exact HB.out)) : p := h
theorem zbd_ {p : Prop} (h : p := by repeat (first | (with_reducible first | exact HI415.out | apply IsS111.alloc | apply IsS111.drewN | apply IsS111.drew | apply IsS111.set_1 | apply IsS111.set_2) | exact HI415.out)) : p := h
theorem zbe_ {p : Prop} (h : p := by repeat (first | (with_reducible first | exact HK.out | apply KeepBut.set_ | apply keep_drewN | apply keep_drew | apply keep_alloc | refine keep_far ?_ GW219.out _) | exact HK.out)) : p := h
theorem zbf_ {p : Prop} (h : p := by repeat (first | (with_reducible first | exact HB.out | apply pA | apply pN | apply p1 | refine below_set ?_ GE480.out | refine below_set ?_ GE510.out | refine below_set ?_ GE516.out | refine below_set ?_ GE529.out) | exact HB.out)) : p := h
theorem zbg_ {p : Prop} (h : p := by repeat (first | (with_reducible first | exact HK.out | apply KeepBut.set_ | apply keep_drewN | apply keep_drew | apply keep_alloc | refine keep_far ?_ GW219.out _ | refine keep_far ?_ GW226.out _) | exact HK.out)) : p := h
theorem zbh_ {p : Prop} (h : p := by repeat (first | (with_reducible first | exact HB.out | apply pA | apply pN | apply p1 | refine below_set ?_ (IsS111.ge HI415.out)) | exact HB.out)) : p := h
theorem zbi_ {p : Prop} (h : p := by first | exact Kd.R_nil _ _ _ _ _ | exact Kd.N_nil _ _ _ _ _ | exact Kd.V_nil _ _ _ _ _ | exact Kd.Q_nil _ _ _ _ _ | exact Kd.S_nil _ _ _ _ _) : p := h
theorem zbj_ {p : Prop} (h : p := by repeat (first | (with_reducible first | exact HI0.out | apply IsS111.alloc | apply IsS111.drewN | apply IsS111.drew | apply IsS111.set_1 | apply IsS111.set_2 | refine IsS111.far ?_ NB0_219.out _) | exact HI0.out)) : p := h
theorem zca_ {p : Prop} (h : p := by repeat (first | (with_reducible first | exact HB.out | apply pA | apply pN | apply p1 | refine below_set ?_ (IsS111.ge HI0.out) | refine below_set ?_ GE219.out | refine below_set ?_ GE226.out) | exact HB.out)) : p := h
theorem zcb_ {p : Prop} (h : p := by repeat (first | (with_reducible first | exact HB.out | apply pA | apply pN | apply p1 | refine below_set ?_ GE354.out) | exact HB.out)) : p := h
theorem zcc_ {p : Prop} (h : p := by repeat (first | (with_reducible first | exact HI0.out | apply IsS111.alloc | apply IsS111.drewN | apply IsS111.drew | apply IsS111.set_1 | apply IsS111.set_2 | refine IsS111.far ?_ NB0_378.out _ | refine IsS111.far ?_ NB0_384.out _) | exact HI0.out)) : p := h
theorem zcd_ {p : Prop} (h : p := by repeat (first | (with_reducible first | exact HK.out | apply KeepBut.set_ | apply keep_drewN | apply keep_drew | apply keep_alloc | refine keep_far ?_ GW378.out _ | refine keep_far ?_ GW384.out _) | exact HK.out)) : p := h
theorem zce_ {p : Prop} (h : p := by repeat (first | (with_reducible first | exact HI0.out | apply IsS111.alloc | apply IsS111.drewN | apply IsS111.drew | apply IsS111.set_1 | apply IsS111.set_2 | refine IsS111.far ?_ NB0_185.out _ | refine IsS111.far ?_ NB0_186.out _) | exact HI0.out)) : p := h
theorem zcf_ {p : Prop} (h : p := by repeat (first | (with_reducible first | exact HB.out | apply pA | apply pN | apply p1 | refine below_set ?_ GE303.out) | exact HB.out)) : p := h
theorem zcg_ {p : Prop} (h : p := by repeat (first | (with_reducible first | exact HI415.out | apply IsS111.alloc | apply IsS111.drewN | apply IsS111.drew | apply IsS111.set_1 | apply IsS111.set_2 | refine IsS111.far ?_ NB415_432.out _) | exact HI415.out)) : p := h
theorem zch_ {p : Prop} (h : p := by repeat (first | (with_reducible first | exact HB.out | apply pA | apply pN | apply p1 | refine below_set ?_ GE480.out) | exact HB.out)) : p := h
theorem zci_ {p : Prop} (h : p := by have := HK1.out; have := HK2.out; omega) : p := h
theorem zcj_ {p : Prop} (h : p := by repeat (first | (with_reducible first | exact HB.out | apply pA | apply pN | apply p1 | refine below_set ?_ (IsS111.ge HI0.out) | refine below_set ?_ GE378.out | refine below_set ?_ GE384.out) | exact HB.out)) : p := h
theorem zda_ {p : Prop} (h : p := by repeat (first | (with_reducible first | exact HB.out | apply pA | apply pN | apply p1 | refine below_set ?_ GE447.out) | exact HB.out)) : p := h
theorem zdb_ {p : Prop} (h : p := by repeat (first | (with_reducible first | exact HB.out | apply pA | apply pN | apply p1 | refine below_set ?_ GE120.out | refine below_set ?_ GE121.out) | exact HB.out)) : p := h
theorem zdc_ {p : Prop} (h : p := by repeat (first | (with_reducible first | exact HK.out | apply KeepBut.set_ | apply keep_drewN | apply keep_drew | apply keep_alloc | refine keep_far ?_ GW185.out _ | refine keep_far ?_ GW186.out _) | exact HK.out)) : p := h
theorem zdd_ {p : Prop} (h : p := by repeat (first | (with_reducible first | exact HB.out | apply pA | apply pN | apply p1 | refine below_set ?_ GE265.out | refine below_set ?_ GE269.out) | exact HB.out)) : p := h
theorem zde_ {p : Prop} (h : p := by repeat (first | (with_reducible first | exact HB.out | apply pA | apply pN | apply p1 | refine below_set ?_ (IsS111.ge HI0.out) | refine below_set ?_ GE185.out | refine below_set ?_ GE186.out) | exact HB.out)) : p := h
theorem zdf_ {p : Prop} (h : p := by repeat (first | (with_reducible first | exact HB.out | apply pA | apply pN | apply p1 | refine below_set ?_ GE480.out | refine below_set ?_ GE510.out | refine below_set ?_ GE516.out) | exact HB.out)) : p := h
theorem zdg_ {p : Prop} (h : p := by repeat (first | (with_reducible first | exact HB.out | apply pA | apply pN | apply p1 | refine below_set ?_ GE142.out) | exact HB.out)) : p := h
theorem zdh_ {p : Prop} (h : p := by repeat (first | (with_reducible first | exact HI0.out | apply IsS111.alloc | apply IsS111.drewN | apply IsS111.drew | apply IsS111.set_1 | apply IsS111.set_2 | refine IsS111.far ?_ NB0_378.out _) | exact HI0.out)) : p := h
theorem zdi_ {p : Prop} (h : p := by repeat (first | (with_reducible first | exact HK.out | apply KeepBut.set_ | apply keep_drewN | apply keep_drew | apply keep_alloc | refine keep_far ?_ GW378.out _) | exact HK.out)) : p := h
theorem zdj_ {p : Prop} (h : p := by repeat (first | (with_reducible first | exact HB.out | apply pA | apply pN | apply p1 | refine below_set ?_ (IsS111.ge HI415.out) | refine below_set ?_ GE432.out) | exact HB.out)) : p := h
theorem zea_ {p : Prop} (h : p := by repeat (first | (with_reducible first | exact HB.out | apply pA | apply pN | apply p1 | refine below_set ?_ (IsS111.ge HI0.out) | refine below_set ?_ GE219.out) | exact HB.out)) : p := h
theorem zeb_ {p : Prop} (h : p := by (try simp only [mT, mC, mN]); first | done | rfl) : p := h
theorem zec_ {p : Prop} (h : p := by repeat (first | (with_reducible first | exact HB.out | apply pA | apply pN | apply p1 | refine below_set ?_ GE447.out | refine below_set ?_ GE454.out) | exact HB.out)) : p := h
theorem zed_ {p : Prop} (h : p := by repeat (first | (with_reducible first | exact HB.out | apply pA | apply pN | apply p1 | refine below_set ?_ GE164.out) | exact HB.out)) : p := h
theorem zee_ {p : Prop} (h : p := by repeat (first | (with_reducible first | exact HB.out | apply pA | apply pN | apply p1 | refine below_set ?_ GE164.out | refine below_set ?_ GE165.out) | exact HB.out)) : p := h
theorem zef_ {p : Prop} (h : p := by repeat (first | (with_reducible first | exact HB.out | apply pA | apply pN | apply p1 | refine below_set ?_ GE265.out) | exact HB.out)) : p := h
theorem zeg_ {p : Prop} (h : p := by repeat (first | exact (Kd.C_below HR0.out HB.out) | (with_reducible refine cA ?_ _) | (with_reducible refine cN ?_ _) | (with_reducible refine cD ?_))) : p := h
theorem zeh_ {p : Prop} (h : p := by first | omega | exact Nat.le_refl _) : p := h
theorem zei_ {p : Prop} (h : p := by repeat (first | (with_reducible first | exact HB.out | apply pA | apply pN | apply p1 | refine below_set ?_ GE458.out) | exact HB.out)) : p := h
theorem zej_ {p : Prop} (h : p := by repeat (first | (with_reducible first | exact HB.out | apply pA | apply pN | apply p1 | refine below_set ?_ GE458.out | refine below_set ?_ GE463.out) | exact HB.out)) : p := h
theorem zfa_ {p : Prop} (h : p := by repeat (first | (with_reducible first | exact HB.out | apply pA | apply pN | apply p1 | refine below_set ?_ GE458.out | refine below_set ?_ GE463.out | refine below_set ?_ GE465.out) | exact HB.out)) : p := h
theorem zfb_ {p : Prop} (h : p := by repeat (first | (with_reducible first | exact HB.out | apply pA | apply pN | apply p1 | refine below_set ?_ GE480.out | refine below_set ?_ GE510.out | refine below_set ?_ GE516.out | refine below_set ?_ GE529.out | refine below_set ?_ GE541.out) | exact HB.out)) : p := h
theorem zfc_ {p : Prop} (h : p := by repeat (first | (with_reducible first | exact HB.out | apply pA | apply pN | apply p1 | refine below_set ?_ GE480.out | refine below_set ?_ GE510.out | refine below_set ?_ GE516.out | refine below_set ?_ GE529.out | refine below_set ?_ GE545.out) | exact HB.out)) : p := h
theorem zfd_ {p : Prop} (h : p := by repeat (first | (with_reducible first | exact HB.out | apply pA | apply pN | apply p1 | refine below_set ?_ GE120.out) | exact HB.out)) : p := h
theorem zfe_ {p : Prop} (h : p := by repeat (first | (with_reducible first | exact HB.out | apply pA | apply pN | apply p1 | refine below_set ?_ GE132.out | refine below_set ?_ GE134.out) | exact HB.out)) : p := h
theorem zff_ {p : Prop} (h : p := by repeat (first | (with_reducible first | exact HB.out | apply pA | apply pN | apply p1 | refine below_set ?_ GE142.out | refine below_set ?_ GE151.out) | exact HB.out)) : p := h
theorem zfg_ {p : Prop} (h : p := by have := HK1.out; have := HJ5.out; omega) : p := h
theorem zfh_ {p : Prop} (h : p := by repeat (first | (with_reducible first | exact HB.out | apply pA | apply pN | apply p1 | refine below_set ?_ GE109.out) | exact HB.out)) : p := h
theorem zfi_ {p : Prop} (h : p := by repeat (first | (with_reducible first | exact HB.out | apply pA | apply pN | apply p1 | refine below_set ?_ GE113.out | refine below_set ?_ GE114.out) | exact HB.out)) : p := h
theorem zfj_ {p : Prop} (h : p := by repeat (first | (with_reducible first | exact HB.out | apply pA | apply pN | apply p1 | refine below_set ?_ GE127.out) | exact HB.out)) : p := h
theorem zga_ {p : Prop} (h : p := by repeat (first | (with_reducible first | exact HB.out | apply pA | apply pN | apply p1 | refine below_set ?_ GE157.out) | exact HB.out)) : p := h
theorem zgb_ {p : Prop} (h : p := by repeat (first | (with_reducible first | exact HK.out | apply KeepBut.set_ | apply keep_drewN | apply keep_drew | apply keep_alloc | refine keep_far ?_ GW206.out _) | exact HK.out)) : p := h
theorem zgc_ {p : Prop} (h : p := by repeat (first | (with_reducible first | exact HI0.out | apply IsS111.alloc | apply IsS111.drewN | apply IsS111.drew | apply IsS111.set_1 | apply IsS111.set_2 | refine IsS111.far ?_ NB0_206.out _) | exact HI0.out)) : p := h
theorem zgd_ {p : Prop} (h : p := by have := HL.out; simp; omega) : p := h
theorem zge_ {p : Prop} (h : p := by repeat (first | (with_reducible first | exact HB.out | apply pA | apply pN | apply p1 | refine below_set ?_ GE276.out) | exact HB.out)) : p := h
theorem zgf_ {p : Prop} (h : p := by repeat (first | (with_reducible first | exact HB.out | apply pA | apply pN | apply p1 | refine below_set ?_ GE293.out) | exact HB.out)) : p := h
theorem zgg_ {p : Prop} (h : p := by repeat (first | (with_reducible first | exact HB.out | apply pA | apply pN | apply p1 | refine below_set ?_ GE320.out) | exact HB.out)) : p := h
theorem zgh_ {p : Prop} (h : p := by repeat (first | (with_reducible first | exact HB.out | apply pA | apply pN | apply p1 | refine below_set ?_ GE326.out) | exact HB.out)) : p := h
theorem zgi_ {p : Prop} (h : p := by repeat (first | (with_reducible first | exact HB.out | apply pA | apply pN | apply p1 | refine below_set ?_ GE332.out) | exact HB.out)) : p := h
theorem zgj_ {p : Prop} (h : p := by first | rfl | (simp [errW_none, errW_some] <;> rfl) | (simp only [← hji5, ← hji7]; first | rfl | (simp [errW_none, errW_some] <;> rfl)) | (simp [*, errW_none, errW_some] <;> rfl)) : p := h
theorem zha_ {p : Prop} (h : p := by rw [← hq_]; exact (zb BK378.out)) : p := h
theorem zhb_ {p : Prop} (h : p := by rw [← hq_]; exact (by repeat (first | (with_reducible first | exact HI0.out | apply IsS111.alloc | apply IsS111.drewN | apply IsS111.drew | apply IsS111.set_1 | apply IsS111.set_2 | refine IsS111.far ?_ NB0_378.out _) | exact HI0.out))) : p := h
theorem zhc_ {p : Prop} (h : p := by rw [← hq_]; exact (by repeat (first | (with_reducible first | exact HK.out | apply KeepBut.set_ | apply keep_drewN | apply keep_drew | apply keep_alloc | refine keep_far ?_ GW378.out _) | exact HK.out))) : p := h
theorem zhd_ {p : Prop} (h : p := by rw [← hq_]; exact (by repeat (first | (with_reducible first | exact HB.out | apply pA | apply pN | apply p1 | refine below_set ?_ (IsS111.ge HI0.out) | refine below_set ?_ GE378.out) | exact HB.out))) : p := h
theorem zhe_ {p : Prop} (h : p := by (try simp only [mT, mC, mN]); first | done | (simp only [hji7]; rfl) | rfl | (simp only [lD, lT]; rfl)) : p := h
theorem zhf_ {p : Prop} (h : p := by repeat (first | (with_reducible first | exact HB.out | apply pA | apply pN | apply p1 | refine below_set ?_ (IsS111.ge HI0.out) | refine below_set ?_ GE378.out) | exact HB.out)) : p := h
theorem zhg_ {p : Prop} (h : p := by repeat (first | (with_reducible first | exact HB.out | apply pA | apply pN | apply p1 | refine below_set ?_ GE472.out) | exact HB.out)) : p := h
theorem zhh_ {p : Prop} (h : p := by exact (Kd.Q_reads' HO479.out).2.1) : p := h
theorem zhi_ {p : Prop} (h : p := by have := HK1.out; have := HK2.out; have := HJ8.out; have := HK4.out; omega) : p := h
theorem zhj_ {p : Prop} (h : p := by repeat (first | (with_reducible first | exact HB.out | apply pA | apply pN | apply p1 | refine below_set ?_ GE132.out) | exact HB.out)) : p := h
theorem zia_ {p : Prop} (h : p := by repeat (first | (with_reducible first | exact HB.out | apply pA | apply pN | apply p1 | refine below_set ?_ GE161.out | refine below_set ?_ GE162.out) | exact HB.out)) : p := h
theorem zib_ {p : Prop} (h : p := by refine zb ?_; refine blk_far ?_ NB219_226.out _; refine zb ?_; refine blk_far ?_ NB219_226.out _; refine zb ?_; exact BK219.out) : p := h
theorem zic_ {p : Prop} (h : p := by refine zb ?_; refine blk_put (cs := #[.int .i64 t220, .slice none 0 0]) ?_ 1 _ rfl; refine zb ?_; refine blk_put (cs := #[.int .i64 0, .slice none 0 0]) ?_ 0 _ rfl; refine zb ?_; exact BK226.out) : p := h
theorem zid_ {p : Prop} (h : p := by have := HK1.out; have := HK2.out; have := HJ7.out; have := HK4.out; omega) : p := h
theorem zie_ {p : Prop} (h : p := by repeat (first | (with_reducible first | exact HB.out | apply pA | apply pN | apply p1 | refine below_set ?_ GE298.out) | exact HB.out)) : p := h
theorem zif_ {p : Prop} (h : p := by repeat (first | (with_reducible first | exact HB.out | apply pA | apply pN | apply p1 | refine below_set ?_ GE339.out) | exact HB.out)) : p := h
theorem zig_ {p : Prop} (h : p := by repeat (first | exact (Kd.C_below HR1.out HB.out) | (with_reducible refine cA ?_ _) | (with_reducible refine cN ?_ _) | (with_reducible refine cD ?_))) : p := h
theorem zih_ {p : Prop} (h : p := by repeat (first | exact (Kd.Q_reads' HO479.out).2.2 | (with_reducible refine cA ?_ _) | (with_reducible refine cN ?_ _) | (with_reducible refine cD ?_))) : p := h
theorem zii_ {p : Prop} (h : p := by repeat (first | (with_reducible first | exact HB.out | apply pA | apply pN | apply p1 | refine below_set ?_ GE480.out | refine below_set ?_ GE510.out) | exact HB.out)) : p := h
theorem zij_ {p : Prop} (h : p := by repeat (first | (with_reducible exact HR553.out) | (with_reducible refine cA ?_ _) | (with_reducible refine cN ?_ _) | (with_reducible refine cD ?_) | exact HR553.out)) : p := h
theorem zja_ {p : Prop} (h : p := by repeat (first | (with_reducible first | exact HB.out | apply pA | apply pN | apply p1 | refine below_set ?_ GE106.out) | exact HB.out)) : p := h
theorem zjb_ {p : Prop} (h : p := by have := HK1.out; have := HK2.out; first | omega | exact Nat.le_refl _) : p := h
theorem zjc_ {p : Prop} (h : p := by refine zr ?_; exact Kd.R_mono HO_3.out (fun _ hk => trivial)) : p := h
theorem zjd_ {p : Prop} (h : p := by repeat (first | (with_reducible first | exact HB.out | apply pA | apply pN | apply p1 | refine below_set ?_ GE159.out) | exact HB.out)) : p := h
theorem zje_ {p : Prop} (h : p := by repeat (first | (with_reducible first | exact HB.out | apply pA | apply pN | apply p1 | refine below_set ?_ (IsS111.ge HI0.out) | refine below_set ?_ GE206.out) | exact HB.out)) : p := h
theorem zjf_ {p : Prop} (h : p := by repeat (first | (with_reducible first | exact HB.out | apply pA | apply pN | apply p1 | refine below_set ?_ GE252.out) | exact HB.out)) : p := h
theorem zjg_ {p : Prop} (h : p := by exact (Reps.one (show Kd.M (Kd.int .i64) _ _ _ (rd l0 x10_1) [.int .i64 (rd l0 x10_1)] from rfl) (Reps.none _ _))) : p := h
theorem zjh_ {p : Prop} (h : p := by refine zr ?_; exact Kd.R_mono HO345.out (fun _ hk => ⟨hk.2, hk.1.2⟩)) : p := h
theorem zji_ {p : Prop} (h : p := by refine zr ?_; exact Kd.R_mono HO350.out (fun _ hk => ⟨hk.2, hk.1.2⟩)) : p := h
theorem zjj_ {p : Prop} (h : p := by repeat (first | (with_reducible first | exact HB.out | apply pA | apply pN | apply p1 | refine below_set ?_ GE374.out) | exact HB.out)) : p := h
theorem zbaa_ {p : Prop} (h : p := by refine zr ?_; exact (Kd.R_mono (Kd.R_far (p := ⟨gb432, 1, none⟩) (Kd.R_far (p := ⟨gb432, 0, none⟩) (Kd.R_mono HO_6.out (fun k_ hk => (⟨hk, hk.2⟩ : _ ∧ k_ ≠ gb432))) (fun _ hk => hk.2) (.int .i64 t428)) (fun _ hk => hk.2) (.int .i64 t429)) (fun _ h_ => h_.1))) : p := h
theorem zbab_ {p : Prop} (h : p := by refine zb ?_; refine blk_put (cs := #[.int .i64 t428, .int .i64 0]) ?_ 1 _ rfl; refine zb ?_; refine blk_put (cs := #[.int .i64 0, .int .i64 0]) ?_ 0 _ rfl; refine zb ?_; exact BK432.out) : p := h
theorem zbac_ {p : Prop} (h : p := by repeat (first | (with_reducible first | exact HB.out | apply pA | apply pN | apply p1 | refine below_set ?_ GE447.out | refine below_set ?_ GE449.out) | exact HB.out)) : p := h
theorem zbad_ {p : Prop} (h : p := by first | rfl | (simp [errW_none, errW_some] <;> rfl) | (simp only [← hji4, ← hji6]; first | rfl | (simp [errW_none, errW_some] <;> rfl)) | (simp [*, errW_none, errW_some] <;> rfl)) : p := h
theorem zbae_ {p : Prop} (h : p := by repeat (first | (with_reducible first | exact HB.out | apply pA | apply pN | apply p1 | refine below_set ?_ GE113.out) | exact HB.out)) : p := h
theorem zbaf_ {p : Prop} (h : p := by first | rfl | (simp [errW_none, errW_some] <;> rfl) | (simp only [← hji7]; first | rfl | (simp [errW_none, errW_some] <;> rfl)) | (simp [*, errW_none, errW_some] <;> rfl)) : p := h
theorem zbag_ {p : Prop} (h : p := by repeat (first | (with_reducible first | exact HB.out | apply pA | apply pN | apply p1 | refine below_set ?_ GE161.out) | exact HB.out)) : p := h
theorem zbah_ {p : Prop} (h : p := by repeat (first | (with_reducible first | exact HI0.out | apply IsS111.alloc | apply IsS111.drewN | apply IsS111.drew | apply IsS111.set_1 | apply IsS111.set_2 | refine IsS111.far ?_ NB0_185.out _) | exact HI0.out)) : p := h
theorem zbai_ {p : Prop} (h : p := by repeat (first | (with_reducible first | exact HK.out | apply KeepBut.set_ | apply keep_drewN | apply keep_drew | apply keep_alloc | refine keep_far ?_ GW185.out _) | exact HK.out)) : p := h
theorem zbaj_ {p : Prop} (h : p := by exact (keep_size (w := w) (g := g) (row := none) (by repeat (first | (with_reducible first | exact HK.out | apply KeepBut.set_ | apply keep_drewN | apply keep_drew | apply keep_alloc | refine keep_far ?_ GW185.out _ | refine keep_far ?_ GW186.out _) | exact HK.out)))) : p := h
theorem zbba_ {p : Prop} (h : p := by refine zb ?_; refine blk_put (cs := #[.int .i64 a1, u187001]) ?_ 1 _ rfl; refine zb ?_; exact BK186.out) : p := h
theorem zbbb_ {p : Prop} (h : p := by repeat (first | (with_reducible first | exact HB.out | apply pA | apply pN | apply p1 | refine below_set ?_ (IsS111.ge HI253.out) | refine below_set ?_ GE252.out) | exact HB.out)) : p := h
theorem zbbc_ {p : Prop} (h : p := by repeat (first | (with_reducible first | exact HB.out | apply pA | apply pN | apply p1 | refine below_set ?_ GE260.out) | exact HB.out)) : p := h
theorem zbbd_ {p : Prop} (h : p := by exact (by repeat (first | (with_reducible first | exact HB.out | apply pA | apply pN | apply p1) | exact HB.out))) : p := h
theorem zbbe_ {p : Prop} (h : p := by exact (below_size (by repeat (first | (with_reducible first | exact HB.out | apply pA | apply pN | apply p1) | exact HB.out)))) : p := h
theorem zbbf_ {p : Prop} (h : p := by refine zb ?_; refine blk_far ?_ NB378_384.out _; refine zb ?_; refine blk_far ?_ NB378_384.out _; refine zb ?_; exact BK378.out) : p := h
theorem zbbg_ {p : Prop} (h : p := by refine zb ?_; refine blk_put (cs := #[.int .i64 t381, .int .i64 0]) ?_ 1 _ rfl; refine zb ?_; refine blk_put (cs := #[.int .i64 0, .int .i64 0]) ?_ 0 _ rfl; refine zb ?_; exact BK384.out) : p := h
theorem zbbh_ {p : Prop} (h : p := by refine zb ?_; refine blk_put (cs := #[.int .i64 t381, .int .i64 0]) ?_ 1 _ rfl; refine zb ?_; exact BK384.out) : p := h
theorem zbbi_ {p : Prop} (h : p := by exact (by repeat (first | (with_reducible first | exact HB.out | apply pA | apply pN | apply p1 | refine below_set ?_ (IsS111.ge HI415.out) | refine below_set ?_ GE432.out) | exact HB.out))) : p := h
theorem zbbj_ {p : Prop} (h : p := by exact (fun k_ hk => Kd.freshB (g := gb432) (o := .cells #[.int .i64 t428, .int .i64 t429] 72 (0, 0)) (zb BK432.out) k_ hk)) : p := h
theorem zbca_ {p : Prop} (h : p := by exact (below_size (by repeat (first | (with_reducible first | exact HB.out | apply pA | apply pN | apply p1 | refine below_set ?_ (IsS111.ge HI415.out) | refine below_set ?_ GE432.out) | exact HB.out)))) : p := h
theorem zbcb_ {p : Prop} (h : p := by repeat (first | (with_reducible first | exact HB.out | apply pA | apply pN | apply p1 | refine below_set ?_ GE447.out | refine below_set ?_ GE454.out | refine below_set ?_ GE456.out) | exact HB.out)) : p := h
theorem zbcc_ {p : Prop} (h : p := by repeat (first | exact (Kd.Q_reads' HO_481001.out).2.2 | (with_reducible refine cA ?_ _) | (with_reducible refine cN ?_ _) | (with_reducible refine cD ?_))) : p := h
theorem zbcd_ {p : Prop} (h : p := by have := HJ26.out; have := HK2.out; have := HK3.out; have := HK4.out; have := HK5.out; have := HK6.out; omega) : p := h
def errW : Option Int → Value
 | none => .nilIface
 | some c => .iface 0 (.int .i64 c)
theorem errW_none : errW none = .nilIface := rfl
theorem errW_some (c : Int) : errW (some c) = .iface 0 (.int .i64 c) := rfl
theorem info3 : (Try.prog.info? 3).map (fun i => (i.zero, i.size, i.bytes)) = some (some (.int .i64 0), 1, 8) := by kernel_rfl
theorem info72 : (Try.prog.info? 72).map (fun i => (i.zero, i.size, i.bytes)) = some (some (.agg #[(.int .i64 0), (.int .i64 0)]), 2, 16) := by kernel_rfl
structure S72 where
 f0 : Int
 f1 : Int
def z72 : S72 := ⟨(0 : Int), (0 : Int)⟩
def k72 : Kd S72 := Kd.iso (Kd.pair (Kd.int .i64) (Kd.int .i64)) (fun x : S72 => (x.f0, x.f1))
theorem k72_open {w : World} {x : S72} {cs : List Value} (h : k72.K w x cs) : cs = [.int .i64 x.f0, .int .i64 x.f1] := by
 obtain ⟨_, _, rfl, rfl, rfl⟩ := h
 exact rfl
theorem k72_openM {w : World} {base : Nat} {ok : Nat → Prop} {x : S72} {cs : List Value} (h : k72.M w base ok x cs) : cs = [.int .i64 x.f0, .int .i64 x.f1] := by
 obtain ⟨_, _, rfl, rfl, rfl⟩ := h
 exact rfl
theorem k72_mk (w : World) (x : S72)  : k72.K w x [.int .i64 x.f0, .int .i64 x.f1] := ⟨[.int .i64 x.f0], [.int .i64 x.f1], rfl, rfl, rfl⟩
theorem k72_mkM (w : World) (base : Nat) (ok : Nat → Prop) (x : S72)  : k72.M w base ok x [.int .i64 x.f0, .int .i64 x.f1] := ⟨[.int .i64 x.f0], [.int .i64 x.f1], rfl, rfl, rfl⟩
def rd_T72 (xs : List S72) (i : Int) : S72 := xs.getD i.toNat z72
theorem at_T72 {w : World} {A : Option Addr} {n : Nat} {xs : List S72} (h : Kd.C k72 w A n xs) (i : Int) (h0 : 0 ≤ i) (h1 : i < n) : ∃ ad , A = some ad ∧ w.cell? (ad.add (i.toNat * 2)) = some (.int .i64 (rd_T72 xs i).f0) ∧ w.cell? ⟨(ad.add (i.toNat * 2)).block, (ad.add (i.toNat * 2)).off + 1, none⟩ = some (.int .i64 (rd_T72 xs i).f1) := by
 obtain ⟨ad, c, e, _, hK, hc0⟩ := Kd.C_get h z72 i h0 h1
 have hc : ∀ j u, c[j]? = some u → w.cell? (ad.add (i.toNat * 2 + j)) = some u := hc0
 obtain rfl := k72_open hK
 exact ⟨ad, e, hc 0 _ rfl, by rw [← add_field _ _ 1 (by omega)]; exact hc 1 _ rfl⟩
def rd_L3 (xs : List (List Int)) (i : Int) : (List Int) := xs.getD i.toNat ([] : List Int)
theorem at_L3 {w : World} {A : Option Addr} {n : Nat} {xs : List (List Int)} (h : Kd.C (Kd.slice 3 (Kd.int .i64)) w A n xs) (i : Int) (h0 : 0 ≤ i) (h1 : i < n) : ∃ ad A0 c0, A = some ad ∧ w.cell? (ad.add i.toNat) = some (.slice A0 (rd_L3 xs i).length c0) ∧ (rd_L3 xs i).length ≤ c0 ∧ (Kd.int .i64).C w A0 (rd_L3 xs i).length (rd_L3 xs i) := by
 obtain ⟨ad, c, e, _, hK, hc0⟩ := Kd.C_get h ([] : List Int) i h0 h1
 have hc : ∀ j u, c[j]? = some u → w.cell? (ad.add (i.toNat * 1 + j)) = some u := hc0
 obtain ⟨A0, c0, rfl, l0, g0⟩ := hK
 exact ⟨ad, A0, c0, e, by have hq := hc 0 _ rfl; rwa [Nat.mul_one, Nat.add_zero] at hq, l0, g0⟩
structure S60 where
 f0 : Int
 f1 : (List Int)
def z60 : S60 := ⟨(0 : Int), ([] : List Int)⟩
def k60 : Kd S60 := Kd.iso (Kd.pair (Kd.int .i64) (Kd.slice 3 (Kd.int .i64))) (fun x : S60 => (x.f0, x.f1))
theorem k60_open {w : World} {x : S60} {cs : List Value} (h : k60.K w x cs) : ∃ A1 c1, cs = [.int .i64 x.f0, .slice A1 x.f1.length c1] ∧ x.f1.length ≤ c1 ∧ (Kd.int .i64).C w A1 x.f1.length x.f1 := by
 obtain ⟨_, _, rfl, rfl, ⟨A1, c1, rfl, l1, g1⟩⟩ := h
 exact ⟨A1, c1, rfl, l1, g1⟩
theorem k60_openM {w : World} {base : Nat} {ok : Nat → Prop} {x : S60} {cs : List Value} (h : k60.M w base ok x cs) : ∃ v1, cs = [.int .i64 x.f0, v1] ∧ (Kd.int .i64).R 3 w base ok v1 x.f1 := by
 obtain ⟨_, _, rfl, rfl, ⟨v1, rfl, g1⟩⟩ := h
 exact ⟨v1, rfl, g1⟩
theorem k60_mk (w : World) (x : S60) {A1 : Option Addr} {c1 : Nat} (l1 : x.f1.length ≤ c1) (g1 : (Kd.int .i64).C w A1 x.f1.length x.f1) : k60.K w x [.int .i64 x.f0, .slice A1 x.f1.length c1] := ⟨[.int .i64 x.f0], [.slice A1 x.f1.length c1], rfl, rfl, ⟨A1, c1, rfl, l1, g1⟩⟩
theorem k60_mkM (w : World) (base : Nat) (ok : Nat → Prop) (x : S60) {v1 : Value} (g1 : (Kd.int .i64).R 3 w base ok v1 x.f1) : k60.M w base ok x [.int .i64 x.f0, v1] := ⟨[.int .i64 x.f0], [v1], rfl, rfl, ⟨v1, rfl, g1⟩⟩
def rd_T60 (xs : List S60) (i : Int) : S60 := xs.getD i.toNat z60
theorem at_T60 {w : World} {A : Option Addr} {n : Nat} {xs : List S60} (h : Kd.C k60 w A n xs) (i : Int) (h0 : 0 ≤ i) (h1 : i < n) : ∃ ad A1 c1, A = some ad ∧ w.cell? (ad.add (i.toNat * 2)) = some (.int .i64 (rd_T60 xs i).f0) ∧ w.cell? ⟨(ad.add (i.toNat * 2)).block, (ad.add (i.toNat * 2)).off + 1, none⟩ = some (.slice A1 (rd_T60 xs i).f1.length c1) ∧ (rd_T60 xs i).f1.length ≤ c1 ∧ (Kd.int .i64).C w A1 (rd_T60 xs i).f1.length (rd_T60 xs i).f1 := by
 obtain ⟨ad, c, e, _, hK, hc0⟩ := Kd.C_get h z60 i h0 h1
 have hc : ∀ j u, c[j]? = some u → w.cell? (ad.add (i.toNat * 2 + j)) = some u := hc0
 obtain ⟨A1, c1, rfl, l1, g1⟩ := k60_open hK
 exact ⟨ad, A1, c1, e, hc 0 _ rfl, by rw [← add_field _ _ 1 (by omega)]; exact hc 1 _ rfl, l1, g1⟩
def rd_L5 (xs : List (List S72)) (i : Int) : (List S72) := xs.getD i.toNat ([] : List S72)
theorem at_L5 {w : World} {A : Option Addr} {n : Nat} {xs : List (List S72)} (h : Kd.C (Kd.slice 72 k72) w A n xs) (i : Int) (h0 : 0 ≤ i) (h1 : i < n) : ∃ ad A0 c0, A = some ad ∧ w.cell? (ad.add i.toNat) = some (.slice A0 (rd_L5 xs i).length c0) ∧ (rd_L5 xs i).length ≤ c0 ∧ k72.C w A0 (rd_L5 xs i).length (rd_L5 xs i) := by
 obtain ⟨ad, c, e, _, hK, hc0⟩ := Kd.C_get h ([] : List S72) i h0 h1
 have hc : ∀ j u, c[j]? = some u → w.cell? (ad.add (i.toNat * 1 + j)) = some u := hc0
 obtain ⟨A0, c0, rfl, l0, g0⟩ := hK
 exact ⟨ad, A0, c0, e, by have hq := hc 0 _ rfl; rwa [Nat.mul_one, Nat.add_zero] at hq, l0, g0⟩
end Go.Proofs.Ytbkighlfgaifeaa.QFnLeastSums
