/- Functions of FnExactParseCircuit, each as a Lean function, with the proof that the Go code comes to its answers. -/
import Derived.Test.YtanpidphaanjiaaDoorProg
import Derived.Below
import Derived.Deep.Draws
import Derived.Deep.AppendLies
import Derived.Maps.AppendAt
import Derived.OwnWalk
import Derived.Laws.BytesArg
import Derived.Laws.MakeOwn
import Derived.Laws.OwnMore
import Derived.Deep.OwnRows
import Derived.Tactics
import Derived.Lib.ConvBytes
import Derived.Laws.Slices
import Derived.WalkKit
import Derived.KernelRfl
import Derived.RowKit3
import Derived.Deep.LoopGhost
import Derived.Deep.QuietTactic
import Derived.BigQuiet
import Derived.WideLaws
import Derived.Deep.DeepCutAuto
import Derived.Deep.CutBlock
import Derived.Deep.RegionHeld3
import Derived.Laws.Rows
import Derived.Lib.AppendStr
import Derived.ArgAppend
import Derived.Laws.IdiomCopy
import Derived.OrdersHeld
import Derived.Laws.BitsLemmas
import Derived.RowKit
import Derived.Test.YtanpidphaanjiaaDoorShelf
import Derived.Test.YtanpidphaanjiaaDoorVPCGlob
import Derived.Test.YtanpidphaanjiaaDoorVPCWWords
import Derived.Test.YtanpidphaanjiaaDoorVPCWLast
import Derived.Test.YtanpidphaanjiaaDoorVPCWTab
import Derived.Test.YtanpidphaanjiaaDoorVPCWFour
import Derived.Test.YtanpidphaanjiaaDoorVPCWQPut
import Derived.Test.YtanpidphaanjiaaDoorVPCWApart
import Derived.Test.YtanpidphaanjiaaDoorVPCWArr
import Derived.Test.YtanpidphaanjiaaDoorVPCWZeros
import Derived.Test.YtanpidphaanjiaaDoorVPCWFoot
import Derived.Test.YtanpidphaanjiaaDoorVPCWKept
import Derived.Test.YtanpidphaanjiaaDoorVPCWShare
import Derived.Test.YtanpidphaanjiaaDoorVPCWN
import Derived.Test.YtanpidphaanjiaaDoorVPCWFootNe
import Derived.Test.YtanpidphaanjiaaDoorVPCWAt
import Derived.Test.YtanpidphaanjiaaDoorVPCWEqStruct
import Derived.Test.YtanpidphaanjiaaDoorVPCWRepsOne
import Derived.Test.YtanpidphaanjiaaDoorVPCWInv
import Derived.Test.YtanpidphaanjiaaDoorVPCWInvWords
import Derived.Test.YtanpidphaanjiaaDoorVPCWGuard
import Derived.Test.YtanpidphaanjiaaDoorVPCWNEv
import Derived.Test.YtanpidphaanjiaaDoorVPCWMore
namespace Go.Proofs.YtanpidphaanjiaaDoor.QFnExactParseCircuit
open Go.RowKit Go.Proofs.YtanpidphaanjiaaDoorW.PrintWords Go.Proofs.YtanpidphaanjiaaDoorW.PrintLast Go.Proofs.YtanpidphaanjiaaDoorW.PrintMore
open Go.Proofs.YtanpidphaanjiaaDoorW.PrintWords renaming pw_below_drewN→pN,below_drew1→p1,below_alloc→pA
open Go.Proofs.YtanpidphaanjiaaDoorW.PrintWords.Kd renaming R_alloc→kA,R_drewN→kN,R_drew→kD,Q_alloc→qA,Q_drewN→qN,Q_drew→qD,C_alloc→cA,C_drewN→cN,C_drew→cD
open List renaming setIfInBounds_toArray→sI,set_cons_zero→s0,set_cons_succ→sS,map_toArray→mT,length_take→lT,length_drop→lD,map_cons→mC,map_nil→mN
attribute [local go_sem] max2_int min2_int max_two min_two max_three min_three max_four min_four
set_option maxHeartbeats 8000000
set_option maxRecDepth 100000
set_option linter.unusedVariables false
set_option linter.unusedSimpArgs false
open Go.Proofs.YtanpidphaanjiaaDoorW.PrintWords.Aside0 renaming mk→aM
open Option renaming bind_eq_some_iff→oB
open Option renaming bind_eq_some_iff→oB,bind_some→oS
abbrev ti:Bool:=true
abbrev fi:Bool:=false
theorem z {a b:Prop} (h:a) (k:b):Aside0 a∧b:=⟨⟨h⟩,k⟩
theorem z1 {a:Prop} (h:a):Aside0 a:=⟨h⟩
theorem zb {p q:Prop} (h:q) (f:q→p:=by intro hq;(with_reducible repeat (first | refine blk_drewN ?_ _ | refine blk_drew ?_ | refine blk_alloc ?_ _));exact hq):p:=f h
theorem zr {p q:Prop} (h:q) (f:q→p:=by intro hq;(with_reducible repeat (first | apply kA | apply kN | apply kD));exact hq):p:=f h
theorem zq {p q:Prop} (h:q) (f:q→p:=by intro hq;(with_reducible repeat (first | apply qA | apply qN | apply qD));exact hq):p:=f h
theorem py_ {P:Program} {ops:Array Oper} {Q:Exit→Act→World→Prop} {md:Region.Mode} {S:World→Prop} {ds:List Nat} {T:Bool×List (List Nat×List Nat)} {oi:Oper} {v:Value} {fuel:Nat} {l:Array Bool} {a a':Act} {w:World} (i:Nat) (n:Tmp) (hT:rtab md ops=T)
    (h:wpAnyLast P md ops Q S ds fuel (l.setIfInBounds i true) a' w) (hi:ops[i]?=some oi:=by exact rfl) (hN:oi.dst=some n:=by exact rfl) (hc:anyT T l.toList (l.setIfInBounds i true).toList i=true:=by kernel_rfl)
    (hQ:∀ c a w,Q (.panic c) (a.put oi.dst v) w→Q (.panic c) a w:=by exact fun _ _ _ h=>h) (hd:Region.wanted oi (yielded ops a.tmps)=true:=by rfl) (hy:∀ w,(execOp a.eval oi).run P w = .ok (.value v) w:=by (intro w';go_simp;with_reducible rfl)) (ha:a.put (some n) v=a':=by (simp only [Act.put,sI,s0,sS,i64_w,i32_w];rfl)):wpAnyLast P md ops Q S ds (fuel+1) l a w:=
  pure_ _ hi hN (any_of hT hc) hQ (Or.inl ⟨hd,hy⟩) ha h
theorem nz_ {P:Program} {ops:Array Oper} {Q:Exit→Act→World→Prop} {md:Region.Mode} {S:World→Prop} {ds:List Nat} {fuel:Nat} {l:Array Bool} {w:World} {v:Value} {b a':Act} (n:Tmp) (h:wpAnyLast P md ops Q S ds fuel l a' w) (ha:Act.put b (some n) v=a':=by (simp only [Act.put,sI,s0,sS,i64_w,i32_w];rfl)):wpAnyLast P md ops Q S ds fuel l (Act.put b (some n) v) w:=norm_ ha h
theorem tw2_ {P:Program} {ops:Array Oper} {Q:Exit→Act→World→Prop} {md:Region.Mode} {S:World→Prop} {ds:List Nat} {oi:Oper} {fuel:Nat} {l:Array Bool} {w:World} {T:Bool×List (List Nat×List Nat)} {B:List Nat} {v:Value} {a a':Act} (i:Nat) (n:Tmp) (hT:rtab md ops=T) (hB:waitsOk T.2 B=true) (hS:S w) (h:wpAnyLast P md ops Q S ds fuel (l.setIfInBounds i true) a' w) (hi:ops[i]?=some oi:=by exact rfl) (hN:oi.dst=some n:=by exact rfl) (hc:takeW T B ds l.toList (l.setIfInBounds i true).toList i=true:=by kernel_rfl) (hQ:∀ c a w,Q (.panic c) (a.put oi.dst v) w→Q (.panic c) a w:=by exact fun _ _ _ h=>h) (hd:Region.wanted oi (yielded ops a.tmps)=true:=by rfl) (hy:∀ w,S w→(execOp a.eval oi).run P w = .ok (.value v) w:=by (rintro w' ⟨s0,s1⟩;go_simp;with_reducible rfl)) (ha:a.put (some n) v=a':=by (simp only [Act.put,sI,s0,sS,i64_w,i32_w];rfl)):wpAnyLast P md ops Q S ds (fuel+1) l a w:=take_ _ hi hN (take_ofW hT hB hc) hQ (Or.inl ⟨hd,hy⟩) hS ha h
theorem tw3_ {P:Program} {ops:Array Oper} {Q:Exit→Act→World→Prop} {md:Region.Mode} {S:World→Prop} {ds:List Nat} {oi:Oper} {fuel:Nat} {l:Array Bool} {w:World} {T:Bool×List (List Nat×List Nat)} {B:List Nat} {v:Value} {a a':Act} (i:Nat) (n:Tmp) (hT:rtab md ops=T) (hB:waitsOk T.2 B=true) (hS:S w) (h:wpAnyLast P md ops Q S ds fuel (l.setIfInBounds i true) a' w) (hi:ops[i]?=some oi:=by exact rfl) (hN:oi.dst=some n:=by exact rfl) (hc:takeW T B ds l.toList (l.setIfInBounds i true).toList i=true:=by kernel_rfl) (hQ:∀ c a w,Q (.panic c) (a.put oi.dst v) w→Q (.panic c) a w:=by exact fun _ _ _ h=>h) (hd:Region.wanted oi (yielded ops a.tmps)=true:=by rfl) (hy:∀ w,S w→(execOp a.eval oi).run P w = .ok (.value v) w:=by (rintro w' ⟨s0,s1,s2⟩;go_simp;with_reducible rfl)) (ha:a.put (some n) v=a':=by (simp only [Act.put,sI,s0,sS,i64_w,i32_w];rfl)):wpAnyLast P md ops Q S ds (fuel+1) l a w:=take_ _ hi hN (take_ofW hT hB hc) hQ (Or.inl ⟨hd,hy⟩) hS ha h
theorem tw6_ {P:Program} {ops:Array Oper} {Q:Exit→Act→World→Prop} {md:Region.Mode} {S:World→Prop} {ds:List Nat} {oi:Oper} {fuel:Nat} {l:Array Bool} {w:World} {T:Bool×List (List Nat×List Nat)} {B:List Nat} {v:Value} {a a':Act} (i:Nat) (n:Tmp) (hT:rtab md ops=T) (hB:waitsOk T.2 B=true) (hS:S w) (h:wpAnyLast P md ops Q S ds fuel (l.setIfInBounds i true) a' w) (hi:ops[i]?=some oi:=by exact rfl) (hN:oi.dst=some n:=by exact rfl) (hc:takeW T B ds l.toList (l.setIfInBounds i true).toList i=true:=by kernel_rfl) (hQ:∀ c a w,Q (.panic c) (a.put oi.dst v) w→Q (.panic c) a w:=by exact fun _ _ _ h=>h) (hd:Region.wanted oi (yielded ops a.tmps)=true:=by rfl) (hy:∀ w,S w→(execOp a.eval oi).run P w = .ok (.value v) w:=by (rintro w' ⟨s0,s1,s2,s3,s4,s5⟩;go_simp;with_reducible rfl)) (ha:a.put (some n) v=a':=by (simp only [Act.put,sI,s0,sS,i64_w,i32_w];rfl)):wpAnyLast P md ops Q S ds (fuel+1) l a w:=take_ _ hi hN (take_ofW hT hB hc) hQ (Or.inl ⟨hd,hy⟩) hS ha h
theorem zk1 {w:World} {g:Nat} {t:TypeId} {a:Value} (h:w.heap[g]?=some (.cells #[a] t (0,0))):w.cell? ⟨g,0,none⟩=some a∧w.frozen? ⟨g,0,none⟩=false:=⟨(blk_cell h 0).trans rfl,blk_frozen h 0⟩
theorem zk3 {w:World} {g:Nat} {t:TypeId} {a b c:Value} (h:w.heap[g]?=some (.cells #[a,b,c] t (0,0))):w.cell? ⟨g,0,none⟩=some a∧w.cell? ⟨g,1,none⟩=some b∧w.cell? ⟨g,2,none⟩=some c∧w.frozen? ⟨g,0,none⟩=false∧w.frozen? ⟨g,1,none⟩=false∧w.frozen? ⟨g,2,none⟩=false:=⟨(blk_cell h 0).trans rfl,(blk_cell h 1).trans rfl,(blk_cell h 2).trans rfl,blk_frozen h 0,blk_frozen h 1,blk_frozen h 2⟩
theorem q3n_ {p q:Prop} (h:p) (k:¬p:=by simp):q:=absurd h k
theorem q3h_ {w w1:World} {a:Addr} {v:Value} (B:Below w.heap.size w w1) (h:w.cell? a=some v):w1.cell? a=some v:=(B.cell (World.block_lt_of_cell? w _ h)).trans h
theorem q3y_ {α:Type} {a b:α} {p q:Prop} (e:a=b) (h:p) (f:a=b→p→q:=by intro e_ H_;first | (rw [e_];with_reducible exact H_)|(have H2_:=(Option.bind_some _ _).symm.trans H_;rw [e_];with_reducible exact H2_)|(have H2_:=(Option.bind_some _ _).symm.trans H_;with_reducible exact H2_) | with_reducible exact H_ | (rw [e_];exact H_) | exact H_):q:=f e h
theorem za_ {p:Prop} (h:p:=by first | (with_reducible assumption) | assumption):p:=h
theorem zb_ {p:Prop} (h:p:=by repeat (first | (with_reducible first | exact HB.out | apply pA | apply pN | apply p1) | exact HB.out)):p:=h
theorem zc_ {p:Prop} (h:p:=by first | rfl | (simp;done)|(simp [*];done)):p:=h
theorem zd_ {p:Prop} (h:p:=by (try simp only [mT,mC,mN]);first | done | rfl | (simp only [lD,lT];rfl)):p:=h
theorem ze_ {p:Prop} (h:p:=by first | (go_simp;done)|(go_simp;rfl)):p:=h
theorem zf_ {p:Prop} (h:p:=by first | rfl | (simp [errW_none,errW_some] <;> rfl)|(simp [*,errW_none,errW_some] <;> rfl)):p:=h
theorem zg_ {p:Prop} (h:p:=by repeat (first | exact Drawn0.refl _ | apply Drawn0.step)):p:=h
theorem zh_ {p:Prop} (h:p:=by repeat (first | (with_reducible first | exact HB.out | apply pA | apply pN | apply p1 | refine below_set ?_ GE203.out) | exact HB.out)):p:=h
theorem zi_ {p:Prop} (h:p:=by first | exact Kd.R_nil _ _ _ _ _ | exact Kd.N_nil _ _ _ _ _ | exact Kd.V_nil _ _ _ _ _ | exact Kd.Q_nil _ _ _ _ _ | exact Kd.S_nil _ _ _ _ _):p:=h
theorem zj_ {p:Prop} (h:p:=by repeat (first | (with_reducible first | exact HB.out | apply pA | apply pN | apply p1 | refine below_set ?_ GE258.out | refine below_set ?_ GE266.out) | exact HB.out)):p:=h
theorem zba_ {p:Prop} (h:p:=by repeat (first | (with_reducible first | exact HB.out | apply pA | apply pN | apply p1 | refine below_set ?_ GE115.out) | exact HB.out)):p:=h
theorem zbb_ {p:Prop} (h:p:=by repeat (first | (with_reducible first | exact HB.out | apply pA | apply pN | apply p1 | refine below_set ?_ GE168.out | refine below_set ?_ GE175.out) | exact HB.out)):p:=h
theorem zbc_ {p:Prop} (h:p:=by first | omega | exact Nat.le_refl _):p:=h
theorem zbd_ {p:Prop} (h:p:=by have:=HK1.out;omega):p:=h
theorem zbe_ {p:Prop} (h:p:=by repeat (first | (with_reducible first | exact HB.out | apply pA | apply pN | apply p1 | refine below_set ?_ GE232.out | refine below_set ?_ GE236.out) | exact HB.out)):p:=h
theorem zbf_ {p:Prop} (h:p:=by repeat (first | (with_reducible first | exact HB.out | apply pA | apply pN | apply p1 | refine below_set ?_ GE131.out | refine below_set ?_ GE134.out) | exact HB.out)):p:=h
theorem zbg_ {p:Prop} (h:p:=by repeat (first | (with_reducible first | exact HB.out | apply pA | apply pN | apply p1 | refine below_set ?_ GE150.out) | exact HB.out)):p:=h
theorem zbh_ {p:Prop} (h:p:=by repeat (first | (with_reducible first | exact HB.out | apply pA | apply pN | apply p1 | refine below_set ?_ GE101.out) | exact HB.out)):p:=h
theorem zbi_ {p:Prop} (h:p:=by repeat (first | (with_reducible first | exact HB.out | apply pA | apply pN | apply p1 | refine below_set ?_ GE108.out) | exact HB.out)):p:=h
theorem zbj_ {p:Prop} (h:p:=by repeat (first | (with_reducible first | exact HB.out | apply pA | apply pN | apply p1 | refine below_set ?_ GE131.out) | exact HB.out)):p:=h
theorem zca_ {p:Prop} (h:p:=by have h9:=Kd.own_blk (Kd.R_ne HO_4.out BK150.out (by decide));first | exact h9 | (rw [add_block];exact h9)|(show (Addr.add _ _).block≠_;rw [add_block];exact h9)|(dsimp only;exact h9)):p:=h
theorem zcb_ {p:Prop} (h:p:=by repeat (first | (with_reducible first | exact HB.out | apply pA | apply pN | apply p1 | refine below_set ?_ GE258.out) | exact HB.out)):p:=h
theorem zcc_ {p:Prop} (h:p:=by repeat (first | (with_reducible first | exact HK.out | apply Kept.alloc | apply Kept.drewN | apply Kept.drew) | exact HK.out)):p:=h
theorem zcd_ {p:Prop} (h:p:=by repeat (first | (with_reducible first | exact HB.out | apply pA | apply pN | apply p1 | refine below_set ?_ GE319.out | refine below_set ?_ GE328.out) | exact HB.out)):p:=h
theorem zce_ {p:Prop} (h:p:=by repeat (first | (with_reducible first | exact HB.out | apply pA | apply pN | apply p1 | refine below_set ?_ GE203.out | refine below_set ?_ GE205.out) | exact HB.out)):p:=h
theorem zcf_ {p:Prop} (h:p:=by have:=HK1.out;first | omega | exact Nat.le_refl _):p:=h
theorem zcg_ {p:Prop} (h:p:=by repeat (first | (with_reducible first | exact HB.out | apply pA | apply pN | apply p1 | refine below_set ?_ GE168.out) | exact HB.out)):p:=h
theorem zch_ {p:Prop} (h:p:=by rw [← hq_];exact (zb BK232.out)):p:=h
theorem zci_ {p:Prop} (h:p:=by rw [← hq_];exact (zb BK236.out)):p:=h
theorem zcj_ {p:Prop} (h:p:=by rw [← hq_];exact (by repeat (first | (with_reducible first | exact HB.out | apply pA | apply pN | apply p1 | refine below_set ?_ GE232.out | refine below_set ?_ GE236.out) | exact HB.out))):p:=h
theorem zda_ {p:Prop} (h:p:=by repeat (first | (with_reducible first | exact HB.out | apply pA | apply pN | apply p1 | refine below_set ?_ GE108.out | refine below_set ?_ GE109.out) | exact HB.out)):p:=h
theorem zdb_ {p:Prop} (h:p:=by repeat (first | (with_reducible exact HR270.out)|(with_reducible refine cA ?_ _)|(with_reducible refine cN ?_ _)|(with_reducible refine cD ?_) | exact HR270.out)):p:=h
theorem zdc_ {p:Prop} (h:p:=by repeat (first | (with_reducible first | exact HB.out | apply pA | apply pN | apply p1 | refine below_set ?_ GE319.out) | exact HB.out)):p:=h
theorem zdd_ {p:Prop} (h:p:=by repeat (first | exact (Kd.C_below HR0_1.out HB.out)|(with_reducible refine cA ?_ _)|(with_reducible refine cN ?_ _)|(with_reducible refine cD ?_))):p:=h
theorem zde_ {p:Prop} (h:p:=by repeat (first | (with_reducible first | exact HB.out | apply pA | apply pN | apply p1 | refine below_set ?_ GE115.out | refine below_set ?_ GE120.out) | exact HB.out)):p:=h
theorem zdf_ {p:Prop} (h:p:=by exact (fun _ _=>trivial)):p:=h
theorem zdg_ {p:Prop} (h:p:=by repeat (first | (with_reducible exact HR179.out)|(with_reducible refine cA ?_ _)|(with_reducible refine cN ?_ _)|(with_reducible refine cD ?_) | exact HR179.out)):p:=h
theorem zdh_ {p:Prop} (h:p:=by rw [← hq_];exact (zr HO_4.out)):p:=h
theorem zdi_ {p:Prop} (h:p:=by repeat (first | exact (Kd.R_reads' HO_176001.out).2.2 | (with_reducible refine cA ?_ _)|(with_reducible refine cN ?_ _)|(with_reducible refine cD ?_))):p:=h
theorem zdj_ {p:Prop} (h:p:=by exact (Kd.R_reads' HO_176001.out).2.1):p:=h
theorem zea_ {p:Prop} (h:p:=by repeat (first | exact (Kd.R_reads' HO_176002.out).2.2 | (with_reducible refine cA ?_ _)|(with_reducible refine cN ?_ _)|(with_reducible refine cD ?_))):p:=h
theorem zeb_ {p:Prop} (h:p:=by exact (Kd.R_reads' HO_176002.out).2.1):p:=h
theorem zec_ {p:Prop} (h:p:=by repeat (first | (with_reducible first | exact HB.out | apply pA | apply pN | apply p1 | refine below_set ?_ GE232.out) | exact HB.out)):p:=h
theorem zed_ {p:Prop} (h:p:=by repeat (first | (with_reducible first | exact HB.out | apply pA | apply pN | apply p1 | refine below_set ?_ GE308.out) | exact HB.out)):p:=h
theorem zee_ {p:Prop} (h:p:=by repeat (first | (with_reducible first | exact HB.out | apply pA | apply pN | apply p1 | refine below_set ?_ GE101.out | refine below_set ?_ GE102.out) | exact HB.out)):p:=h
theorem zef_ {p:Prop} (h:p:=by repeat (first | (with_reducible first | exact HB.out | apply pA | apply pN | apply p1 | refine below_set ?_ GE168.out | refine below_set ?_ GE175.out | refine below_set ?_ GE185.out) | exact HB.out)):p:=h
theorem zeg_ {p:Prop} (h:p:=by repeat (first | (with_reducible first | exact HB.out | apply pA | apply pN | apply p1 | refine below_set ?_ GE258.out | refine below_set ?_ GE266.out | refine below_set ?_ GE276.out) | exact HB.out)):p:=h
theorem zeh_ {p:Prop} (h:p:=by first | rfl | (simp [errW_none,errW_some] <;> rfl)|(simp only [← hji46];first | rfl | (simp [errW_none,errW_some] <;> rfl))|(simp [*,errW_none,errW_some] <;> rfl)):p:=h
theorem zei_ {p:Prop} (h:p:=by repeat (first | exact (Kd.C_below HR1_1.out HB.out)|(with_reducible refine cA ?_ _)|(with_reducible refine cN ?_ _)|(with_reducible refine cD ?_))):p:=h
theorem zej_ {p:Prop} (h:p:=by rw [← hq_];exact (by repeat (first | (with_reducible first | exact HB.out | apply pA | apply pN | apply p1 | refine below_set ?_ GE168.out) | exact HB.out))):p:=h
theorem zfa_ {p:Prop} (h:p:=by first | rfl | (simp [errW_none,errW_some] <;> rfl)|(simp only [← hji40];first | rfl | (simp [errW_none,errW_some] <;> rfl))|(simp [*,errW_none,errW_some] <;> rfl)):p:=h
theorem zfb_ {p:Prop} (h:p:=by repeat (first | (with_reducible first | exact HB.out | apply pA | apply pN | apply p1 | refine below_set ?_ GE299.out) | exact HB.out)):p:=h
theorem zfc_ {p:Prop} (h:p:=by repeat (first | (with_reducible first | exact HK.out | apply Kept.alloc | apply Kept.drewN | apply Kept.drew | refine Kept.setCell ?_ (.inr GW299.out) _) | exact HK.out)):p:=h
theorem zfd_ {p:Prop} (h:p:=by repeat (first | (with_reducible first | exact HB.out | apply pA | apply pN | apply p1 | refine below_set ?_ GE319.out | refine below_set ?_ GE328.out | refine below_set ?_ GE342.out) | exact HB.out)):p:=h
def errW:Option Int→Value
 | none => .nilIface
 | some c => .iface 0 (.int .i64 c)
theorem errW_none:errW none = .nilIface:=rfl
theorem errW_some (c:Int):errW (some c) = .iface 0 (.int .i64 c):=rfl
theorem info3:(Tryd.prog.info? 3).map (fun i=>(i.zero,i.size,i.bytes))=some (some (.int .i64 0),1,8):=by kernel_rfl
theorem info5:(Tryd.prog.info? 5).map (fun i=>(i.zero,i.size,i.bytes))=some (some (.int .u8 0),1,1):=by kernel_rfl
theorem info9:(Tryd.prog.info? 9).map (fun i=>(i.zero,i.size,i.bytes))=some (some (.string ⟨#[]⟩),1,16):=by kernel_rfl
theorem info47:(Tryd.prog.info? 47).map (fun i=>(i.zero,i.size,i.bytes))=some (some (.agg #[(.int .i64 0),(.int .i64 0),(.int .i64 0)]),3,24):=by kernel_rfl
structure S47 where
 f0:Int
 f1:Int
 f2:Int
def z47:S47:=⟨(0:Int),(0:Int),(0:Int)⟩
def k47:Kd S47:=Kd.iso (Kd.pair (Kd.int .i64) (Kd.pair (Kd.int .i64) (Kd.int .i64))) (fun x:S47=>(x.f0,x.f1,x.f2))
theorem k47_open {w:World} {x:S47} {cs:List Value} (h:k47.K w x cs):cs=[.int .i64 x.f0,.int .i64 x.f1,.int .i64 x.f2]:=by
 obtain ⟨_,_,rfl,rfl,⟨_,_,rfl,rfl,rfl⟩⟩:=h
 exact rfl
theorem k47_openM {w:World} {base:Nat} {ok:Nat→Prop} {x:S47} {cs:List Value} (h:k47.M w base ok x cs):cs=[.int .i64 x.f0,.int .i64 x.f1,.int .i64 x.f2]:=by
 obtain ⟨_,_,rfl,rfl,⟨_,_,rfl,rfl,rfl⟩⟩:=h
 exact rfl
theorem k47_mk (w:World) (x:S47)  : k47.K w x [.int .i64 x.f0,.int .i64 x.f1,.int .i64 x.f2]:=⟨[.int .i64 x.f0],[.int .i64 x.f1,.int .i64 x.f2],rfl,rfl,⟨[.int .i64 x.f1],[.int .i64 x.f2],rfl,rfl,rfl⟩⟩
theorem k47_mkM (w:World) (base:Nat) (ok:Nat→Prop) (x:S47)  : k47.M w base ok x [.int .i64 x.f0,.int .i64 x.f1,.int .i64 x.f2]:=⟨[.int .i64 x.f0],[.int .i64 x.f1,.int .i64 x.f2],rfl,rfl,⟨[.int .i64 x.f1],[.int .i64 x.f2],rfl,rfl,rfl⟩⟩
def rd_T47 (xs:List S47) (i:Int):S47:=xs.getD i.toNat z47
theorem at_T47 {w:World} {A:Option Addr} {n:Nat} {xs:List S47} (h:Kd.C k47 w A n xs) (i:Int) (h0:0≤i) (h1:i<n):∃ ad ,A=some ad∧w.cell? (ad.add (i.toNat * 3))=some (.int .i64 (rd_T47 xs i).f0)∧w.cell? ⟨(ad.add (i.toNat * 3)).block,(ad.add (i.toNat * 3)).off+1,none⟩=some (.int .i64 (rd_T47 xs i).f1)∧w.cell? ⟨(ad.add (i.toNat * 3)).block,(ad.add (i.toNat * 3)).off+2,none⟩=some (.int .i64 (rd_T47 xs i).f2):=by
 obtain ⟨ad,c,e,_,hK,hc0⟩:=Kd.C_get h z47 i h0 h1
 have hc:∀ j u,c[j]?=some u→w.cell? (ad.add (i.toNat * 3+j))=some u:=hc0
 obtain rfl:=k47_open hK
 exact ⟨ad,e,hc 0 _ rfl,by rw [← add_field _ _ 1 (by omega)];exact hc 1 _ rfl,by rw [← add_field _ _ 2 (by omega)];exact hc 2 _ rfl⟩
def rd_L4 (xs:List (List ByteArray)) (i:Int):(List ByteArray):=xs.getD i.toNat ([]:List ByteArray)
theorem at_L4 {w:World} {A:Option Addr} {n:Nat} {xs:List (List ByteArray)} (h:Kd.C (Kd.slice 9 Kd.string) w A n xs) (i:Int) (h0:0≤i) (h1:i<n):∃ ad A0 c0,A=some ad∧w.cell? (ad.add i.toNat)=some (.slice A0 (rd_L4 xs i).length c0)∧(rd_L4 xs i).length≤c0∧Kd.string.C w A0 (rd_L4 xs i).length (rd_L4 xs i):=by
 obtain ⟨ad,c,e,_,hK,hc0⟩:=Kd.C_get h ([]:List ByteArray) i h0 h1
 have hc:∀ j u,c[j]?=some u→w.cell? (ad.add (i.toNat * 1+j))=some u:=hc0
 obtain ⟨A0,c0,rfl,l0,g0⟩:=hK
 exact ⟨ad,A0,c0,e,by have hq:=hc 0 _ rfl;rwa [Nat.mul_one,Nat.add_zero] at hq,l0,g0⟩
def laws_eqGate.f (a0_0:Int) (a0_1:Int) (a0_2:Int) (a1_0:Int) (a1_1:Int) (a1_2:Int):Option (Bool):=if a0_0=a1_0 then (if a0_1=a1_1 then (if a0_2=a1_2 then (some true) else (some false)) else (some false)) else (some false)
theorem laws_eqGate.calls (a0_0:Int) (a0_1:Int) (a0_2:Int) (a1_0:Int) (a1_1:Int) (a1_2:Int) (r:Bool) (w:World) (h:laws_eqGate.f a0_0 a0_1 a0_2 a1_0 a1_1 a1_2=some r) :
  Calls Tryd.prog 43 #[.agg #[.int .i64 a0_0,.int .i64 a0_1,.int .i64 a0_2],.agg #[.int .i64 a1_0,.int .i64 a1_1,.int .i64 a1_2]] w fun e w'=>e = .returned (.bool r)∧Below w.heap.size w w':=by
 have hu47:=Tryd.underlying47
 have HB:=aM (Below.refl w.heap.size w)
 have H:(if a0_0=a1_0 then (if a0_1=a1_1 then (if a0_2=a1_2 then (some true) else (some false)) else (some false)) else (some false))=some r:=h
 clear h
 by_cases c3:a0_0=a1_0
 ·rw [if_pos c3] at H
  have c3b0:=beq_iff_eq.mpr c3;have c3b1:=bne_eq_false_iff_eq.mpr c3;clear c3
  by_cases c4:a0_1=a1_1
  ·rw [if_pos c4] at H
   have c4b0:=beq_iff_eq.mpr c4;have c4b1:=bne_eq_false_iff_eq.mpr c4;clear c4
   by_cases c5:a0_2=a1_2
   ·rw [if_pos c5] at H
    have c5b0:=beq_iff_eq.mpr c5;have c5b1:=bne_eq_false_iff_eq.mpr c5;clear c5;obtain rfl:=Option.some.inj H
    go_enter Tryd.func43,Tryd.ntmps43
    go_wp2_with (first | ((with_reducible refine gate_dst (N:=2) rfl ?_);refine box_event ?hg (N:=2) ?hd (cs:=#[.int .i64 a0_0,.int .i64 a0_1,.int .i64 a0_2]) (t:=47) ?hr ?_;(case hd=>rfl);(case hg=>rfl);(case hr=>exact ze_);intro gb101 hg w6 hbox hb;have n_:=z (below_step zb_ hb)<|z (hbox)<|z ((by rw [hg];exact (below_size zb_):w.heap.size≤gb101))<|z1 ((by rw [hg];exact (below_size zb_):w.heap.size≤gb101));clear HB;obtain ⟨HB,BK101,GW101,GE101⟩:=n_;clear hb hbox hg)|((with_reducible refine gate_dst (N:=3) rfl ?_);refine box_event ?hg (N:=3) ?hd (cs:=#[.int .i64 a1_0,.int .i64 a1_1,.int .i64 a1_2]) (t:=47) ?hr ?_;(case hd=>rfl);(case hg=>rfl);(case hr=>exact ze_);intro gb102 hg w7 hbox hb;have n_:=z (blk_below (zb BK101.out) hb)<|z (below_step zbh_ hb)<|z (hbox)<|z ((by rw [hg];exact (below_size zbh_):w.heap.size≤gb102))<|z ((by rw [hg];exact (below_size zbh_):w.heap.size≤gb102))<|z ((by rw [hg];exact Nat.ne_of_lt (blk_lt (zb BK101.out)):gb101≠gb102))<|z1 ((by rw [hg];exact Nat.ne_of_gt (blk_lt (zb BK101.out)):gb102≠gb101));clear BK101 HB;obtain ⟨BK101,HB,BK102,GW102,GE102,NB101_102,NB102_101⟩:=n_;clear hb hbox hg;have hnb8:=NB101_102.out;have hnc8:=NB102_101.out;obtain ⟨hcz9_0,hcz9_1,hcz9_2,hfz9_0,hfz9_1,hfz9_2⟩:=zk3 BK101.out;obtain ⟨hcz10_0,hcz10_1,hcz10_2,hfz10_0,hfz10_1,hfz10_2⟩:=zk3 BK102.out))
    go_ret
    exact ⟨zf_,zee_⟩
   ·rw [if_neg c5] at H
    have c5b0:=beq_eq_false_iff_ne.mpr c5;have c5b1:=bne_iff_ne.mpr c5;obtain rfl:=Option.some.inj H
    go_enter Tryd.func43,Tryd.ntmps43
    go_wp2_with (first | ((with_reducible refine gate_dst (N:=2) rfl ?_);refine box_event ?hg (N:=2) ?hd (cs:=#[.int .i64 a0_0,.int .i64 a0_1,.int .i64 a0_2]) (t:=47) ?hr ?_;(case hd=>rfl);(case hg=>rfl);(case hr=>exact ze_);intro gb101 hg w11 hbox hb;have n_:=z (below_step zb_ hb)<|z (hbox)<|z ((by rw [hg];exact (below_size zb_):w.heap.size≤gb101))<|z1 ((by rw [hg];exact (below_size zb_):w.heap.size≤gb101));clear HB;obtain ⟨HB,BK101,GW101,GE101⟩:=n_;clear hb hbox hg)|((with_reducible refine gate_dst (N:=3) rfl ?_);refine box_event ?hg (N:=3) ?hd (cs:=#[.int .i64 a1_0,.int .i64 a1_1,.int .i64 a1_2]) (t:=47) ?hr ?_;(case hd=>rfl);(case hg=>rfl);(case hr=>exact ze_);intro gb102 hg w12 hbox hb;have n_:=z (blk_below (zb BK101.out) hb)<|z (below_step zbh_ hb)<|z (hbox)<|z ((by rw [hg];exact (below_size zbh_):w.heap.size≤gb102))<|z ((by rw [hg];exact (below_size zbh_):w.heap.size≤gb102))<|z ((by rw [hg];exact Nat.ne_of_lt (blk_lt (zb BK101.out)):gb101≠gb102))<|z1 ((by rw [hg];exact Nat.ne_of_gt (blk_lt (zb BK101.out)):gb102≠gb101));clear BK101 HB;obtain ⟨BK101,HB,BK102,GW102,GE102,NB101_102,NB102_101⟩:=n_;clear hb hbox hg;have hnb13:=NB101_102.out;have hnc13:=NB102_101.out;obtain ⟨hcz14_0,hcz14_1,hcz14_2,hfz14_0,hfz14_1,hfz14_2⟩:=zk3 BK101.out;obtain ⟨hcz15_0,hcz15_1,hcz15_2,hfz15_0,hfz15_1,hfz15_2⟩:=zk3 BK102.out))
    go_ret
    exact ⟨zf_,zee_⟩
  ·rw [if_neg c4] at H
   have c4b0:=beq_eq_false_iff_ne.mpr c4;have c4b1:=bne_iff_ne.mpr c4;obtain rfl:=Option.some.inj H
   go_enter Tryd.func43,Tryd.ntmps43
   go_wp2_with (first | ((with_reducible refine gate_dst (N:=2) rfl ?_);refine box_event ?hg (N:=2) ?hd (cs:=#[.int .i64 a0_0,.int .i64 a0_1,.int .i64 a0_2]) (t:=47) ?hr ?_;(case hd=>rfl);(case hg=>rfl);(case hr=>exact ze_);intro gb101 hg w16 hbox hb;have n_:=z (below_step zb_ hb)<|z (hbox)<|z ((by rw [hg];exact (below_size zb_):w.heap.size≤gb101))<|z1 ((by rw [hg];exact (below_size zb_):w.heap.size≤gb101));clear HB;obtain ⟨HB,BK101,GW101,GE101⟩:=n_;clear hb hbox hg)|((with_reducible refine gate_dst (N:=3) rfl ?_);refine box_event ?hg (N:=3) ?hd (cs:=#[.int .i64 a1_0,.int .i64 a1_1,.int .i64 a1_2]) (t:=47) ?hr ?_;(case hd=>rfl);(case hg=>rfl);(case hr=>exact ze_);intro gb102 hg w17 hbox hb;have n_:=z (blk_below (zb BK101.out) hb)<|z (below_step zbh_ hb)<|z (hbox)<|z ((by rw [hg];exact (below_size zbh_):w.heap.size≤gb102))<|z ((by rw [hg];exact (below_size zbh_):w.heap.size≤gb102))<|z ((by rw [hg];exact Nat.ne_of_lt (blk_lt (zb BK101.out)):gb101≠gb102))<|z1 ((by rw [hg];exact Nat.ne_of_gt (blk_lt (zb BK101.out)):gb102≠gb101));clear BK101 HB;obtain ⟨BK101,HB,BK102,GW102,GE102,NB101_102,NB102_101⟩:=n_;clear hb hbox hg;have hnb18:=NB101_102.out;have hnc18:=NB102_101.out;obtain ⟨hcz19_0,hcz19_1,hcz19_2,hfz19_0,hfz19_1,hfz19_2⟩:=zk3 BK101.out;obtain ⟨hcz20_0,hcz20_1,hcz20_2,hfz20_0,hfz20_1,hfz20_2⟩:=zk3 BK102.out))
   go_ret
   exact ⟨zf_,zee_⟩
 ·rw [if_neg c3] at H
  have c3b0:=beq_eq_false_iff_ne.mpr c3;have c3b1:=bne_iff_ne.mpr c3;obtain rfl:=Option.some.inj H
  go_enter Tryd.func43,Tryd.ntmps43
  go_wp2_with (first | ((with_reducible refine gate_dst (N:=2) rfl ?_);refine box_event ?hg (N:=2) ?hd (cs:=#[.int .i64 a0_0,.int .i64 a0_1,.int .i64 a0_2]) (t:=47) ?hr ?_;(case hd=>rfl);(case hg=>rfl);(case hr=>exact ze_);intro gb101 hg w21 hbox hb;have n_:=z (below_step zb_ hb)<|z (hbox)<|z ((by rw [hg];exact (below_size zb_):w.heap.size≤gb101))<|z1 ((by rw [hg];exact (below_size zb_):w.heap.size≤gb101));clear HB;obtain ⟨HB,BK101,GW101,GE101⟩:=n_;clear hb hbox hg)|((with_reducible refine gate_dst (N:=3) rfl ?_);refine box_event ?hg (N:=3) ?hd (cs:=#[.int .i64 a1_0,.int .i64 a1_1,.int .i64 a1_2]) (t:=47) ?hr ?_;(case hd=>rfl);(case hg=>rfl);(case hr=>exact ze_);intro gb102 hg w22 hbox hb;have n_:=z (blk_below (zb BK101.out) hb)<|z (below_step zbh_ hb)<|z (hbox)<|z ((by rw [hg];exact (below_size zbh_):w.heap.size≤gb102))<|z ((by rw [hg];exact (below_size zbh_):w.heap.size≤gb102))<|z ((by rw [hg];exact Nat.ne_of_lt (blk_lt (zb BK101.out)):gb101≠gb102))<|z1 ((by rw [hg];exact Nat.ne_of_gt (blk_lt (zb BK101.out)):gb102≠gb101));clear BK101 HB;obtain ⟨BK101,HB,BK102,GW102,GE102,NB101_102,NB102_101⟩:=n_;clear hb hbox hg;have hnb23:=NB101_102.out;have hnc23:=NB102_101.out;obtain ⟨hcz24_0,hcz24_1,hcz24_2,hfz24_0,hfz24_1,hfz24_2⟩:=zk3 BK101.out;obtain ⟨hcz25_0,hcz25_1,hcz25_2,hfz25_0,hfz25_1,hfz25_2⟩:=zk3 BK102.out))
  go_ret
  exact ⟨zf_,zee_⟩
def laws_eqGateS.l0:Nat→List (S47)→List (S47)→Int→Option (Bool)
 | 0,_,_,_=>none
 | k+1,x0,x1,x5=>if x5<(x0.length:Int) then (if 0≤x5 then (if x5<(x1.length:Int) then ((laws_eqGate.f ((rd_T47 x0 x5).f0) ((rd_T47 x0 x5).f1) ((rd_T47 x0 x5).f2) ((rd_T47 x1 x5).f0) ((rd_T47 x1 x5).f1) ((rd_T47 x1 x5).f2)).bind fun t105=>(if t105=true then (laws_eqGateS.l0 k x0 x1 (wrap64 (x5+1))) else (some false))) else (none)) else (none)) else (some true)
def laws_eqGateS.f (k:Nat) (l0:List (S47)) (l1:List (S47)):Option (Bool):=if (l0.length:Int)=(l1.length:Int) then (laws_eqGateS.l0 k l0 l1 0) else (some false)
theorem laws_eqGateS.mono_l:∀ k,(∀ y0 y1 y2,LeO (laws_eqGateS.l0 k y0 y1 y2) (laws_eqGateS.l0 (k+1) y0 y1 y2))
 | 0=>fun _ _ _ r h=>by simp [laws_eqGateS.l0] at h
 | k+1=>by
  have ih0:=laws_eqGateS.mono_l k
  ·intro y0 y1 y2
   unfold laws_eqGateS.l0
   repeat' first
   | (with_reducible exact ih0 _ _ _)
   | (with_reducible exact LeO.refl _)
   | (with_reducible exact LeO.none _)
   | (with_reducible refine LeO.ite ?_ ?_)
   | (with_reducible refine LeO.bind ?_ (fun _=>?_))
   | exact ih0 _ _ _
   | exact LeO.none _
   | refine LeO.ite ?_ ?_
   | refine LeO.bind ?_ (fun _=>?_)
theorem laws_eqGateS.mono:∀ a0 a1 k,LeO (laws_eqGateS.f k a0 a1) (laws_eqGateS.f (k+1) a0 a1):=by
 intro a0 a1 k
 have ih0:=laws_eqGateS.mono_l k
 unfold laws_eqGateS.f
 repeat' first
   | (with_reducible exact ih0 _ _ _)
   | (with_reducible exact LeO.refl _)
   | (with_reducible exact LeO.none _)
   | (with_reducible refine LeO.ite ?_ ?_)
   | (with_reducible refine LeO.bind ?_ (fun _=>?_))
   | exact ih0 _ _ _
   | exact LeO.none _
   | refine LeO.ite ?_ ?_
   | refine LeO.bind ?_ (fun _=>?_)
def laws_eqGateS.T6:Bool×List (List Nat×List Nat):=(true,[([],[]),([],[]),([0,1],[0,1]),([2],[2]),([],[]),([],[]),([4,5],[4,5]),([6],[6]),([3,7],[3,7]),([8],[8])])
def laws_eqGateS.B6:List Nat:=[0,0,3,7,0,0,48,112,255,511]
theorem laws_eqGateS.tab6:rtab .any (opsOf Tryd.f23 6)=laws_eqGateS.T6:=by kernel_rfl
theorem laws_eqGateS.bits6:waitsOk laws_eqGateS.T6.2 laws_eqGateS.B6=true:=by kernel_rfl
theorem laws_eqGateS.calls (k:Nat) (A0:Option Addr) (c0:Nat) (l0:List (S47)) (A1:Option Addr) (c1:Nat) (l1:List (S47)) (r:Bool) (w:World) (hr0:Kd.C k47 w A0 l0.length l0) (hc0:l0.length≤c0) (hr1:Kd.C k47 w A1 l1.length l1) (hc1:l1.length≤c1) (h:laws_eqGateS.f k l0 l1=some r) :
  Calls Tryd.prog 23 #[.slice A0 l0.length c0,.slice A1 l1.length c1] w fun e w'=>e = .returned (.bool r)∧Below w.heap.size w w':=by
 have hu47:=Tryd.underlying47
 have HR0:=aM hr0
 have HC0:=aM hc0
 clear hr0 hc0
 have HR1:=aM hr1
 have HC1:=aM hc1
 clear hr1 hc1
 have HB:=aM (Below.refl w.heap.size w)
 have H:(if (l0.length:Int)=(l1.length:Int) then (laws_eqGateS.l0 k l0 l1 0) else (some false))=some r:=h
 clear h
 by_cases c3:(l0.length:Int)=(l1.length:Int)
 ·rw [if_pos c3] at H
  have c3b0:=beq_iff_eq.mpr c3;have c3b1:=bne_eq_false_iff_eq.mpr c3;have c3b2:(l0.length == l1.length)=true:=by first | simpa using c3 | (simp at c3 ⊢;omega)
  clear c3;have H':=aM H;clear H
  go_enter Tryd.func23,Tryd.ntmps23
  go_wp2
  go_loopg [5] k (fun kq v5 w' => ∃ (x5_1:Int),v5 = .int .i64 x5_1∧Aside0 (laws_eqGateS.l0 kq l0 l1 x5_1=some r)∧Aside0 (kq≤k)∧Aside0 (Below w.heap.size w w'))
  case atStart=>exact ⟨(0),zc_,H',⟨Nat.le_refl _⟩,⟨zb_⟩⟩
  case round =>
   clear H';(try clear c3b0);(try clear c3b1);(try clear c3b2);obtain ⟨x5_1,rfl,HA,HK1,HB⟩:=hrel
   cases gk with
   | zero=>exact absurd HA.out (by simp [laws_eqGateS.l0])
   | succ k1 =>
    have H:=HA.out;clear HA
    simp only [laws_eqGateS.l0] at H
    by_cases c4:x5_1<(l0.length:Int)
    ·rw [if_pos c4] at H
     have c4b0:=decide_eq_true c4;clear c4
     by_cases c5:0≤x5_1
     ·rw [if_pos c5] at H
      have c5b0:=decide_eq_true c5;clear c5
      by_cases c6:x5_1<(l1.length:Int)
      ·rw [if_pos c6] at H
       have c6b0:=decide_eq_true c6;clear c6;replace H:=oB.mp H;obtain ⟨t105,A70,H⟩:=H;replace H:(if t105=true then (laws_eqGateS.l0 k1 l0 l1 (wrap64 (x5_1+1))) else (some false))=some r:=H;have A7:=aM A70;clear A70
       by_cases c8:t105=true
       ·subst c8
        have H1:(laws_eqGateS.l0 k1 l0 l1 (wrap64 (x5_1+1)))=some r:=by rw [if_pos rfl] at H;exact H
        clear H;have H:=H1;clear H1;have H':=aM H;clear H;(try go_wp2);have n0_:=aM (p1 HB.out);clear HB;have HB:=n0_;clear n0_;have p103:0≤(x5_1:Int):=of_decide_eq_true za_;have q103:x5_1<(l0.length:Int):=of_decide_eq_true za_;obtain ⟨ad103,e103,hx103_0,hx103_1,hx103_2⟩:=at_T47 HR0.out x5_1 p103 q103;have hw103_2:=hx103_2;have hw103_1:=hx103_1;have hw103_0:=hx103_0
        cases e103
        (try (replace hx103_0:=q3h_ HB.out hx103_0));(try (replace hx103_1:=q3h_ HB.out hx103_1));(try (replace hx103_2:=q3h_ HB.out hx103_2));replace p103:=eq_true p103;replace q103:=eq_true q103;have p104:0≤(x5_1:Int):=of_decide_eq_true za_;have q104:x5_1<(l1.length:Int):=of_decide_eq_true za_;obtain ⟨ad104,e104,hx104_0,hx104_1,hx104_2⟩:=at_T47 HR1.out x5_1 p104 q104;have hw104_2:=hx104_2;have hw104_1:=hx104_1;have hw104_0:=hx104_0
        cases e104
        (try (replace hx104_0:=q3h_ HB.out hx104_0));(try (replace hx104_1:=q3h_ HB.out hx104_1));(try (replace hx104_2:=q3h_ HB.out hx104_2));replace p104:=eq_true p104;replace q104:=eq_true q104
        refine start_ (n:=10) (S:=fun w'=>w'.cell? (ad103.add ((x5_1).toNat * 3))=some (.int .i64 ((rd_T47 l0 x5_1).f0))∧w'.cell? ⟨(ad103.add ((x5_1).toNat * 3)).block,(ad103.add ((x5_1).toNat * 3)).off+1,none⟩=some (.int .i64 ((rd_T47 l0 x5_1).f1))∧w'.cell? ⟨(ad103.add ((x5_1).toNat * 3)).block,(ad103.add ((x5_1).toNat * 3)).off+2,none⟩=some (.int .i64 ((rd_T47 l0 x5_1).f2))∧w'.cell? (ad104.add ((x5_1).toNat * 3))=some (.int .i64 ((rd_T47 l1 x5_1).f0))∧w'.cell? ⟨(ad104.add ((x5_1).toNat * 3)).block,(ad104.add ((x5_1).toNat * 3)).off+1,none⟩=some (.int .i64 ((rd_T47 l1 x5_1).f1))∧w'.cell? ⟨(ad104.add ((x5_1).toNat * 3)).block,(ad104.add ((x5_1).toNat * 3)).off+2,none⟩=some (.int .i64 ((rd_T47 l1 x5_1).f2))) (ds:=[]) #[fi,fi,fi,fi,fi,fi,fi,fi,fi,fi] (by kernel_rfl) rfl rfl ⟨((HB.out.cell (World.block_lt_of_cell? w _ hw103_0)).trans hw103_0),((HB.out.cell (World.block_lt_of_cell? w _ hw103_1)).trans hw103_1),((HB.out.cell (World.block_lt_of_cell? w _ hw103_2)).trans hw103_2),((HB.out.cell (World.block_lt_of_cell? w _ hw104_0)).trans hw104_0),((HB.out.cell (World.block_lt_of_cell? w _ hw104_1)).trans hw104_1),((HB.out.cell (World.block_lt_of_cell? w _ hw104_2)).trans hw104_2)⟩ (fun hHeld=>?_);refine with_tabW laws_eqGateS.tab6 laws_eqGateS.bits6 (fun HT_ HW_=>?_)
        generalize wr.drew=w9 at HB hx103_0 hx103_1 hx103_2 hx104_0 hx104_1 hx104_2 hHeld ⊢;refine py_ 0 17 HT_.out ?_;refine py_ 1 18 HT_.out ?_;refine py_ 2 19 HT_.out ?_;refine py_ 4 21 HT_.out ?_;refine py_ 5 22 HT_.out ?_;refine py_ 6 23 HT_.out ?_
        refine tw6_ 3 20 HT_.out HW_.out hHeld ?_
        refine tw6_ 7 24 HT_.out HW_.out hHeld ?_
        refine one_ (i:=8) (N:=some 25) #[ti,ti,ti,ti,ti,ti,ti,ti,ti,fi] rfl rfl (one_of HT_.out (by kernel_rfl)) (by decide) (fun K hK=>?_)
        refine goes_ Tryd.func43 (by kernel_rfl) rfl #[.agg #[.int .i64 ((rd_T47 l0 x5_1).f0),.int .i64 ((rd_T47 l0 x5_1).f1),.int .i64 ((rd_T47 l0 x5_1).f2)],.agg #[.int .i64 ((rd_T47 l1 x5_1).f0),.int .i64 ((rd_T47 l1 x5_1).f1),.int .i64 ((rd_T47 l1 x5_1).f2)]] (by rfl) rfl rfl zd_ ?_
        with_reducible refine (laws_eqGate.calls ((rd_T47 l0 x5_1).f0) ((rd_T47 l0 x5_1).f1) ((rd_T47 l0 x5_1).f2) ((rd_T47 l1 x5_1).f0) ((rd_T47 l1 x5_1).f1) ((rd_T47 l1 x5_1).f2) true _ A7.out).mono ?_
        rintro e w10 ⟨rfl,hb⟩
        refine ⟨_,rfl,?_⟩
        have n0_:=aM (below_step zb_ hb);clear HB;have HB:=n0_;clear n0_;(try clear hb);(try clear hb2);(try clear hk);(try clear hi)
        refine hK.out _ _ ⟨((HB.out.cell (World.block_lt_of_cell? w _ hw103_0)).trans hw103_0),((HB.out.cell (World.block_lt_of_cell? w _ hw103_1)).trans hw103_1),((HB.out.cell (World.block_lt_of_cell? w _ hw103_2)).trans hw103_2),((HB.out.cell (World.block_lt_of_cell? w _ hw104_0)).trans hw104_0),((HB.out.cell (World.block_lt_of_cell? w _ hw104_1)).trans hw104_1),((HB.out.cell (World.block_lt_of_cell? w _ hw104_2)).trans hw104_2)⟩ (fun hHeld=>?_)
        clear hK K
        refine nz_ 25 ?_
        refine py_ 9 26 HT_.out ?_
        refine done_ (done_of HT_.out (by kernel_rfl)) ?_
        (try go_wp2)
        go_roundg k1
        case measure=>have:=HK1.out;omega
        case rel=>exact ⟨(wrap64 (x5_1+1)),zc_,H',⟨zbd_⟩,⟨zb_⟩⟩
       ·replace c8:=Bool.eq_false_iff.mpr c8
        subst c8;have H1:(some false)=some r:=by rw [if_neg (show ¬ (false=true) by decide)] at H;exact H
        clear H;have H:=H1;clear H1;obtain rfl:=Option.some.inj H;(try go_wp2);have n0_:=aM (p1 HB.out);clear HB;have HB:=n0_;clear n0_;have p103:0≤(x5_1:Int):=of_decide_eq_true za_;have q103:x5_1<(l0.length:Int):=of_decide_eq_true za_;obtain ⟨ad103,e103,hx103_0,hx103_1,hx103_2⟩:=at_T47 HR0.out x5_1 p103 q103;have hw103_2:=hx103_2;have hw103_1:=hx103_1;have hw103_0:=hx103_0
        cases e103
        (try (replace hx103_0:=q3h_ HB.out hx103_0));(try (replace hx103_1:=q3h_ HB.out hx103_1));(try (replace hx103_2:=q3h_ HB.out hx103_2));replace p103:=eq_true p103;replace q103:=eq_true q103;have p104:0≤(x5_1:Int):=of_decide_eq_true za_;have q104:x5_1<(l1.length:Int):=of_decide_eq_true za_;obtain ⟨ad104,e104,hx104_0,hx104_1,hx104_2⟩:=at_T47 HR1.out x5_1 p104 q104;have hw104_2:=hx104_2;have hw104_1:=hx104_1;have hw104_0:=hx104_0
        cases e104
        (try (replace hx104_0:=q3h_ HB.out hx104_0));(try (replace hx104_1:=q3h_ HB.out hx104_1));(try (replace hx104_2:=q3h_ HB.out hx104_2));replace p104:=eq_true p104;replace q104:=eq_true q104
        refine start_ (n:=10) (S:=fun w'=>w'.cell? (ad103.add ((x5_1).toNat * 3))=some (.int .i64 ((rd_T47 l0 x5_1).f0))∧w'.cell? ⟨(ad103.add ((x5_1).toNat * 3)).block,(ad103.add ((x5_1).toNat * 3)).off+1,none⟩=some (.int .i64 ((rd_T47 l0 x5_1).f1))∧w'.cell? ⟨(ad103.add ((x5_1).toNat * 3)).block,(ad103.add ((x5_1).toNat * 3)).off+2,none⟩=some (.int .i64 ((rd_T47 l0 x5_1).f2))∧w'.cell? (ad104.add ((x5_1).toNat * 3))=some (.int .i64 ((rd_T47 l1 x5_1).f0))∧w'.cell? ⟨(ad104.add ((x5_1).toNat * 3)).block,(ad104.add ((x5_1).toNat * 3)).off+1,none⟩=some (.int .i64 ((rd_T47 l1 x5_1).f1))∧w'.cell? ⟨(ad104.add ((x5_1).toNat * 3)).block,(ad104.add ((x5_1).toNat * 3)).off+2,none⟩=some (.int .i64 ((rd_T47 l1 x5_1).f2))) (ds:=[]) #[fi,fi,fi,fi,fi,fi,fi,fi,fi,fi] (by kernel_rfl) rfl rfl ⟨((HB.out.cell (World.block_lt_of_cell? w _ hw103_0)).trans hw103_0),((HB.out.cell (World.block_lt_of_cell? w _ hw103_1)).trans hw103_1),((HB.out.cell (World.block_lt_of_cell? w _ hw103_2)).trans hw103_2),((HB.out.cell (World.block_lt_of_cell? w _ hw104_0)).trans hw104_0),((HB.out.cell (World.block_lt_of_cell? w _ hw104_1)).trans hw104_1),((HB.out.cell (World.block_lt_of_cell? w _ hw104_2)).trans hw104_2)⟩ (fun hHeld=>?_);refine with_tabW laws_eqGateS.tab6 laws_eqGateS.bits6 (fun HT_ HW_=>?_)
        generalize wr.drew=w11 at HB hx103_0 hx103_1 hx103_2 hx104_0 hx104_1 hx104_2 hHeld ⊢;refine py_ 0 17 HT_.out ?_;refine py_ 1 18 HT_.out ?_;refine py_ 2 19 HT_.out ?_;refine py_ 4 21 HT_.out ?_;refine py_ 5 22 HT_.out ?_;refine py_ 6 23 HT_.out ?_
        refine tw6_ 3 20 HT_.out HW_.out hHeld ?_
        refine tw6_ 7 24 HT_.out HW_.out hHeld ?_
        refine one_ (i:=8) (N:=some 25) #[ti,ti,ti,ti,ti,ti,ti,ti,ti,fi] rfl rfl (one_of HT_.out (by kernel_rfl)) (by decide) (fun K hK=>?_)
        refine goes_ Tryd.func43 (by kernel_rfl) rfl #[.agg #[.int .i64 ((rd_T47 l0 x5_1).f0),.int .i64 ((rd_T47 l0 x5_1).f1),.int .i64 ((rd_T47 l0 x5_1).f2)],.agg #[.int .i64 ((rd_T47 l1 x5_1).f0),.int .i64 ((rd_T47 l1 x5_1).f1),.int .i64 ((rd_T47 l1 x5_1).f2)]] (by rfl) rfl rfl zd_ ?_
        with_reducible refine (laws_eqGate.calls ((rd_T47 l0 x5_1).f0) ((rd_T47 l0 x5_1).f1) ((rd_T47 l0 x5_1).f2) ((rd_T47 l1 x5_1).f0) ((rd_T47 l1 x5_1).f1) ((rd_T47 l1 x5_1).f2) false _ A7.out).mono ?_
        rintro e w12 ⟨rfl,hb⟩
        refine ⟨_,rfl,?_⟩
        have n0_:=aM (below_step zb_ hb);clear HB;have HB:=n0_;clear n0_;(try clear hb);(try clear hb2);(try clear hk);(try clear hi)
        refine hK.out _ _ ⟨((HB.out.cell (World.block_lt_of_cell? w _ hw103_0)).trans hw103_0),((HB.out.cell (World.block_lt_of_cell? w _ hw103_1)).trans hw103_1),((HB.out.cell (World.block_lt_of_cell? w _ hw103_2)).trans hw103_2),((HB.out.cell (World.block_lt_of_cell? w _ hw104_0)).trans hw104_0),((HB.out.cell (World.block_lt_of_cell? w _ hw104_1)).trans hw104_1),((HB.out.cell (World.block_lt_of_cell? w _ hw104_2)).trans hw104_2)⟩ (fun hHeld=>?_)
        clear hK K
        refine nz_ 25 ?_
        refine py_ 9 26 HT_.out ?_
        refine done_ (done_of HT_.out (by kernel_rfl)) ?_
        (try go_wp2)
        go_ret
        exact ⟨zf_,zb_⟩
      ·rw [if_neg c6] at H
       exact q3n_ H
     ·rw [if_neg c5] at H
      exact q3n_ H
    ·rw [if_neg c4] at H
     have c4b0:=decide_eq_false c4;clear c4;obtain rfl:=Option.some.inj H
     go_wp2
     go_ret
     exact ⟨zf_,zb_⟩
 ·rw [if_neg c3] at H
  have c3b0:=beq_eq_false_iff_ne.mpr c3;have c3b1:=bne_iff_ne.mpr c3;have c3b2:(l0.length == l1.length)=false:=by first | simpa using c3 | (simp at c3 ⊢;omega)
  obtain rfl:=Option.some.inj H
  go_enter Tryd.func23,Tryd.ntmps23
  go_wp2
  go_ret
  exact ⟨zf_,zb_⟩
def laws_eqIntS.l0:Nat→List Int→List Int→Int→Option (Bool)
 | 0,_,_,_=>none
 | k+1,x0,x1,x5=>if x5<(x0.length:Int) then (if 0≤x5 then (if x5<(x1.length:Int) then (if (rd x0 x5)=(rd x1 x5) then (laws_eqIntS.l0 k x0 x1 (wrap64 (x5+1))) else (some false)) else (none)) else (none)) else (some true)
def laws_eqIntS.f (k:Nat) (l0:List Int) (l1:List Int):Option (Bool):=if (l0.length:Int)=(l1.length:Int) then (laws_eqIntS.l0 k l0 l1 0) else (some false)
theorem laws_eqIntS.mono_l:∀ k,(∀ y0 y1 y2,LeO (laws_eqIntS.l0 k y0 y1 y2) (laws_eqIntS.l0 (k+1) y0 y1 y2))
 | 0=>fun _ _ _ r h=>by simp [laws_eqIntS.l0] at h
 | k+1=>by
  have ih0:=laws_eqIntS.mono_l k
  ·intro y0 y1 y2
   unfold laws_eqIntS.l0
   repeat' first
   | (with_reducible exact ih0 _ _ _)
   | (with_reducible exact LeO.refl _)
   | (with_reducible exact LeO.none _)
   | (with_reducible refine LeO.ite ?_ ?_)
   | (with_reducible refine LeO.bind ?_ (fun _=>?_))
   | exact ih0 _ _ _
   | exact LeO.none _
   | refine LeO.ite ?_ ?_
   | refine LeO.bind ?_ (fun _=>?_)
theorem laws_eqIntS.mono:∀ a0 a1 k,LeO (laws_eqIntS.f k a0 a1) (laws_eqIntS.f (k+1) a0 a1):=by
 intro a0 a1 k
 have ih0:=laws_eqIntS.mono_l k
 unfold laws_eqIntS.f
 repeat' first
   | (with_reducible exact ih0 _ _ _)
   | (with_reducible exact LeO.refl _)
   | (with_reducible exact LeO.none _)
   | (with_reducible refine LeO.ite ?_ ?_)
   | (with_reducible refine LeO.bind ?_ (fun _=>?_))
   | exact ih0 _ _ _
   | exact LeO.none _
   | refine LeO.ite ?_ ?_
   | refine LeO.bind ?_ (fun _=>?_)
theorem laws_eqIntS.calls (k:Nat) (A0:Option Addr) (c0:Nat) (l0:List Int) (A1:Option Addr) (c1:Nat) (l1:List Int) (r:Bool) (w:World) (hr0:Kd.C (Kd.int .i64) w A0 l0.length l0) (hc0:l0.length≤c0) (hr1:Kd.C (Kd.int .i64) w A1 l1.length l1) (hc1:l1.length≤c1) (h:laws_eqIntS.f k l0 l1=some r) :
  Calls Tryd.prog 24 #[.slice A0 l0.length c0,.slice A1 l1.length c1] w fun e w'=>e = .returned (.bool r)∧Drawn0 w w':=by
 have HR0:=aM hr0
 have HC0:=aM hc0
 clear hr0 hc0
 have HR1:=aM hr1
 have HC1:=aM hc1
 clear hr1 hc1
 have H:(if (l0.length:Int)=(l1.length:Int) then (laws_eqIntS.l0 k l0 l1 0) else (some false))=some r:=h
 clear h
 by_cases c3:(l0.length:Int)=(l1.length:Int)
 ·rw [if_pos c3] at H
  have c3b0:=beq_iff_eq.mpr c3;have c3b1:=bne_eq_false_iff_eq.mpr c3;have c3b2:(l0.length == l1.length)=true:=by first | simpa using c3 | (simp at c3 ⊢;omega)
  clear c3;have H':=aM H;clear H
  go_enter Tryd.func24,Tryd.ntmps24
  go_wp2
  repeat (go_quiet (fail);try go_wp2)
  go_loopg [5] k (fun kq v5 w' => ∃ (x5_1:Int),v5 = .int .i64 x5_1∧Aside0 (laws_eqIntS.l0 kq l0 l1 x5_1=some r)∧Aside0 (kq≤k)∧Drawn0 w w')
  case atStart=>exact ⟨(0),zc_,H',⟨Nat.le_refl _⟩,zg_⟩
  case round =>
   clear H';(try clear c3b0);(try clear c3b1);(try clear c3b2);obtain ⟨x5_1,rfl,HA,HK1,⟨m1,rfl⟩⟩:=hrel
   cases gk with
   | zero=>exact absurd HA.out (by simp [laws_eqIntS.l0])
   | succ k1 =>
    have H:=HA.out;clear HA
    simp only [laws_eqIntS.l0] at H
    by_cases c4:x5_1<(l0.length:Int)
    ·rw [if_pos c4] at H
     have c4b0:=decide_eq_true c4;clear c4
     by_cases c5:0≤x5_1
     ·rw [if_pos c5] at H
      have c5b0:=decide_eq_true c5;clear c5
      by_cases c6:x5_1<(l1.length:Int)
      ·rw [if_pos c6] at H
       have c6b0:=decide_eq_true c6;clear c6
       by_cases c7:(rd l0 x5_1)=(rd l1 x5_1)
       ·rw [if_pos c7] at H
        have c7b0:=beq_iff_eq.mpr c7;have c7b1:=bne_eq_false_iff_eq.mpr c7;clear c7;have H':=aM H;clear H;have p106:0≤(x5_1:Int):=of_decide_eq_true za_;have q106:x5_1<(l0.length:Int):=of_decide_eq_true za_;obtain ⟨ad106,e106,hx106_0⟩:=Kd.at_int HR0.out x5_1 p106 q106
        cases e106
        replace p106:=eq_true p106;replace q106:=eq_true q106;have p107:0≤(x5_1:Int):=of_decide_eq_true za_;have q107:x5_1<(l1.length:Int):=of_decide_eq_true za_;obtain ⟨ad107,e107,hx107_0⟩:=Kd.at_int HR1.out x5_1 p107 q107
        cases e107
        replace p107:=eq_true p107;replace q107:=eq_true q107
        go_wp2
        repeat (go_quiet (fail);try go_wp2)
        go_roundg k1
        case measure=>have:=HK1.out;omega
        case rel=>exact ⟨(wrap64 (x5_1+1)),zc_,H',⟨zbd_⟩,zg_⟩
       ·rw [if_neg c7] at H
        have c7b0:=beq_eq_false_iff_ne.mpr c7;have c7b1:=bne_iff_ne.mpr c7;obtain rfl:=Option.some.inj H;have p106:0≤(x5_1:Int):=of_decide_eq_true za_;have q106:x5_1<(l0.length:Int):=of_decide_eq_true za_;obtain ⟨ad106,e106,hx106_0⟩:=Kd.at_int HR0.out x5_1 p106 q106
        cases e106
        replace p106:=eq_true p106;replace q106:=eq_true q106;have p107:0≤(x5_1:Int):=of_decide_eq_true za_;have q107:x5_1<(l1.length:Int):=of_decide_eq_true za_;obtain ⟨ad107,e107,hx107_0⟩:=Kd.at_int HR1.out x5_1 p107 q107
        cases e107
        replace p107:=eq_true p107;replace q107:=eq_true q107
        go_wp2
        repeat (go_quiet (fail);try go_wp2)
        go_ret
        exact ⟨zc_,zg_⟩
      ·rw [if_neg c6] at H
       exact q3n_ H
     ·rw [if_neg c5] at H
      exact q3n_ H
    ·rw [if_neg c4] at H
     have c4b0:=decide_eq_false c4;clear c4;obtain rfl:=Option.some.inj H
     go_wp2
     repeat (go_quiet (fail);try go_wp2)
     go_ret
     exact ⟨zc_,zg_⟩
 ·rw [if_neg c3] at H
  have c3b0:=beq_eq_false_iff_ne.mpr c3;have c3b1:=bne_iff_ne.mpr c3;have c3b2:(l0.length == l1.length)=false:=by first | simpa using c3 | (simp at c3 ⊢;omega)
  obtain rfl:=Option.some.inj H
  go_enter Tryd.func24,Tryd.ntmps24
  go_wp2
  repeat (go_quiet (fail);try go_wp2)
  go_ret
  exact ⟨zc_,zg_⟩
def laws_eqCircuit.f (k:Nat) (a0_0:Int) (l0_1:List (S47)) (l0_2:List Int) (a1_0:Int) (l1_1:List (S47)) (l1_2:List Int):Option (Bool):=if a0_0=a1_0 then ((laws_eqGateS.f k l0_1 l1_1).bind fun t110=>(if t110=true then ((laws_eqIntS.f k l0_2 l1_2).bind fun t111=>(if t111=true then (some true) else (some false))) else (some false))) else (some false)
theorem laws_eqCircuit.mono:∀ a0 a1 a2 a3 a4 a5 k,LeO (laws_eqCircuit.f k a0 a1 a2 a3 a4 a5) (laws_eqCircuit.f (k+1) a0 a1 a2 a3 a4 a5):=by
 intro a0 a1 a2 a3 a4 a5 k
 unfold laws_eqCircuit.f
 repeat' first
   | (with_reducible exact laws_eqGateS.mono _ _ _)
   | (with_reducible exact laws_eqIntS.mono _ _ _)
   | (with_reducible exact LeO.refl _)
   | (with_reducible exact LeO.none _)
   | (with_reducible refine LeO.ite ?_ ?_)
   | (with_reducible refine LeO.bind ?_ (fun _=>?_))
   | exact laws_eqGateS.mono _ _ _
   | exact laws_eqIntS.mono _ _ _
   | exact LeO.none _
   | refine LeO.ite ?_ ?_
   | refine LeO.bind ?_ (fun _=>?_)
theorem laws_eqCircuit.calls (k:Nat) (a0_0:Int) (A0_1:Option Addr) (c0_1:Nat) (l0_1:List (S47)) (A0_2:Option Addr) (c0_2:Nat) (l0_2:List Int) (a1_0:Int) (A1_1:Option Addr) (c1_1:Nat) (l1_1:List (S47)) (A1_2:Option Addr) (c1_2:Nat) (l1_2:List Int) (r:Bool) (w:World) (hr0_1:Kd.C k47 w A0_1 l0_1.length l0_1) (hc0_1:l0_1.length≤c0_1) (hr0_2:Kd.C (Kd.int .i64) w A0_2 l0_2.length l0_2) (hc0_2:l0_2.length≤c0_2) (hr1_1:Kd.C k47 w A1_1 l1_1.length l1_1) (hc1_1:l1_1.length≤c1_1) (hr1_2:Kd.C (Kd.int .i64) w A1_2 l1_2.length l1_2) (hc1_2:l1_2.length≤c1_2) (h:laws_eqCircuit.f k a0_0 l0_1 l0_2 a1_0 l1_1 l1_2=some r) :
  Calls Tryd.prog 9 #[.agg #[.int .i64 a0_0,.slice A0_1 l0_1.length c0_1,.slice A0_2 l0_2.length c0_2],.agg #[.int .i64 a1_0,.slice A1_1 l1_1.length c1_1,.slice A1_2 l1_2.length c1_2]] w fun e w'=>e = .returned (.bool r)∧Below w.heap.size w w':=by
 have hu31:=Tryd.underlying31
 have HR0_1:=aM hr0_1
 have HC0_1:=aM hc0_1
 clear hr0_1 hc0_1
 have HR0_2:=aM hr0_2
 have HC0_2:=aM hc0_2
 clear hr0_2 hc0_2
 have HR1_1:=aM hr1_1
 have HC1_1:=aM hc1_1
 clear hr1_1 hc1_1
 have HR1_2:=aM hr1_2
 have HC1_2:=aM hc1_2
 clear hr1_2 hc1_2
 have HB:=aM (Below.refl w.heap.size w)
 have H:(if a0_0=a1_0 then ((laws_eqGateS.f k l0_1 l1_1).bind fun t110=>(if t110=true then ((laws_eqIntS.f k l0_2 l1_2).bind fun t111=>(if t111=true then (some true) else (some false))) else (some false))) else (some false))=some r:=h
 clear h
 by_cases c3:a0_0=a1_0
 ·rw [if_pos c3] at H
  have c3b0:=beq_iff_eq.mpr c3;have c3b1:=bne_eq_false_iff_eq.mpr c3;clear c3;replace H:=oB.mp H;obtain ⟨t110,A40,H⟩:=H;replace H:(if t110=true then ((laws_eqIntS.f k l0_2 l1_2).bind fun t111=>(if t111=true then (some true) else (some false))) else (some false))=some r:=H;have A4:=aM A40;clear A40
  by_cases c5:t110=true
  ·subst c5
   have H1:((laws_eqIntS.f k l0_2 l1_2).bind fun t111=>(if t111=true then (some true) else (some false)))=some r:=by rw [if_pos rfl] at H;exact H
   clear H;have H:=H1;clear H1;replace H:=oB.mp H;obtain ⟨t111,A60,H⟩:=H;replace H:(if t111=true then (some true) else (some false))=some r:=H;have A6:=aM A60;clear A60
   by_cases c7:t111=true
   ·subst c7
    have H1:(some true)=some r:=by rw [if_pos rfl] at H;exact H
    clear H;have H:=H1;clear H1;obtain rfl:=Option.some.inj H
    go_enter Tryd.func9,Tryd.ntmps9
    go_wp2_with (first | ((with_reducible refine gate_dst (N:=2) rfl ?_);refine box_event ?hg (N:=2) ?hd (cs:=#[.int .i64 a0_0,.slice A0_1 l0_1.length c0_1,.slice A0_2 l0_2.length c0_2]) (t:=31) ?hr ?_;(case hd=>rfl);(case hg=>rfl);(case hr=>exact ze_);intro gb108 hg w8 hbox hb;have n_:=z (below_step zb_ hb)<|z (hbox)<|z ((by rw [hg];exact (below_size zb_):w.heap.size≤gb108))<|z1 ((by rw [hg];exact (below_size zb_):w.heap.size≤gb108));clear HB;obtain ⟨HB,BK108,GW108,GE108⟩:=n_;clear hb hbox hg)|((with_reducible refine gate_dst (N:=3) rfl ?_);refine box_event ?hg (N:=3) ?hd (cs:=#[.int .i64 a1_0,.slice A1_1 l1_1.length c1_1,.slice A1_2 l1_2.length c1_2]) (t:=31) ?hr ?_;(case hd=>rfl);(case hg=>rfl);(case hr=>exact ze_);intro gb109 hg w9 hbox hb;have n_:=z (blk_below (zb BK108.out) hb)<|z (below_step zbi_ hb)<|z (hbox)<|z ((by rw [hg];exact (below_size zbi_):w.heap.size≤gb109))<|z ((by rw [hg];exact (below_size zbi_):w.heap.size≤gb109))<|z ((by rw [hg];exact Nat.ne_of_lt (blk_lt (zb BK108.out)):gb108≠gb109))<|z1 ((by rw [hg];exact Nat.ne_of_gt (blk_lt (zb BK108.out)):gb109≠gb108));clear BK108 HB;obtain ⟨BK108,HB,BK109,GW109,GE109,NB108_109,NB109_108⟩:=n_;clear hb hbox hg;have hnb10:=NB108_109.out;have hnc10:=NB109_108.out;obtain ⟨hcz11_0,hcz11_1,hcz11_2,hfz11_0,hfz11_1,hfz11_2⟩:=zk3 BK108.out;obtain ⟨hcz12_0,hcz12_1,hcz12_2,hfz12_0,hfz12_1,hfz12_2⟩:=zk3 BK109.out)|((with_reducible refine gate_callee (f:=23) rfl ?_);refine goesL_ (some 14) rfl rfl Tryd.func23 (by kernel_rfl) rfl #[.slice A0_1 l0_1.length c0_1,.slice A1_1 l1_1.length c1_1] rfl zd_ ?_;(with_reducible refine (laws_eqGateS.calls k _ _ l0_1 _ _ l1_1 true _ ?side1 ?side2 ?side3 ?side4 A4.out).mono ?_);(case side1=>exact zdd_);(case side2=>exact HC0_1.out);(case side3=>exact zei_);(case side4=>exact HC1_1.out);rintro e w13 ⟨rfl,hb⟩;refine ⟨_,rfl,?_⟩;have n_:=z (blk_below (zb BK108.out) hb)<|z (blk_below (zb BK109.out) hb)<|z1 (below_step zda_ hb);clear BK108 BK109 HB;obtain ⟨BK108,BK109,HB⟩:=n_;clear hb;obtain ⟨hcz14_0,hcz14_1,hcz14_2,hfz14_0,hfz14_1,hfz14_2⟩:=zk3 BK108.out;obtain ⟨hcz15_0,hcz15_1,hcz15_2,hfz15_0,hfz15_1,hfz15_2⟩:=zk3 BK109.out)|((with_reducible refine gate_callee (f:=24) rfl ?_);refine goesL_ (some 20) rfl rfl Tryd.func24 (by kernel_rfl) rfl #[.slice A0_2 l0_2.length c0_2,.slice A1_2 l1_2.length c1_2] rfl zd_ ?_;(with_reducible refine (laws_eqIntS.calls k _ _ l0_2 _ _ l1_2 true _ ?side1 ?side2 ?side3 ?side4 A6.out).mono ?_);(case side1=>repeat (first | exact (Kd.C_below HR0_2.out HB.out)|(with_reducible refine cA ?_ _)|(with_reducible refine cN ?_ _)|(with_reducible refine cD ?_)));(case side2=>exact HC0_2.out);(case side3=>repeat (first | exact (Kd.C_below HR1_2.out HB.out)|(with_reducible refine cA ?_ _)|(with_reducible refine cN ?_ _)|(with_reducible refine cD ?_)));(case side4=>exact HC1_2.out);rintro e w' ⟨rfl,⟨nd,rfl⟩⟩;refine ⟨_,rfl,?_⟩))
    go_ret
    exact ⟨zf_,zda_⟩
   ·replace c7:=Bool.eq_false_iff.mpr c7
    subst c7;have H1:(some false)=some r:=by rw [if_neg (show ¬ (false=true) by decide)] at H;exact H
    clear H;have H:=H1;clear H1;obtain rfl:=Option.some.inj H
    go_enter Tryd.func9,Tryd.ntmps9
    go_wp2_with (first | ((with_reducible refine gate_dst (N:=2) rfl ?_);refine box_event ?hg (N:=2) ?hd (cs:=#[.int .i64 a0_0,.slice A0_1 l0_1.length c0_1,.slice A0_2 l0_2.length c0_2]) (t:=31) ?hr ?_;(case hd=>rfl);(case hg=>rfl);(case hr=>exact ze_);intro gb108 hg w16 hbox hb;have n_:=z (below_step zb_ hb)<|z (hbox)<|z ((by rw [hg];exact (below_size zb_):w.heap.size≤gb108))<|z1 ((by rw [hg];exact (below_size zb_):w.heap.size≤gb108));clear HB;obtain ⟨HB,BK108,GW108,GE108⟩:=n_;clear hb hbox hg)|((with_reducible refine gate_dst (N:=3) rfl ?_);refine box_event ?hg (N:=3) ?hd (cs:=#[.int .i64 a1_0,.slice A1_1 l1_1.length c1_1,.slice A1_2 l1_2.length c1_2]) (t:=31) ?hr ?_;(case hd=>rfl);(case hg=>rfl);(case hr=>exact ze_);intro gb109 hg w17 hbox hb;have n_:=z (blk_below (zb BK108.out) hb)<|z (below_step zbi_ hb)<|z (hbox)<|z ((by rw [hg];exact (below_size zbi_):w.heap.size≤gb109))<|z ((by rw [hg];exact (below_size zbi_):w.heap.size≤gb109))<|z ((by rw [hg];exact Nat.ne_of_lt (blk_lt (zb BK108.out)):gb108≠gb109))<|z1 ((by rw [hg];exact Nat.ne_of_gt (blk_lt (zb BK108.out)):gb109≠gb108));clear BK108 HB;obtain ⟨BK108,HB,BK109,GW109,GE109,NB108_109,NB109_108⟩:=n_;clear hb hbox hg;have hnb18:=NB108_109.out;have hnc18:=NB109_108.out;obtain ⟨hcz19_0,hcz19_1,hcz19_2,hfz19_0,hfz19_1,hfz19_2⟩:=zk3 BK108.out;obtain ⟨hcz20_0,hcz20_1,hcz20_2,hfz20_0,hfz20_1,hfz20_2⟩:=zk3 BK109.out)|((with_reducible refine gate_callee (f:=23) rfl ?_);refine goesL_ (some 14) rfl rfl Tryd.func23 (by kernel_rfl) rfl #[.slice A0_1 l0_1.length c0_1,.slice A1_1 l1_1.length c1_1] rfl zd_ ?_;(with_reducible refine (laws_eqGateS.calls k _ _ l0_1 _ _ l1_1 true _ ?side1 ?side2 ?side3 ?side4 A4.out).mono ?_);(case side1=>exact zdd_);(case side2=>exact HC0_1.out);(case side3=>exact zei_);(case side4=>exact HC1_1.out);rintro e w21 ⟨rfl,hb⟩;refine ⟨_,rfl,?_⟩;have n_:=z (blk_below (zb BK108.out) hb)<|z (blk_below (zb BK109.out) hb)<|z1 (below_step zda_ hb);clear BK108 BK109 HB;obtain ⟨BK108,BK109,HB⟩:=n_;clear hb;obtain ⟨hcz22_0,hcz22_1,hcz22_2,hfz22_0,hfz22_1,hfz22_2⟩:=zk3 BK108.out;obtain ⟨hcz23_0,hcz23_1,hcz23_2,hfz23_0,hfz23_1,hfz23_2⟩:=zk3 BK109.out)|((with_reducible refine gate_callee (f:=24) rfl ?_);refine goesL_ (some 20) rfl rfl Tryd.func24 (by kernel_rfl) rfl #[.slice A0_2 l0_2.length c0_2,.slice A1_2 l1_2.length c1_2] rfl zd_ ?_;(with_reducible refine (laws_eqIntS.calls k _ _ l0_2 _ _ l1_2 false _ ?side1 ?side2 ?side3 ?side4 A6.out).mono ?_);(case side1=>repeat (first | exact (Kd.C_below HR0_2.out HB.out)|(with_reducible refine cA ?_ _)|(with_reducible refine cN ?_ _)|(with_reducible refine cD ?_)));(case side2=>exact HC0_2.out);(case side3=>repeat (first | exact (Kd.C_below HR1_2.out HB.out)|(with_reducible refine cA ?_ _)|(with_reducible refine cN ?_ _)|(with_reducible refine cD ?_)));(case side4=>exact HC1_2.out);rintro e w' ⟨rfl,⟨nd,rfl⟩⟩;refine ⟨_,rfl,?_⟩))
    go_ret
    exact ⟨zf_,zda_⟩
  ·replace c5:=Bool.eq_false_iff.mpr c5
   subst c5;have H1:(some false)=some r:=by rw [if_neg (show ¬ (false=true) by decide)] at H;exact H
   clear H;have H:=H1;clear H1;obtain rfl:=Option.some.inj H
   go_enter Tryd.func9,Tryd.ntmps9
   go_wp2_with (first | ((with_reducible refine gate_dst (N:=2) rfl ?_);refine box_event ?hg (N:=2) ?hd (cs:=#[.int .i64 a0_0,.slice A0_1 l0_1.length c0_1,.slice A0_2 l0_2.length c0_2]) (t:=31) ?hr ?_;(case hd=>rfl);(case hg=>rfl);(case hr=>exact ze_);intro gb108 hg w24 hbox hb;have n_:=z (below_step zb_ hb)<|z (hbox)<|z ((by rw [hg];exact (below_size zb_):w.heap.size≤gb108))<|z1 ((by rw [hg];exact (below_size zb_):w.heap.size≤gb108));clear HB;obtain ⟨HB,BK108,GW108,GE108⟩:=n_;clear hb hbox hg)|((with_reducible refine gate_dst (N:=3) rfl ?_);refine box_event ?hg (N:=3) ?hd (cs:=#[.int .i64 a1_0,.slice A1_1 l1_1.length c1_1,.slice A1_2 l1_2.length c1_2]) (t:=31) ?hr ?_;(case hd=>rfl);(case hg=>rfl);(case hr=>exact ze_);intro gb109 hg w25 hbox hb;have n_:=z (blk_below (zb BK108.out) hb)<|z (below_step zbi_ hb)<|z (hbox)<|z ((by rw [hg];exact (below_size zbi_):w.heap.size≤gb109))<|z ((by rw [hg];exact (below_size zbi_):w.heap.size≤gb109))<|z ((by rw [hg];exact Nat.ne_of_lt (blk_lt (zb BK108.out)):gb108≠gb109))<|z1 ((by rw [hg];exact Nat.ne_of_gt (blk_lt (zb BK108.out)):gb109≠gb108));clear BK108 HB;obtain ⟨BK108,HB,BK109,GW109,GE109,NB108_109,NB109_108⟩:=n_;clear hb hbox hg;have hnb26:=NB108_109.out;have hnc26:=NB109_108.out;obtain ⟨hcz27_0,hcz27_1,hcz27_2,hfz27_0,hfz27_1,hfz27_2⟩:=zk3 BK108.out;obtain ⟨hcz28_0,hcz28_1,hcz28_2,hfz28_0,hfz28_1,hfz28_2⟩:=zk3 BK109.out)|((with_reducible refine gate_callee (f:=23) rfl ?_);refine goesL_ (some 14) rfl rfl Tryd.func23 (by kernel_rfl) rfl #[.slice A0_1 l0_1.length c0_1,.slice A1_1 l1_1.length c1_1] rfl zd_ ?_;(with_reducible refine (laws_eqGateS.calls k _ _ l0_1 _ _ l1_1 false _ ?side1 ?side2 ?side3 ?side4 A4.out).mono ?_);(case side1=>exact zdd_);(case side2=>exact HC0_1.out);(case side3=>exact zei_);(case side4=>exact HC1_1.out);rintro e w29 ⟨rfl,hb⟩;refine ⟨_,rfl,?_⟩;have n_:=z (blk_below (zb BK108.out) hb)<|z (blk_below (zb BK109.out) hb)<|z1 (below_step zda_ hb);clear BK108 BK109 HB;obtain ⟨BK108,BK109,HB⟩:=n_;clear hb))
   go_ret
   exact ⟨zf_,zda_⟩
 ·rw [if_neg c3] at H
  have c3b0:=beq_eq_false_iff_ne.mpr c3;have c3b1:=bne_iff_ne.mpr c3;obtain rfl:=Option.some.inj H
  go_enter Tryd.func9,Tryd.ntmps9
  go_wp2_with (first | ((with_reducible refine gate_dst (N:=2) rfl ?_);refine box_event ?hg (N:=2) ?hd (cs:=#[.int .i64 a0_0,.slice A0_1 l0_1.length c0_1,.slice A0_2 l0_2.length c0_2]) (t:=31) ?hr ?_;(case hd=>rfl);(case hg=>rfl);(case hr=>exact ze_);intro gb108 hg w30 hbox hb;have n_:=z (below_step zb_ hb)<|z (hbox)<|z ((by rw [hg];exact (below_size zb_):w.heap.size≤gb108))<|z1 ((by rw [hg];exact (below_size zb_):w.heap.size≤gb108));clear HB;obtain ⟨HB,BK108,GW108,GE108⟩:=n_;clear hb hbox hg)|((with_reducible refine gate_dst (N:=3) rfl ?_);refine box_event ?hg (N:=3) ?hd (cs:=#[.int .i64 a1_0,.slice A1_1 l1_1.length c1_1,.slice A1_2 l1_2.length c1_2]) (t:=31) ?hr ?_;(case hd=>rfl);(case hg=>rfl);(case hr=>exact ze_);intro gb109 hg w31 hbox hb;have n_:=z (blk_below (zb BK108.out) hb)<|z (below_step zbi_ hb)<|z (hbox)<|z ((by rw [hg];exact (below_size zbi_):w.heap.size≤gb109))<|z ((by rw [hg];exact (below_size zbi_):w.heap.size≤gb109))<|z ((by rw [hg];exact Nat.ne_of_lt (blk_lt (zb BK108.out)):gb108≠gb109))<|z1 ((by rw [hg];exact Nat.ne_of_gt (blk_lt (zb BK108.out)):gb109≠gb108));clear BK108 HB;obtain ⟨BK108,HB,BK109,GW109,GE109,NB108_109,NB109_108⟩:=n_;clear hb hbox hg;have hnb32:=NB108_109.out;have hnc32:=NB109_108.out;obtain ⟨hcz33_0,hcz33_1,hcz33_2,hfz33_0,hfz33_1,hfz33_2⟩:=zk3 BK108.out;obtain ⟨hcz34_0,hcz34_1,hcz34_2,hfz34_0,hfz34_1,hfz34_2⟩:=zk3 BK109.out))
  go_ret
  exact ⟨zf_,zda_⟩
def spec_l1In.f (a0:Int) (a1:Int) (a2:Int):Option (Bool):=if a0≥a1 then (some (decide (a0≤a2))) else (some false)
theorem spec_l1In.calls (a0:Int) (a1:Int) (a2:Int) (r:Bool) (w:World) (h:spec_l1In.f a0 a1 a2=some r) :
  Calls Tryd.prog 26 #[.int .i64 a0,.int .i64 a1,.int .i64 a2] w fun e w'=>e = .returned (.bool r)∧Drawn0 w w':=by
 have H:(if a0≥a1 then (some (decide (a0≤a2))) else (some false))=some r:=h
 clear h
 by_cases c4:a0≥a1
 ·rw [if_pos c4] at H
  have c4b0:decide (a1≤a0)=true:=decide_eq_true c4;clear c4;obtain rfl:=Option.some.inj H
  go_enter Tryd.func26,Tryd.ntmps26
  go_wp2
  go_ret
  exact ⟨zc_,zg_⟩
 ·rw [if_neg c4] at H
  have c4b0:decide (a1≤a0)=false:=decide_eq_false c4;clear c4;obtain rfl:=Option.some.inj H
  go_enter Tryd.func26,Tryd.ntmps26
  go_wp2
  go_ret
  exact ⟨zc_,zg_⟩
def spec_ttInputs.f (a0:Int):Option (Bool):=(spec_l1In.f a0 0 4).bind fun t112=>(some t112)
theorem spec_ttInputs.calls (a0:Int) (r:Bool) (w:World) (h:spec_ttInputs.f a0=some r) :
  Calls Tryd.prog 37 #[.int .i64 a0] w fun e w'=>e = .returned (.bool r)∧Drawn0 w w':=by
 have H:((spec_l1In.f a0 0 4).bind fun t112=>(some t112))=some r:=h
 clear h
 replace H:=oB.mp H
 obtain ⟨t112,A20,H⟩:=H
 replace H:(some t112)=some r:=H
 have A2:=aM A20
 clear A20
 obtain rfl:=Option.some.inj H
 go_enter Tryd.func37,Tryd.ntmps37
 go_wp2_with (first | ((with_reducible refine gate_callee (f:=26) rfl ?_);refine goesL_ (some 4) rfl rfl Tryd.func26 (by kernel_rfl) rfl #[.int .i64 a0,.int .i64 0,.int .i64 4] rfl zd_ ?_;(with_reducible refine (spec_l1In.calls a0 0 4 t112 _ A2.out).mono ?_);rintro e w' ⟨rfl,⟨nd,rfl⟩⟩;refine ⟨_,rfl,?_⟩))
 go_ret
 exact ⟨zc_,zg_⟩
def spec_l1All.l0:Nat→Int→Int→List Int→Int→Int→Option (Bool)
 | 0,_,_,_,_,_=>none
 | k+1,x1,x2,x9,x10,x11=>if x11<x10 then (if 0≤x11 then (if x11<(x9.length:Int) then ((spec_l1In.f (rd x9 x11) x1 x2).bind fun t114=>(if t114=true then (spec_l1All.l0 k x1 x2 x9 x10 (wrap64 (x11+1))) else (some false))) else (none)) else (none)) else (some true)
def spec_l1All.f (k:Nat) (l0:List Int) (a1:Int) (a2:Int):Option (Bool):=spec_l1All.l0 k a1 a2 l0 (l0.length:Int) 0
theorem spec_l1All.mono_l:∀ k,(∀ y0 y1 y2 y3 y4,LeO (spec_l1All.l0 k y0 y1 y2 y3 y4) (spec_l1All.l0 (k+1) y0 y1 y2 y3 y4))
 | 0=>fun _ _ _ _ _ r h=>by simp [spec_l1All.l0] at h
 | k+1=>by
  have ih0:=spec_l1All.mono_l k
  ·intro y0 y1 y2 y3 y4
   unfold spec_l1All.l0
   repeat' first
   | (with_reducible exact ih0 _ _ _ _ _)
   | (with_reducible exact LeO.refl _)
   | (with_reducible exact LeO.none _)
   | (with_reducible refine LeO.ite ?_ ?_)
   | (with_reducible refine LeO.bind ?_ (fun _=>?_))
   | exact ih0 _ _ _ _ _
   | exact LeO.none _
   | refine LeO.ite ?_ ?_
   | refine LeO.bind ?_ (fun _=>?_)
theorem spec_l1All.mono:∀ a0 a1 a2 k,LeO (spec_l1All.f k a0 a1 a2) (spec_l1All.f (k+1) a0 a1 a2):=by
 intro a0 a1 a2 k
 have ih0:=spec_l1All.mono_l k
 unfold spec_l1All.f
 repeat' first
   | (with_reducible exact ih0 _ _ _ _ _)
   | (with_reducible exact LeO.refl _)
   | (with_reducible exact LeO.none _)
   | (with_reducible refine LeO.ite ?_ ?_)
   | (with_reducible refine LeO.bind ?_ (fun _=>?_))
   | exact ih0 _ _ _ _ _
   | exact LeO.none _
   | refine LeO.ite ?_ ?_
   | refine LeO.bind ?_ (fun _=>?_)
theorem spec_l1All.calls (k:Nat) (A0:Option Addr) (c0:Nat) (l0:List Int) (a1:Int) (a2:Int) (r:Bool) (w:World) (hr0:Kd.C (Kd.int .i64) w A0 l0.length l0) (hc0:l0.length≤c0) (h:spec_l1All.f k l0 a1 a2=some r) :
  Calls Tryd.prog 38 #[.slice A0 l0.length c0,.int .i64 a1,.int .i64 a2] w fun e w'=>e = .returned (.bool r)∧Drawn0 w w':=by
 have HR0:=aM hr0
 have HC0:=aM hc0
 clear hr0 hc0
 have H:(spec_l1All.l0 k a1 a2 l0 (l0.length:Int) 0)=some r:=h
 clear h
 have H':=aM H
 clear H
 go_enter Tryd.func38,Tryd.ntmps38
 go_wp2
 go_loopg [11] k (fun kq v11 w' => ∃ (x11_1:Int),v11 = .int .i64 x11_1∧Aside0 (spec_l1All.l0 kq a1 a2 l0 (l0.length:Int) x11_1=some r)∧Aside0 (kq≤k)∧Drawn0 w w')
 case atStart=>exact ⟨(0),zc_,H',⟨Nat.le_refl _⟩,zg_⟩
 case round =>
  clear H';obtain ⟨x11_1,rfl,HA,HK1,⟨m1,rfl⟩⟩:=hrel
  cases gk with
  | zero=>exact absurd HA.out (by simp [spec_l1All.l0])
  | succ k1 =>
   have H:=HA.out;clear HA
   simp only [spec_l1All.l0] at H
   by_cases c4:x11_1<(l0.length:Int)
   ·rw [if_pos c4] at H
    have c4b0:=decide_eq_true c4;clear c4
    by_cases c5:0≤x11_1
    ·rw [if_pos c5] at H
     have c5b0:=decide_eq_true c5;clear c5
     by_cases c6:x11_1<(l0.length:Int)
     ·rw [if_pos c6] at H
      have c6b0:=decide_eq_true c6;clear c6;replace H:=oB.mp H;obtain ⟨t114,A70,H⟩:=H;replace H:(if t114=true then (spec_l1All.l0 k1 a1 a2 l0 (l0.length:Int) (wrap64 (x11_1+1))) else (some false))=some r:=H;have A7:=aM A70;clear A70
      by_cases c8:t114=true
      ·subst c8
       have H1:(spec_l1All.l0 k1 a1 a2 l0 (l0.length:Int) (wrap64 (x11_1+1)))=some r:=by rw [if_pos rfl] at H;exact H
       clear H;have H:=H1;clear H1;have H':=aM H;clear H;have p113:0≤(x11_1:Int):=of_decide_eq_true za_;have q113:x11_1<(l0.length:Int):=of_decide_eq_true za_;obtain ⟨ad113,e113,hx113_0⟩:=Kd.at_int HR0.out x11_1 p113 q113
       cases e113
       replace p113:=eq_true p113;replace q113:=eq_true q113
       go_wp2_with (first | ((with_reducible refine gate_callee (f:=26) rfl ?_);refine goesL_ (some 18) rfl rfl Tryd.func26 (by kernel_rfl) rfl #[.int .i64 (rd l0 x11_1),.int .i64 a1,.int .i64 a2] rfl zd_ ?_;(with_reducible refine (spec_l1In.calls (rd l0 x11_1) a1 a2 true _ A7.out).mono ?_);rintro e w' ⟨rfl,⟨nd,rfl⟩⟩;refine ⟨_,rfl,?_⟩))
       go_roundg k1
       case measure=>have:=HK1.out;omega
       case rel=>exact ⟨(wrap64 (x11_1+1)),zc_,H',⟨zbd_⟩,zg_⟩
      ·replace c8:=Bool.eq_false_iff.mpr c8
       subst c8;have H1:(some false)=some r:=by rw [if_neg (show ¬ (false=true) by decide)] at H;exact H
       clear H;have H:=H1;clear H1;obtain rfl:=Option.some.inj H;have p113:0≤(x11_1:Int):=of_decide_eq_true za_;have q113:x11_1<(l0.length:Int):=of_decide_eq_true za_;obtain ⟨ad113,e113,hx113_0⟩:=Kd.at_int HR0.out x11_1 p113 q113
       cases e113
       replace p113:=eq_true p113;replace q113:=eq_true q113
       go_wp2_with (first | ((with_reducible refine gate_callee (f:=26) rfl ?_);refine goesL_ (some 18) rfl rfl Tryd.func26 (by kernel_rfl) rfl #[.int .i64 (rd l0 x11_1),.int .i64 a1,.int .i64 a2] rfl zd_ ?_;(with_reducible refine (spec_l1In.calls (rd l0 x11_1) a1 a2 false _ A7.out).mono ?_);rintro e w' ⟨rfl,⟨nd,rfl⟩⟩;refine ⟨_,rfl,?_⟩))
       go_ret
       exact ⟨zc_,zg_⟩
     ·rw [if_neg c6] at H
      exact q3n_ H
    ·rw [if_neg c5] at H
     exact q3n_ H
   ·rw [if_neg c4] at H
    have c4b0:=decide_eq_false c4;clear c4;obtain rfl:=Option.some.inj H
    go_wp2
    go_ret
    exact ⟨zc_,zg_⟩
def spec_ciGood.l0:Nat→List (S47)→Int→Int→Int→List (S47)→List Int→Option (Bool)
 | 0,_,_,_,_,_,_=>none
 | k+1,x7,x8,x9,x116000,x116001,x116002=>if x9<x8 then (if 0≤x9 then (if x9<(x7.length:Int) then ((spec_l1In.f ((rd_T47 x7 x9).f0) 1 4).bind fun t121=>(if t121=true then ((spec_l1In.f ((rd_T47 x7 x9).f1) 0 (wrap64 ((wrap64 (x116000+x9)) - 1))).bind fun t122=>(if t122=true then ((spec_l1In.f ((rd_T47 x7 x9).f2) 0 (wrap64 ((wrap64 (x116000+x9)) - 1))).bind fun t123=>(if t123=true then (if ((rd_T47 x7 x9).f0)=4 then (if ((rd_T47 x7 x9).f2)=((rd_T47 x7 x9).f1) then (spec_ciGood.l0 k x7 x8 (wrap64 (x9+1)) x116000 x116001 x116002) else (some false)) else (spec_ciGood.l0 k x7 x8 (wrap64 (x9+1)) x116000 x116001 x116002)) else (some false))) else (some false))) else (some false))) else (none)) else (none)) else ((spec_ttInputs.f x116000).bind fun t116=>(if t116=true then (if (x116001.length:Int)≤16 then ((spec_l1In.f (x116002.length:Int) 1 4).bind fun t117=>(if t117=true then ((spec_l1All.f k x116002 0 (wrap64 ((wrap64 (x116000+(x116001.length:Int))) - 1))).bind fun t118=>(some t118)) else (some false))) else (some false)) else (some false)))
def spec_ciGood.f (k:Nat) (a0_0:Int) (l0_1:List (S47)) (l0_2:List Int):Option (Bool):=spec_ciGood.l0 k l0_1 (l0_1.length:Int) 0 a0_0 l0_1 l0_2
theorem spec_ciGood.mono_l:∀ k,(∀ y0 y1 y2 y3 y4 y5,LeO (spec_ciGood.l0 k y0 y1 y2 y3 y4 y5) (spec_ciGood.l0 (k+1) y0 y1 y2 y3 y4 y5))
 | 0=>fun _ _ _ _ _ _ r h=>by simp [spec_ciGood.l0] at h
 | k+1=>by
  have ih0:=spec_ciGood.mono_l k
  ·intro y0 y1 y2 y3 y4 y5
   unfold spec_ciGood.l0
   repeat' first
   | (with_reducible exact ih0 _ _ _ _ _ _)
   | (with_reducible exact spec_l1All.mono _ _ _ _)
   | (with_reducible exact LeO.refl _)
   | (with_reducible exact LeO.none _)
   | (with_reducible refine LeO.ite ?_ ?_)
   | (with_reducible refine LeO.bind ?_ (fun _=>?_))
   | exact ih0 _ _ _ _ _ _
   | exact spec_l1All.mono _ _ _ _
   | exact LeO.none _
   | refine LeO.ite ?_ ?_
   | refine LeO.bind ?_ (fun _=>?_)
theorem spec_ciGood.mono:∀ a0 a1 a2 k,LeO (spec_ciGood.f k a0 a1 a2) (spec_ciGood.f (k+1) a0 a1 a2):=by
 intro a0 a1 a2 k
 have ih0:=spec_ciGood.mono_l k
 unfold spec_ciGood.f
 repeat' first
   | (with_reducible exact ih0 _ _ _ _ _ _)
   | (with_reducible exact spec_l1All.mono _ _ _ _)
   | (with_reducible exact LeO.refl _)
   | (with_reducible exact LeO.none _)
   | (with_reducible refine LeO.ite ?_ ?_)
   | (with_reducible refine LeO.bind ?_ (fun _=>?_))
   | exact ih0 _ _ _ _ _ _
   | exact spec_l1All.mono _ _ _ _
   | exact LeO.none _
   | refine LeO.ite ?_ ?_
   | refine LeO.bind ?_ (fun _=>?_)
theorem spec_ciGood.calls (k:Nat) (a0_0:Int) (A0_1:Option Addr) (c0_1:Nat) (l0_1:List (S47)) (A0_2:Option Addr) (c0_2:Nat) (l0_2:List Int) (r:Bool) (w:World) (hr0_1:Kd.C k47 w A0_1 l0_1.length l0_1) (hc0_1:l0_1.length≤c0_1) (hr0_2:Kd.C (Kd.int .i64) w A0_2 l0_2.length l0_2) (hc0_2:l0_2.length≤c0_2) (h:spec_ciGood.f k a0_0 l0_1 l0_2=some r) :
  Calls Tryd.prog 16 #[.agg #[.int .i64 a0_0,.slice A0_1 l0_1.length c0_1,.slice A0_2 l0_2.length c0_2]] w fun e w'=>e = .returned (.bool r)∧Below w.heap.size w w':=by
 have hu31:=Tryd.underlying31
 have hu47:=Tryd.underlying47
 have HR0_1:=aM hr0_1
 have HC0_1:=aM hc0_1
 clear hr0_1 hc0_1
 have HR0_2:=aM hr0_2
 have HC0_2:=aM hc0_2
 clear hr0_2 hc0_2
 have HB:=aM (Below.refl w.heap.size w)
 have H:(spec_ciGood.l0 k l0_1 (l0_1.length:Int) 0 a0_0 l0_1 l0_2)=some r:=h
 clear h
 have H':=aM H
 clear H
 go_enter Tryd.func16,Tryd.ntmps16
 go_wp2_with (first | ((with_reducible refine gate_dst (N:=1) rfl ?_);(try (refine gate_guard (by rfl) ?_;dsimp only));refine box_event ?hg (N:=1) ?hd (cs:=#[.int .i64 a0_0,.slice A0_1 l0_1.length c0_1,.slice A0_2 l0_2.length c0_2]) (t:=31) ?hr ?_;(case hd=>rfl);(case hg=>rfl);(case hr=>exact ze_);intro gb115 hg w2 hbox hb;have n_:=z (below_step zb_ hb)<|z (hbox)<|z ((by rw [hg];exact (below_size zb_):w.heap.size≤gb115))<|z1 ((by rw [hg];exact (below_size zb_):w.heap.size≤gb115));clear HB;obtain ⟨HB,BK115,GW115,GE115⟩:=n_;clear hb hbox hg;obtain ⟨hcz3_0,hcz3_1,hcz3_2,hfz3_0,hfz3_1,hfz3_2⟩:=zk3 BK115.out))
 go_loopg [9] k (fun kq v9 w' => ∃ (x9_1:Int),v9 = .int .i64 x9_1∧Aside0 (spec_ciGood.l0 kq l0_1 (l0_1.length:Int) x9_1 a0_0 l0_1 l0_2=some r)∧Aside0 (kq≤k)∧Aside0 (w'.heap[gb115]?=some (.cells #[.int .i64 a0_0,(.slice A0_1 l0_1.length c0_1),(.slice A0_2 l0_2.length c0_2)] 31 (0,0)))∧Aside0 (Below w.heap.size w w'))
 case atStart=>exact ⟨(0),zc_,H',⟨Nat.le_refl _⟩,⟨zb BK115.out⟩,⟨zba_⟩⟩
 case round =>
  clear H';(try clear hcz3_0);(try clear hcz3_1);(try clear hcz3_2);(try clear hfz3_0);(try clear hfz3_1);(try clear hfz3_2);obtain ⟨x9_1,rfl,HA,HK1,BK115,HB⟩:=hrel
  cases gk with
  | zero=>exact absurd HA.out (by simp [spec_ciGood.l0])
  | succ k1 =>
   have H:=HA.out;clear HA
   simp only [spec_ciGood.l0] at H
   by_cases c4:x9_1<(l0_1.length:Int)
   ·rw [if_pos c4] at H
    have c4b0:=decide_eq_true c4;clear c4
    by_cases c5:0≤x9_1
    ·rw [if_pos c5] at H
     have c5b0:=decide_eq_true c5;clear c5
     by_cases c6:x9_1<(l0_1.length:Int)
     ·rw [if_pos c6] at H
      have c6b0:=decide_eq_true c6;clear c6;replace H:=oB.mp H;obtain ⟨t121,A70,H⟩:=H;replace H:(if t121=true then ((spec_l1In.f ((rd_T47 l0_1 x9_1).f1) 0 (wrap64 ((wrap64 (a0_0+x9_1)) - 1))).bind fun t122=>(if t122=true then ((spec_l1In.f ((rd_T47 l0_1 x9_1).f2) 0 (wrap64 ((wrap64 (a0_0+x9_1)) - 1))).bind fun t123=>(if t123=true then (if ((rd_T47 l0_1 x9_1).f0)=4 then (if ((rd_T47 l0_1 x9_1).f2)=((rd_T47 l0_1 x9_1).f1) then (spec_ciGood.l0 k1 l0_1 (l0_1.length:Int) (wrap64 (x9_1+1)) a0_0 l0_1 l0_2) else (some false)) else (spec_ciGood.l0 k1 l0_1 (l0_1.length:Int) (wrap64 (x9_1+1)) a0_0 l0_1 l0_2)) else (some false))) else (some false))) else (some false))=some r:=H;have A7:=aM A70;clear A70
      by_cases c8:t121=true
      ·subst c8
       have H1:((spec_l1In.f ((rd_T47 l0_1 x9_1).f1) 0 (wrap64 ((wrap64 (a0_0+x9_1)) - 1))).bind fun t122=>(if t122=true then ((spec_l1In.f ((rd_T47 l0_1 x9_1).f2) 0 (wrap64 ((wrap64 (a0_0+x9_1)) - 1))).bind fun t123=>(if t123=true then (if ((rd_T47 l0_1 x9_1).f0)=4 then (if ((rd_T47 l0_1 x9_1).f2)=((rd_T47 l0_1 x9_1).f1) then (spec_ciGood.l0 k1 l0_1 (l0_1.length:Int) (wrap64 (x9_1+1)) a0_0 l0_1 l0_2) else (some false)) else (spec_ciGood.l0 k1 l0_1 (l0_1.length:Int) (wrap64 (x9_1+1)) a0_0 l0_1 l0_2)) else (some false))) else (some false)))=some r:=by rw [if_pos rfl] at H;exact H
       clear H;have H:=H1;clear H1;replace H:=oB.mp H;obtain ⟨t122,A90,H⟩:=H;replace H:(if t122=true then ((spec_l1In.f ((rd_T47 l0_1 x9_1).f2) 0 (wrap64 ((wrap64 (a0_0+x9_1)) - 1))).bind fun t123=>(if t123=true then (if ((rd_T47 l0_1 x9_1).f0)=4 then (if ((rd_T47 l0_1 x9_1).f2)=((rd_T47 l0_1 x9_1).f1) then (spec_ciGood.l0 k1 l0_1 (l0_1.length:Int) (wrap64 (x9_1+1)) a0_0 l0_1 l0_2) else (some false)) else (spec_ciGood.l0 k1 l0_1 (l0_1.length:Int) (wrap64 (x9_1+1)) a0_0 l0_1 l0_2)) else (some false))) else (some false))=some r:=H;have A9:=aM A90;clear A90
       by_cases c10:t122=true
       ·subst c10
        have H1:((spec_l1In.f ((rd_T47 l0_1 x9_1).f2) 0 (wrap64 ((wrap64 (a0_0+x9_1)) - 1))).bind fun t123=>(if t123=true then (if ((rd_T47 l0_1 x9_1).f0)=4 then (if ((rd_T47 l0_1 x9_1).f2)=((rd_T47 l0_1 x9_1).f1) then (spec_ciGood.l0 k1 l0_1 (l0_1.length:Int) (wrap64 (x9_1+1)) a0_0 l0_1 l0_2) else (some false)) else (spec_ciGood.l0 k1 l0_1 (l0_1.length:Int) (wrap64 (x9_1+1)) a0_0 l0_1 l0_2)) else (some false)))=some r:=by rw [if_pos rfl] at H;exact H
        clear H;have H:=H1;clear H1;replace H:=oB.mp H;obtain ⟨t123,A110,H⟩:=H;replace H:(if t123=true then (if ((rd_T47 l0_1 x9_1).f0)=4 then (if ((rd_T47 l0_1 x9_1).f2)=((rd_T47 l0_1 x9_1).f1) then (spec_ciGood.l0 k1 l0_1 (l0_1.length:Int) (wrap64 (x9_1+1)) a0_0 l0_1 l0_2) else (some false)) else (spec_ciGood.l0 k1 l0_1 (l0_1.length:Int) (wrap64 (x9_1+1)) a0_0 l0_1 l0_2)) else (some false))=some r:=H;have A11:=aM A110;clear A110
        by_cases c12:t123=true
        ·subst c12
         have H1:(if ((rd_T47 l0_1 x9_1).f0)=4 then (if ((rd_T47 l0_1 x9_1).f2)=((rd_T47 l0_1 x9_1).f1) then (spec_ciGood.l0 k1 l0_1 (l0_1.length:Int) (wrap64 (x9_1+1)) a0_0 l0_1 l0_2) else (some false)) else (spec_ciGood.l0 k1 l0_1 (l0_1.length:Int) (wrap64 (x9_1+1)) a0_0 l0_1 l0_2))=some r:=by rw [if_pos rfl] at H;exact H
         clear H;have H:=H1;clear H1
         by_cases c13:((rd_T47 l0_1 x9_1).f0)=4
         ·rw [if_pos c13] at H
          have c13b0:=beq_iff_eq.mpr c13;have c13b1:=bne_eq_false_iff_eq.mpr c13;clear c13
          by_cases c14:((rd_T47 l0_1 x9_1).f2)=((rd_T47 l0_1 x9_1).f1)
          ·rw [if_pos c14] at H
           have c14b0:=beq_iff_eq.mpr c14;have c14b1:=bne_eq_false_iff_eq.mpr c14;clear c14;have H':=aM H;clear H;have p119:0≤(x9_1:Int):=of_decide_eq_true za_;have q119:x9_1<(l0_1.length:Int):=of_decide_eq_true za_;obtain ⟨ad119,e119,hx119_0,hx119_1,hx119_2⟩:=at_T47 HR0_1.out x9_1 p119 q119
           cases e119
           (try (replace hx119_0:=q3h_ HB.out hx119_0));(try (replace hx119_1:=q3h_ HB.out hx119_1));(try (replace hx119_2:=q3h_ HB.out hx119_2));replace p119:=eq_true p119;replace q119:=eq_true q119
           go_wp2_with (first | ((with_reducible refine gate_dst (N:=4) rfl ?_);(try (refine gate_guard (by rfl) ?_;dsimp only));refine box_event ?hg (N:=4) ?hd (cs:=#[.int .i64 0,.int .i64 0,.int .i64 0]) (t:=47) ?hr ?_;(case hd=>rfl);(case hg=>rfl);(case hr=>exact ze_);intro gb120 hg w15 hbox hb;have n_:=z (blk_below (zb BK115.out) hb)<|z (below_step zba_ hb)<|z (hbox)<|z ((by rw [hg];exact (below_size zba_):w.heap.size≤gb120))<|z ((by rw [hg];exact (below_size zba_):w.heap.size≤gb120))<|z ((by rw [hg];exact Nat.ne_of_lt (blk_lt (zb BK115.out)):gb115≠gb120))<|z1 ((by rw [hg];exact Nat.ne_of_gt (blk_lt (zb BK115.out)):gb120≠gb115));clear BK115 HB;obtain ⟨BK115,HB,BK120,GW120,GE120,NB115_120,NB120_115⟩:=n_;clear hb hbox hg;have hnb16:=NB120_115.out;have hnc16:=NB115_120.out;obtain ⟨hcz17_0,hcz17_1,hcz17_2,hfz17_0,hfz17_1,hfz17_2⟩:=zk3 BK120.out;obtain ⟨hcz18_0,hcz18_1,hcz18_2,hfz18_0,hfz18_1,hfz18_2⟩:=zk3 BK115.out)|((with_reducible refine gate_callee (f:=26) rfl ?_);refine goesL_ (some 20) rfl rfl Tryd.func26 (by kernel_rfl) rfl #[.int .i64 ((rd_T47 l0_1 x9_1).f0),.int .i64 1,.int .i64 4] rfl zd_ ?_;(with_reducible refine (spec_l1In.calls ((rd_T47 l0_1 x9_1).f0) 1 4 true _ A7.out).mono ?_);rintro e w' ⟨rfl,⟨nd,rfl⟩⟩;refine ⟨_,rfl,?_⟩)|(go_at_call 26;(with_reducible refine (spec_l1In.calls ((rd_T47 l0_1 x9_1).f1) 0 (wrap64 ((wrap64 (a0_0+x9_1)) - 1)) true _ A9.out).mono ?_);rintro e w' ⟨rfl,⟨nd,rfl⟩⟩)|(go_at_call 26;(with_reducible refine (spec_l1In.calls ((rd_T47 l0_1 x9_1).f2) 0 (wrap64 ((wrap64 (a0_0+x9_1)) - 1)) true _ A11.out).mono ?_);rintro e w' ⟨rfl,⟨nd,rfl⟩⟩))
           go_roundg k1
           case measure=>have:=HK1.out;omega
           case rel=>exact ⟨(wrap64 (x9_1+1)),zc_,H',⟨zbd_⟩,⟨by refine zb ?_;refine blk_far ?_ NB115_120.out _;refine zb ?_;refine blk_far ?_ NB115_120.out _;refine zb ?_;refine blk_far ?_ NB115_120.out _;refine zb ?_;exact BK115.out⟩,⟨zde_⟩⟩
          ·rw [if_neg c14] at H
           have c14b0:=beq_eq_false_iff_ne.mpr c14;have c14b1:=bne_iff_ne.mpr c14;obtain rfl:=Option.some.inj H;have p119:0≤(x9_1:Int):=of_decide_eq_true za_;have q119:x9_1<(l0_1.length:Int):=of_decide_eq_true za_;obtain ⟨ad119,e119,hx119_0,hx119_1,hx119_2⟩:=at_T47 HR0_1.out x9_1 p119 q119
           cases e119
           (try (replace hx119_0:=q3h_ HB.out hx119_0));(try (replace hx119_1:=q3h_ HB.out hx119_1));(try (replace hx119_2:=q3h_ HB.out hx119_2));replace p119:=eq_true p119;replace q119:=eq_true q119
           go_wp2_with (first | ((with_reducible refine gate_dst (N:=4) rfl ?_);(try (refine gate_guard (by rfl) ?_;dsimp only));refine box_event ?hg (N:=4) ?hd (cs:=#[.int .i64 0,.int .i64 0,.int .i64 0]) (t:=47) ?hr ?_;(case hd=>rfl);(case hg=>rfl);(case hr=>exact ze_);intro gb120 hg w19 hbox hb;have n_:=z (blk_below (zb BK115.out) hb)<|z (below_step zba_ hb)<|z (hbox)<|z ((by rw [hg];exact (below_size zba_):w.heap.size≤gb120))<|z ((by rw [hg];exact (below_size zba_):w.heap.size≤gb120))<|z ((by rw [hg];exact Nat.ne_of_lt (blk_lt (zb BK115.out)):gb115≠gb120))<|z1 ((by rw [hg];exact Nat.ne_of_gt (blk_lt (zb BK115.out)):gb120≠gb115));clear BK115 HB;obtain ⟨BK115,HB,BK120,GW120,GE120,NB115_120,NB120_115⟩:=n_;clear hb hbox hg;have hnb20:=NB120_115.out;have hnc20:=NB115_120.out;obtain ⟨hcz21_0,hcz21_1,hcz21_2,hfz21_0,hfz21_1,hfz21_2⟩:=zk3 BK120.out;obtain ⟨hcz22_0,hcz22_1,hcz22_2,hfz22_0,hfz22_1,hfz22_2⟩:=zk3 BK115.out)|((with_reducible refine gate_callee (f:=26) rfl ?_);refine goesL_ (some 20) rfl rfl Tryd.func26 (by kernel_rfl) rfl #[.int .i64 ((rd_T47 l0_1 x9_1).f0),.int .i64 1,.int .i64 4] rfl zd_ ?_;(with_reducible refine (spec_l1In.calls ((rd_T47 l0_1 x9_1).f0) 1 4 true _ A7.out).mono ?_);rintro e w' ⟨rfl,⟨nd,rfl⟩⟩;refine ⟨_,rfl,?_⟩)|(go_at_call 26;(with_reducible refine (spec_l1In.calls ((rd_T47 l0_1 x9_1).f1) 0 (wrap64 ((wrap64 (a0_0+x9_1)) - 1)) true _ A9.out).mono ?_);rintro e w' ⟨rfl,⟨nd,rfl⟩⟩)|(go_at_call 26;(with_reducible refine (spec_l1In.calls ((rd_T47 l0_1 x9_1).f2) 0 (wrap64 ((wrap64 (a0_0+x9_1)) - 1)) true _ A11.out).mono ?_);rintro e w' ⟨rfl,⟨nd,rfl⟩⟩))
           go_ret
           exact ⟨zf_,zde_⟩
         ·rw [if_neg c13] at H
          have c13b0:=beq_eq_false_iff_ne.mpr c13;have c13b1:=bne_iff_ne.mpr c13;have H':=aM H;clear H;have p119:0≤(x9_1:Int):=of_decide_eq_true za_;have q119:x9_1<(l0_1.length:Int):=of_decide_eq_true za_;obtain ⟨ad119,e119,hx119_0,hx119_1,hx119_2⟩:=at_T47 HR0_1.out x9_1 p119 q119
          cases e119
          (try (replace hx119_0:=q3h_ HB.out hx119_0));(try (replace hx119_1:=q3h_ HB.out hx119_1));(try (replace hx119_2:=q3h_ HB.out hx119_2));replace p119:=eq_true p119;replace q119:=eq_true q119
          go_wp2_with (first | ((with_reducible refine gate_dst (N:=4) rfl ?_);(try (refine gate_guard (by rfl) ?_;dsimp only));refine box_event ?hg (N:=4) ?hd (cs:=#[.int .i64 0,.int .i64 0,.int .i64 0]) (t:=47) ?hr ?_;(case hd=>rfl);(case hg=>rfl);(case hr=>exact ze_);intro gb120 hg w23 hbox hb;have n_:=z (blk_below (zb BK115.out) hb)<|z (below_step zba_ hb)<|z (hbox)<|z ((by rw [hg];exact (below_size zba_):w.heap.size≤gb120))<|z ((by rw [hg];exact (below_size zba_):w.heap.size≤gb120))<|z ((by rw [hg];exact Nat.ne_of_lt (blk_lt (zb BK115.out)):gb115≠gb120))<|z1 ((by rw [hg];exact Nat.ne_of_gt (blk_lt (zb BK115.out)):gb120≠gb115));clear BK115 HB;obtain ⟨BK115,HB,BK120,GW120,GE120,NB115_120,NB120_115⟩:=n_;clear hb hbox hg;have hnb24:=NB120_115.out;have hnc24:=NB115_120.out;obtain ⟨hcz25_0,hcz25_1,hcz25_2,hfz25_0,hfz25_1,hfz25_2⟩:=zk3 BK120.out;obtain ⟨hcz26_0,hcz26_1,hcz26_2,hfz26_0,hfz26_1,hfz26_2⟩:=zk3 BK115.out)|((with_reducible refine gate_callee (f:=26) rfl ?_);refine goesL_ (some 20) rfl rfl Tryd.func26 (by kernel_rfl) rfl #[.int .i64 ((rd_T47 l0_1 x9_1).f0),.int .i64 1,.int .i64 4] rfl zd_ ?_;(with_reducible refine (spec_l1In.calls ((rd_T47 l0_1 x9_1).f0) 1 4 true _ A7.out).mono ?_);rintro e w' ⟨rfl,⟨nd,rfl⟩⟩;refine ⟨_,rfl,?_⟩)|(go_at_call 26;(with_reducible refine (spec_l1In.calls ((rd_T47 l0_1 x9_1).f1) 0 (wrap64 ((wrap64 (a0_0+x9_1)) - 1)) true _ A9.out).mono ?_);rintro e w' ⟨rfl,⟨nd,rfl⟩⟩)|(go_at_call 26;(with_reducible refine (spec_l1In.calls ((rd_T47 l0_1 x9_1).f2) 0 (wrap64 ((wrap64 (a0_0+x9_1)) - 1)) true _ A11.out).mono ?_);rintro e w' ⟨rfl,⟨nd,rfl⟩⟩))
          go_roundg k1
          case measure=>have:=HK1.out;omega
          case rel=>exact ⟨(wrap64 (x9_1+1)),zc_,H',⟨zbd_⟩,⟨by refine zb ?_;refine blk_far ?_ NB115_120.out _;refine zb ?_;refine blk_far ?_ NB115_120.out _;refine zb ?_;refine blk_far ?_ NB115_120.out _;refine zb ?_;exact BK115.out⟩,⟨zde_⟩⟩
        ·replace c12:=Bool.eq_false_iff.mpr c12
         subst c12;have H1:(some false)=some r:=by rw [if_neg (show ¬ (false=true) by decide)] at H;exact H
         clear H;have H:=H1;clear H1;obtain rfl:=Option.some.inj H;have p119:0≤(x9_1:Int):=of_decide_eq_true za_;have q119:x9_1<(l0_1.length:Int):=of_decide_eq_true za_;obtain ⟨ad119,e119,hx119_0,hx119_1,hx119_2⟩:=at_T47 HR0_1.out x9_1 p119 q119
         cases e119
         (try (replace hx119_0:=q3h_ HB.out hx119_0));(try (replace hx119_1:=q3h_ HB.out hx119_1));(try (replace hx119_2:=q3h_ HB.out hx119_2));replace p119:=eq_true p119;replace q119:=eq_true q119
         go_wp2_with (first | ((with_reducible refine gate_dst (N:=4) rfl ?_);(try (refine gate_guard (by rfl) ?_;dsimp only));refine box_event ?hg (N:=4) ?hd (cs:=#[.int .i64 0,.int .i64 0,.int .i64 0]) (t:=47) ?hr ?_;(case hd=>rfl);(case hg=>rfl);(case hr=>exact ze_);intro gb120 hg w27 hbox hb;have n_:=z (blk_below (zb BK115.out) hb)<|z (below_step zba_ hb)<|z (hbox)<|z ((by rw [hg];exact (below_size zba_):w.heap.size≤gb120))<|z ((by rw [hg];exact (below_size zba_):w.heap.size≤gb120))<|z ((by rw [hg];exact Nat.ne_of_lt (blk_lt (zb BK115.out)):gb115≠gb120))<|z1 ((by rw [hg];exact Nat.ne_of_gt (blk_lt (zb BK115.out)):gb120≠gb115));clear BK115 HB;obtain ⟨BK115,HB,BK120,GW120,GE120,NB115_120,NB120_115⟩:=n_;clear hb hbox hg;have hnb28:=NB120_115.out;have hnc28:=NB115_120.out;obtain ⟨hcz29_0,hcz29_1,hcz29_2,hfz29_0,hfz29_1,hfz29_2⟩:=zk3 BK120.out;obtain ⟨hcz30_0,hcz30_1,hcz30_2,hfz30_0,hfz30_1,hfz30_2⟩:=zk3 BK115.out)|((with_reducible refine gate_callee (f:=26) rfl ?_);refine goesL_ (some 20) rfl rfl Tryd.func26 (by kernel_rfl) rfl #[.int .i64 ((rd_T47 l0_1 x9_1).f0),.int .i64 1,.int .i64 4] rfl zd_ ?_;(with_reducible refine (spec_l1In.calls ((rd_T47 l0_1 x9_1).f0) 1 4 true _ A7.out).mono ?_);rintro e w' ⟨rfl,⟨nd,rfl⟩⟩;refine ⟨_,rfl,?_⟩)|(go_at_call 26;(with_reducible refine (spec_l1In.calls ((rd_T47 l0_1 x9_1).f1) 0 (wrap64 ((wrap64 (a0_0+x9_1)) - 1)) true _ A9.out).mono ?_);rintro e w' ⟨rfl,⟨nd,rfl⟩⟩)|(go_at_call 26;(with_reducible refine (spec_l1In.calls ((rd_T47 l0_1 x9_1).f2) 0 (wrap64 ((wrap64 (a0_0+x9_1)) - 1)) false _ A11.out).mono ?_);rintro e w' ⟨rfl,⟨nd,rfl⟩⟩))
         go_ret
         exact ⟨zf_,zde_⟩
       ·replace c10:=Bool.eq_false_iff.mpr c10
        subst c10;have H1:(some false)=some r:=by rw [if_neg (show ¬ (false=true) by decide)] at H;exact H
        clear H;have H:=H1;clear H1;obtain rfl:=Option.some.inj H;have p119:0≤(x9_1:Int):=of_decide_eq_true za_;have q119:x9_1<(l0_1.length:Int):=of_decide_eq_true za_;obtain ⟨ad119,e119,hx119_0,hx119_1,hx119_2⟩:=at_T47 HR0_1.out x9_1 p119 q119
        cases e119
        (try (replace hx119_0:=q3h_ HB.out hx119_0));(try (replace hx119_1:=q3h_ HB.out hx119_1));(try (replace hx119_2:=q3h_ HB.out hx119_2));replace p119:=eq_true p119;replace q119:=eq_true q119
        go_wp2_with (first | ((with_reducible refine gate_dst (N:=4) rfl ?_);(try (refine gate_guard (by rfl) ?_;dsimp only));refine box_event ?hg (N:=4) ?hd (cs:=#[.int .i64 0,.int .i64 0,.int .i64 0]) (t:=47) ?hr ?_;(case hd=>rfl);(case hg=>rfl);(case hr=>exact ze_);intro gb120 hg w31 hbox hb;have n_:=z (blk_below (zb BK115.out) hb)<|z (below_step zba_ hb)<|z (hbox)<|z ((by rw [hg];exact (below_size zba_):w.heap.size≤gb120))<|z ((by rw [hg];exact (below_size zba_):w.heap.size≤gb120))<|z ((by rw [hg];exact Nat.ne_of_lt (blk_lt (zb BK115.out)):gb115≠gb120))<|z1 ((by rw [hg];exact Nat.ne_of_gt (blk_lt (zb BK115.out)):gb120≠gb115));clear BK115 HB;obtain ⟨BK115,HB,BK120,GW120,GE120,NB115_120,NB120_115⟩:=n_;clear hb hbox hg;have hnb32:=NB120_115.out;have hnc32:=NB115_120.out;obtain ⟨hcz33_0,hcz33_1,hcz33_2,hfz33_0,hfz33_1,hfz33_2⟩:=zk3 BK120.out;obtain ⟨hcz34_0,hcz34_1,hcz34_2,hfz34_0,hfz34_1,hfz34_2⟩:=zk3 BK115.out)|((with_reducible refine gate_callee (f:=26) rfl ?_);refine goesL_ (some 20) rfl rfl Tryd.func26 (by kernel_rfl) rfl #[.int .i64 ((rd_T47 l0_1 x9_1).f0),.int .i64 1,.int .i64 4] rfl zd_ ?_;(with_reducible refine (spec_l1In.calls ((rd_T47 l0_1 x9_1).f0) 1 4 true _ A7.out).mono ?_);rintro e w' ⟨rfl,⟨nd,rfl⟩⟩;refine ⟨_,rfl,?_⟩)|(go_at_call 26;(with_reducible refine (spec_l1In.calls ((rd_T47 l0_1 x9_1).f1) 0 (wrap64 ((wrap64 (a0_0+x9_1)) - 1)) false _ A9.out).mono ?_);rintro e w' ⟨rfl,⟨nd,rfl⟩⟩))
        go_ret
        exact ⟨zf_,zde_⟩
      ·replace c8:=Bool.eq_false_iff.mpr c8
       subst c8;have H1:(some false)=some r:=by rw [if_neg (show ¬ (false=true) by decide)] at H;exact H
       clear H;have H:=H1;clear H1;obtain rfl:=Option.some.inj H;have p119:0≤(x9_1:Int):=of_decide_eq_true za_;have q119:x9_1<(l0_1.length:Int):=of_decide_eq_true za_;obtain ⟨ad119,e119,hx119_0,hx119_1,hx119_2⟩:=at_T47 HR0_1.out x9_1 p119 q119
       cases e119
       (try (replace hx119_0:=q3h_ HB.out hx119_0));(try (replace hx119_1:=q3h_ HB.out hx119_1));(try (replace hx119_2:=q3h_ HB.out hx119_2));replace p119:=eq_true p119;replace q119:=eq_true q119
       go_wp2_with (first | ((with_reducible refine gate_dst (N:=4) rfl ?_);(try (refine gate_guard (by rfl) ?_;dsimp only));refine box_event ?hg (N:=4) ?hd (cs:=#[.int .i64 0,.int .i64 0,.int .i64 0]) (t:=47) ?hr ?_;(case hd=>rfl);(case hg=>rfl);(case hr=>exact ze_);intro gb120 hg w35 hbox hb;have n_:=z (blk_below (zb BK115.out) hb)<|z (below_step zba_ hb)<|z (hbox)<|z ((by rw [hg];exact (below_size zba_):w.heap.size≤gb120))<|z ((by rw [hg];exact (below_size zba_):w.heap.size≤gb120))<|z ((by rw [hg];exact Nat.ne_of_lt (blk_lt (zb BK115.out)):gb115≠gb120))<|z1 ((by rw [hg];exact Nat.ne_of_gt (blk_lt (zb BK115.out)):gb120≠gb115));clear BK115 HB;obtain ⟨BK115,HB,BK120,GW120,GE120,NB115_120,NB120_115⟩:=n_;clear hb hbox hg;have hnb36:=NB120_115.out;have hnc36:=NB115_120.out;obtain ⟨hcz37_0,hcz37_1,hcz37_2,hfz37_0,hfz37_1,hfz37_2⟩:=zk3 BK120.out;obtain ⟨hcz38_0,hcz38_1,hcz38_2,hfz38_0,hfz38_1,hfz38_2⟩:=zk3 BK115.out)|((with_reducible refine gate_callee (f:=26) rfl ?_);refine goesL_ (some 20) rfl rfl Tryd.func26 (by kernel_rfl) rfl #[.int .i64 ((rd_T47 l0_1 x9_1).f0),.int .i64 1,.int .i64 4] rfl zd_ ?_;(with_reducible refine (spec_l1In.calls ((rd_T47 l0_1 x9_1).f0) 1 4 false _ A7.out).mono ?_);rintro e w' ⟨rfl,⟨nd,rfl⟩⟩;refine ⟨_,rfl,?_⟩))
       go_ret
       exact ⟨zf_,zde_⟩
     ·rw [if_neg c6] at H
      exact q3n_ H
    ·rw [if_neg c5] at H
     exact q3n_ H
   ·rw [if_neg c4] at H
    have c4b0:=decide_eq_false c4;clear c4;replace H:=oB.mp H;obtain ⟨t116,A390,H⟩:=H;replace H:(if t116=true then (if (l0_1.length:Int)≤16 then ((spec_l1In.f (l0_2.length:Int) 1 4).bind fun t117=>(if t117=true then ((spec_l1All.f k1 l0_2 0 (wrap64 ((wrap64 (a0_0+(l0_1.length:Int))) - 1))).bind fun t118=>(some t118)) else (some false))) else (some false)) else (some false))=some r:=H;have A39:=aM A390;clear A390
    by_cases c40:t116=true
    ·subst c40
     have H1:(if (l0_1.length:Int)≤16 then ((spec_l1In.f (l0_2.length:Int) 1 4).bind fun t117=>(if t117=true then ((spec_l1All.f k1 l0_2 0 (wrap64 ((wrap64 (a0_0+(l0_1.length:Int))) - 1))).bind fun t118=>(some t118)) else (some false))) else (some false))=some r:=by rw [if_pos rfl] at H;exact H
     clear H;have H:=H1;clear H1
     by_cases c41:(l0_1.length:Int)≤16
     ·rw [if_pos c41] at H
      have c41b0:=decide_eq_true c41;have c41b1:decide (l0_1.length≤16)=true:=decide_eq_true (by omega);clear c41;replace H:=oB.mp H;obtain ⟨t117,A420,H⟩:=H;replace H:(if t117=true then ((spec_l1All.f k1 l0_2 0 (wrap64 ((wrap64 (a0_0+(l0_1.length:Int))) - 1))).bind fun t118=>(some t118)) else (some false))=some r:=H;have A42:=aM A420;clear A420
      by_cases c43:t117=true
      ·subst c43
       have H1:((spec_l1All.f k1 l0_2 0 (wrap64 ((wrap64 (a0_0+(l0_1.length:Int))) - 1))).bind fun t118=>(some t118))=some r:=by rw [if_pos rfl] at H;exact H
       clear H;have H:=H1;clear H1;replace H:=oB.mp H;obtain ⟨t118,A440,H⟩:=H;replace H:(some t118)=some r:=H;have A44:=aM A440;clear A440;obtain rfl:=Option.some.inj H;obtain ⟨hcz45_0,hcz45_1,hcz45_2,hfz45_0,hfz45_1,hfz45_2⟩:=zk3 BK115.out
       go_wp2_with (first | ((with_reducible refine gate_callee (f:=37) rfl ?_);refine goesL_ (some 53) rfl rfl Tryd.func37 (by kernel_rfl) rfl #[.int .i64 a0_0] rfl zd_ ?_;(with_reducible refine (spec_ttInputs.calls a0_0 true _ A39.out).mono ?_);rintro e w' ⟨rfl,⟨nd,rfl⟩⟩;refine ⟨_,rfl,?_⟩)|(go_at_call 26;(with_reducible refine (spec_l1In.calls (l0_2.length:Int) 1 4 true _ A42.out).mono ?_);rintro e w' ⟨rfl,⟨nd,rfl⟩⟩)|(go_at_call 38;(with_reducible refine (spec_l1All.calls k1 _ _ l0_2 0 (wrap64 ((wrap64 (a0_0+(l0_1.length:Int))) - 1)) t118 _ ?side1 ?side2 A44.out).mono ?_);(case side1=>repeat (first | exact (Kd.C_below HR0_2.out zba_)|(with_reducible refine cA ?_ _)|(with_reducible refine cN ?_ _)|(with_reducible refine cD ?_)));(case side2=>exact HC0_2.out);rintro e w' ⟨rfl,⟨nd,rfl⟩⟩))
       go_ret
       exact ⟨zf_,zba_⟩
      ·replace c43:=Bool.eq_false_iff.mpr c43
       subst c43;have H1:(some false)=some r:=by rw [if_neg (show ¬ (false=true) by decide)] at H;exact H
       clear H;have H:=H1;clear H1;obtain rfl:=Option.some.inj H;obtain ⟨hcz46_0,hcz46_1,hcz46_2,hfz46_0,hfz46_1,hfz46_2⟩:=zk3 BK115.out
       go_wp2_with (first | ((with_reducible refine gate_callee (f:=37) rfl ?_);refine goesL_ (some 53) rfl rfl Tryd.func37 (by kernel_rfl) rfl #[.int .i64 a0_0] rfl zd_ ?_;(with_reducible refine (spec_ttInputs.calls a0_0 true _ A39.out).mono ?_);rintro e w' ⟨rfl,⟨nd,rfl⟩⟩;refine ⟨_,rfl,?_⟩)|(go_at_call 26;(with_reducible refine (spec_l1In.calls (l0_2.length:Int) 1 4 false _ A42.out).mono ?_);rintro e w' ⟨rfl,⟨nd,rfl⟩⟩))
       go_ret
       exact ⟨zf_,zba_⟩
     ·rw [if_neg c41] at H
      have c41b0:=decide_eq_false c41;have c41b1:decide (l0_1.length≤16)=false:=decide_eq_false (by omega);clear c41;obtain rfl:=Option.some.inj H;obtain ⟨hcz47_0,hcz47_1,hcz47_2,hfz47_0,hfz47_1,hfz47_2⟩:=zk3 BK115.out
      go_wp2_with (first | ((with_reducible refine gate_callee (f:=37) rfl ?_);refine goesL_ (some 53) rfl rfl Tryd.func37 (by kernel_rfl) rfl #[.int .i64 a0_0] rfl zd_ ?_;(with_reducible refine (spec_ttInputs.calls a0_0 true _ A39.out).mono ?_);rintro e w' ⟨rfl,⟨nd,rfl⟩⟩;refine ⟨_,rfl,?_⟩))
      go_ret
      exact ⟨zf_,zba_⟩
    ·replace c40:=Bool.eq_false_iff.mpr c40
     subst c40;have H1:(some false)=some r:=by rw [if_neg (show ¬ (false=true) by decide)] at H;exact H
     clear H;have H:=H1;clear H1;obtain rfl:=Option.some.inj H;obtain ⟨hcz48_0,hcz48_1,hcz48_2,hfz48_0,hfz48_1,hfz48_2⟩:=zk3 BK115.out
     go_wp2_with (first | ((with_reducible refine gate_callee (f:=37) rfl ?_);refine goesL_ (some 53) rfl rfl Tryd.func37 (by kernel_rfl) rfl #[.int .i64 a0_0] rfl zd_ ?_;(with_reducible refine (spec_ttInputs.calls a0_0 false _ A39.out).mono ?_);rintro e w' ⟨rfl,⟨nd,rfl⟩⟩;refine ⟨_,rfl,?_⟩))
     go_ret
     exact ⟨zf_,zba_⟩
def spec_l1Num.f:Nat→Int→Option (ByteArray)
 | 0,_=>none
 | k+1,a0=>if a0<10 then (some (strOfNums (([(wrap64 (48+a0)) % 256]:List Int)))) else ((spec_l1Num.f k (wrap64 (Int.tdiv a0 10))).bind fun t127=>((some (([(wrap64 (48+(Int.tmod a0 10))) % 256]:List Int):List Int)).bind fun y128=>(if t127.size+(strOfNums y128).size≤9223372036854775807 then (some (t127++(strOfNums y128))) else (none))))
theorem spec_l1Num.mono_l:∀ k,(∀ y0,LeO (spec_l1Num.f k y0) (spec_l1Num.f (k+1) y0))
 | 0=>fun _ r h=>by simp [spec_l1Num.f] at h
 | k+1=>by
  have ih0:=spec_l1Num.mono_l k
  ·intro y0
   unfold spec_l1Num.f
   repeat' first
   | (with_reducible exact ih0 _)
   | (with_reducible exact LeO.refl _)
   | (with_reducible exact LeO.none _)
   | (with_reducible refine LeO.ite ?_ ?_)
   | (with_reducible refine LeO.bind ?_ (fun _=>?_))
   | exact ih0 _
   | exact LeO.none _
   | refine LeO.ite ?_ ?_
   | refine LeO.bind ?_ (fun _=>?_)
theorem spec_l1Num.mono:∀ a0 k,LeO (spec_l1Num.f k a0) (spec_l1Num.f (k+1) a0):=by
 intro a0 k
 have ih0:=spec_l1Num.mono_l k
 exact ih0 a0
def spec_l1Num.T3:Bool×List (List Nat×List Nat):=(true,[([],[]),([0],[0]),([1],[1]),([],[]),([3],[3]),([4],[4]),([5],[5]),([6],[6]),([7],[7]),([2,8],[2,8]),([9,2,0,1,2,3,4,5,6,7,8,9],[9])])
def spec_l1Num.B3:List Nat:=[0,1,3,0,8,24,56,120,248,511,1023]
theorem spec_l1Num.tab3:rtab .any (opsOf Tryd.f39 3)=spec_l1Num.T3:=by kernel_rfl
theorem spec_l1Num.bits3:waitsOk spec_l1Num.T3.2 spec_l1Num.B3=true:=by kernel_rfl
theorem spec_l1Num.calls (k:Nat):∀ (a0:Int) (r:ByteArray) (w:World) (h:spec_l1Num.f k a0=some r),
  Calls Tryd.prog 39 #[.int .i64 a0] w fun e w'=>e = .returned (.string r)∧Below w.heap.size w w':=by
 induction k using Nat.strongRecOn with
 | _ k ih =>
 intro a0 r w h
 cases k with
 | zero=>exact absurd h (by simp [spec_l1Num.f])
 | succ k =>
 simp only [spec_l1Num.f] at h
 have HB:=aM (Below.refl w.heap.size w)
 have H:(if a0<10 then (some (strOfNums (([(wrap64 (48+a0)) % 256]:List Int)))) else ((spec_l1Num.f k (wrap64 (Int.tdiv a0 10))).bind fun t127=>((some (([(wrap64 (48+(Int.tmod a0 10))) % 256]:List Int):List Int)).bind fun y128=>(if t127.size+(strOfNums y128).size≤9223372036854775807 then (some (t127++(strOfNums y128))) else (none)))))=some r:=h
 clear h
 by_cases c2:a0<10
 ·rw [if_pos c2] at H
  have c2b0:=decide_eq_true c2;clear c2;obtain ⟨y124,hy124⟩:∃ y_:List Int,y_=(([(wrap64 (48+a0)) % 256]:List Int)):=⟨_,rfl⟩;replace H:(some (strOfNums y124))=some r:=q3y_ hy124 H
  have Ny124:=aM hy124;clear hy124;obtain rfl:=Option.some.inj H
  go_enter Tryd.func39,Tryd.ntmps39
  go_wp2_with (first | ((with_reducible refine gate_dst (N:=8) rfl ?_);refine Kd.R_lit (Kd.int .u8) _ 5 ?hg (N:=8) ?hd (xs:=([(wrap64 (48+a0)) % 256]:List Int)) (inner:=[.int .u8 ((wrap64 (48+a0)) % 256)]) (ok:=fun _=>True) (okp:=fun _=>True) ?hr ?hp (fun _ hk=>hk) trivial (Below.refl _ _) (Nat.le_refl _) (by simp) ?_;(case hd=>rfl);(case hg=>rfl);(case hr=>exact ze_);(case hp=>exact (Reps.one (show Kd.M (Kd.int .u8) _ _ _ ((wrap64 (48+a0)) % 256) [.int .u8 ((wrap64 (48+a0)) % 256)] from rfl) (Reps.none _ _)));intro v125 w3 ho4 hb hg_ hnew_;clear hg_ hnew_;(first | rw [← Ny124.out] at ho4 | (simp only [Int.reduceToNat] at ho4;rw [← Ny124.out] at ho4));have n_:=z (Kd.R_lower ho4 (below_size zb_))<|z1 (below_step zb_ hb);clear HB;obtain ⟨HO126,HB⟩:=n_;clear hb ho4;have hcv5:=own_string (P:=Tryd.prog) Tryd.underlying72 Tryd.underlying5 Tryd.underlying9 (Kd.own_of_R HO126.out)))
  go_ret
  exact ⟨zf_,zb_⟩
 ·rw [if_neg c2] at H
  have c2b0:=decide_eq_false c2;clear c2;replace H:=oB.mp H;obtain ⟨t127,A60,H⟩:=H;replace H:((some (([(wrap64 (48+(Int.tmod a0 10))) % 256]:List Int):List Int)).bind fun y128=>(if t127.size+(strOfNums y128).size≤9223372036854775807 then (some (t127++(strOfNums y128))) else (none)))=some r:=H;have A6:=aM A60;clear A60;obtain ⟨y128,hy128⟩:∃ y_:List Int,y_=(([(wrap64 (48+(Int.tmod a0 10))) % 256]:List Int)):=⟨_,rfl⟩;replace H:(if t127.size+(strOfNums y128).size≤9223372036854775807 then (some (t127++(strOfNums y128))) else (none))=some r:=q3y_ hy128 H
  have Ny128:=aM hy128;clear hy128
  by_cases c7:t127.size+(strOfNums y128).size≤9223372036854775807
  ·rw [if_pos c7] at H
   have c7b0:=eq_true c7;have c7b1:=decide_eq_true c7;(try have c7b2:(9223372036854775807<t127.size+(strOfNums y128).size)=False:=eq_false (Nat.not_lt.2 c7));obtain rfl:=Option.some.inj H
   go_enter Tryd.func39,Tryd.ntmps39
   (try go_wp2);have n0_:=aM (p1 HB.out);clear HB;have HB:=n0_;clear n0_
   refine start_ (n:=11) (S:=fun w'=>True) (ds:=[]) #[fi,fi,fi,fi,fi,fi,fi,fi,fi,fi,fi] (by kernel_rfl) rfl rfl trivial (fun hHeld=>?_);refine with_tabW spec_l1Num.tab3 spec_l1Num.bits3 (fun HT_ HW_=>?_)
   generalize w.drew=w8 at HB hHeld ⊢;refine py_ 0 10 HT_.out ?_;refine py_ 1 11 HT_.out ?_;refine py_ 3 13 HT_.out ?_;refine py_ 4 14 HT_.out ?_;refine py_ 5 15 HT_.out ?_;refine py_ 6 16 HT_.out ?_
   refine join_ (σ:=Value) 2 #[ti,ti,ti,ti,ti,ti,ti,ti,ti,fi,fi] (fun s_ => [(12,.string t127),(17,s_),(18,.string (strOfNums y128))]) (fun s_ w'=>(Kd.R (Kd.int .u8) 5 w' w.heap.size (fun _=>True) s_ y128)∧(Below w.heap.size w w')) ?_ ?_
   rotate_left
   ·intro hCont
    refine two_ (i:=2) (j:=7) (Ni:=some 12) (Nj:=some 17) #[ti,ti,ti,ti,ti,ti,ti,fi,fi,fi,fi] #[ti,ti,fi,ti,ti,ti,ti,ti,fi,fi,fi] rfl rfl rfl rfl (two_of HT_.out (by kernel_rfl)) (by decide) (by decide) (fun K hK=>?_) (fun K hK=>?_)
    ·skip
     refine goes_ Tryd.func39 (by kernel_rfl) rfl #[.int .i64 (wrap64 (Int.tdiv a0 10))] (by rfl) rfl rfl zd_ ?_
     with_reducible refine (ih k (by omega) (wrap64 (Int.tdiv a0 10)) t127 _ A6.out).mono ?_
     rintro e w9 ⟨rfl,hb⟩
     refine ⟨_,rfl,?_⟩
     have n0_:=aM (below_step zb_ hb);clear HB;have HB:=n0_;clear n0_;(try clear hb);(try clear hb2);(try clear hk);(try clear hi)
     refine hK.out _ _ trivial (fun hHeld=>?_)
     clear hK K
     refine nz_ 12 ?_
     refine one_ (i:=7) (N:=some 17) #[ti,ti,ti,ti,ti,ti,ti,ti,fi,fi,fi] rfl rfl (one_of HT_.out (by kernel_rfl)) (by decide) (fun K hK=>?_)
     refine Kd.R_lit_step (Kd.int .u8) _ 5 ?hg (N:=17) ?hd (xs:=([(wrap64 (48+(Int.tmod a0 10))) % 256]:List Int)) (inner:=[.int .u8 ((wrap64 (48+(Int.tmod a0 10))) % 256)]) (ok:=fun _=>True) (okp:=fun _=>True) ?hr ?hp (fun _ hk=>hk) trivial (Below.refl _ _) (Nat.le_refl _) (by simp) ?_;(case hd=>rfl);(case hg=>rfl);(case hr=>exact ze_);(case hp=>exact (Reps.one (show Kd.M (Kd.int .u8) _ _ _ ((wrap64 (48+(Int.tmod a0 10))) % 256) [.int .u8 ((wrap64 (48+(Int.tmod a0 10))) % 256)] from rfl) (Reps.none _ _)))
     intro v129 w10 ho11 hb hg_ hnew_
     clear hg_ hnew_;(first | rw [← Ny128.out] at ho11 | (simp only [Int.reduceToNat] at ho11;rw [← Ny128.out] at ho11));have n_:=z (Kd.R_lower ho11 (below_size zb_))<|z1 (below_step zb_ hb)
     clear HB;obtain ⟨HO130,HB⟩:=n_;clear hb ho11
     refine hK.out _ _ trivial (fun hHeld=>?_)
     clear hK K
     refine nz_ 17 ?_
     refine one_ (i:=8) (N:=some 18) #[ti,ti,ti,ti,ti,ti,ti,ti,ti,fi,fi] rfl rfl (one_of HT_.out (by kernel_rfl)) (by decide) (fun K hK=>?_)
     have hcv12:=own_string (P:=Tryd.prog) Tryd.underlying72 Tryd.underlying5 Tryd.underlying9 (Kd.own_of_R HO130.out)
     refine value_ (w1:=?_) (v:=?_) (by rfl) rfl ?_ ?_
     rotate_left 2
     ·go_simp
      constructor
      ·rfl
      ·rfl
     clear hcv12
     refine hK.out _ _ trivial (fun hHeld=>?_)
     clear hK K
     refine nz_ 18 ?_
     exact norm_ (by simp only [putAll,Act.put,sI,s0,sS]) (hCont (v129) _ ⟨(zr HO130.out),zb_⟩)
    ·skip
     refine Kd.R_lit_step (Kd.int .u8) _ 5 ?hg (N:=17) ?hd (xs:=([(wrap64 (48+(Int.tmod a0 10))) % 256]:List Int)) (inner:=[.int .u8 ((wrap64 (48+(Int.tmod a0 10))) % 256)]) (ok:=fun _=>True) (okp:=fun _=>True) ?hr ?hp (fun _ hk=>hk) trivial (Below.refl _ _) (Nat.le_refl _) (by simp) ?_;(case hd=>rfl);(case hg=>rfl);(case hr=>exact ze_);(case hp=>exact (Reps.one (show Kd.M (Kd.int .u8) _ _ _ ((wrap64 (48+(Int.tmod a0 10))) % 256) [.int .u8 ((wrap64 (48+(Int.tmod a0 10))) % 256)] from rfl) (Reps.none _ _)))
     intro v129 w9 ho10 hb hg_ hnew_
     clear hg_ hnew_;(first | rw [← Ny128.out] at ho10 | (simp only [Int.reduceToNat] at ho10;rw [← Ny128.out] at ho10));have n_:=z (Kd.R_lower ho10 (below_size zb_))<|z1 (below_step zb_ hb)
     clear HB;obtain ⟨HO130,HB⟩:=n_;clear hb ho10
     refine hK.out _ _ trivial (fun hHeld=>?_)
     clear hK K
     refine nz_ 17 ?_
     refine two_ (i:=2) (j:=8) (Ni:=some 12) (Nj:=some 18) #[ti,ti,ti,ti,ti,ti,ti,ti,fi,fi,fi] #[ti,ti,fi,ti,ti,ti,ti,ti,ti,fi,fi] rfl rfl rfl rfl (two_of HT_.out (by kernel_rfl)) (by decide) (by decide) (fun K hK=>?_) (fun K hK=>?_)
     ·skip
      refine goes_ Tryd.func39 (by kernel_rfl) rfl #[.int .i64 (wrap64 (Int.tdiv a0 10))] (by rfl) rfl rfl zd_ ?_
      with_reducible refine (ih k (by omega) (wrap64 (Int.tdiv a0 10)) t127 _ A6.out).mono ?_
      rintro e w11 ⟨rfl,hb⟩
      refine ⟨_,rfl,?_⟩
      have n_:=z (Kd.R_below (zr HO130.out) hb)<|z1 (below_step zb_ hb)
      clear HO130 HB;obtain ⟨HO130,HB⟩:=n_;(try clear hb);(try clear hb2);(try clear hk);(try clear hi)
      refine hK.out _ _ trivial (fun hHeld=>?_)
      clear hK K
      refine nz_ 12 ?_
      refine one_ (i:=8) (N:=some 18) #[ti,ti,ti,ti,ti,ti,ti,ti,ti,fi,fi] rfl rfl (one_of HT_.out (by kernel_rfl)) (by decide) (fun K hK=>?_)
      have hcv12:=own_string (P:=Tryd.prog) Tryd.underlying72 Tryd.underlying5 Tryd.underlying9 (Kd.own_of_R HO130.out)
      refine value_ (w1:=?_) (v:=?_) (by rfl) rfl ?_ ?_
      rotate_left 2
      ·go_simp
       constructor
       ·rfl
       ·rfl
      clear hcv12
      refine hK.out _ _ trivial (fun hHeld=>?_)
      clear hK K
      refine nz_ 18 ?_
      exact norm_ (by simp only [putAll,Act.put,sI,s0,sS]) (hCont (v129) _ ⟨(zr HO130.out),zb_⟩)
     ·skip
      have hcv11:=own_string (P:=Tryd.prog) Tryd.underlying72 Tryd.underlying5 Tryd.underlying9 (Kd.own_of_R HO130.out)
      refine value_ (w1:=?_) (v:=?_) (by rfl) rfl ?_ ?_
      rotate_left 2
      ·go_simp
       constructor
       ·rfl
       ·rfl
      clear hcv11
      refine hK.out _ _ trivial (fun hHeld=>?_)
      clear hK K
      refine nz_ 18 ?_
      refine one_ (i:=2) (N:=some 12) #[ti,ti,ti,ti,ti,ti,ti,ti,ti,fi,fi] rfl rfl (one_of HT_.out (by kernel_rfl)) (by decide) (fun K hK=>?_)
      refine goes_ Tryd.func39 (by kernel_rfl) rfl #[.int .i64 (wrap64 (Int.tdiv a0 10))] (by rfl) rfl rfl zd_ ?_
      with_reducible refine (ih k (by omega) (wrap64 (Int.tdiv a0 10)) t127 _ A6.out).mono ?_
      rintro e w12 ⟨rfl,hb⟩
      refine ⟨_,rfl,?_⟩
      have n_:=z (Kd.R_below (zr HO130.out) hb)<|z1 (below_step zb_ hb)
      clear HO130 HB;obtain ⟨HO130,HB⟩:=n_;(try clear hb);(try clear hb2);(try clear hk);(try clear hi)
      refine hK.out _ _ trivial (fun hHeld=>?_)
      clear hK K
      refine nz_ 12 ?_
      exact norm_ (by simp only [putAll,Act.put,sI,s0,sS]) (hCont (v129) _ ⟨(zr HO130.out),zb_⟩)
   rintro v129 w13 ⟨h0_,h1_⟩
   have n0_:Aside0 (Kd.R (Kd.int .u8) 5 w13 w.heap.size (fun _=>True) v129 y128):=⟨h0_⟩;have n1_:Aside0 (Below w.heap.size w w13):=⟨h1_⟩;clear HB h0_ h1_;have HO130:=n0_;have HB:=n1_;clear n0_ n1_;have hHeld:=trivial
   refine norm_ (a':=?_) ?_ ?_
   rotate_left
   ·simp only [putAll,Act.put,sI,s0,sS]
    rfl
   refine py_ 9 19 HT_.out ?_;refine py_ 10 2 HT_.out ?_
   refine done_ (done_of HT_.out (by kernel_rfl)) ?_
   (try go_wp2)
   go_ret
   exact ⟨zf_,zb_⟩
  ·rw [if_neg c7] at H
   exact q3n_ H
end Go.Proofs.YtanpidphaanjiaaDoor.QFnExactParseCircuit
