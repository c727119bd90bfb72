/- Functions of FnDiagramOrders, each as a Lean function, with the proof that the Go code comes to its answers. -/
import Derived.Test.YtlnhpkjioppbiaaProg
import Derived.Below
import Derived.Deep.Draws
import Derived.Deep.AppendLies
import Derived.Maps.AppendAt
import Derived.OwnWalk
import Derived.Laws.BytesArg
import Derived.Laws.MakeOwn
import Derived.Laws.OwnMore
import Derived.Deep.OwnRows
import Derived.Tactics
import Derived.Lib.ConvBytes
import Derived.Laws.Slices
import Derived.WalkKit
import Derived.KernelRfl
import Derived.RowKit3
import Derived.Deep.LoopGhost
import Derived.Deep.QuietTactic
import Derived.BigQuiet
import Derived.WideLaws
import Derived.Deep.DeepCutAuto
import Derived.Deep.CutBlock
import Derived.Deep.RegionHeld3
import Derived.Laws.Rows
import Derived.Lib.AppendStr
import Derived.ArgAppend
import Derived.Laws.IdiomCopy
import Derived.OrdersHeld
import Derived.Laws.BitsLemmas
import Derived.RowKit
import Derived.Test.YtlnhpkjioppbiaaVDiSep
import Derived.Test.YtlnhpkjioppbiaaVDiWWords
import Derived.Test.YtlnhpkjioppbiaaVDiWLast
import Derived.Test.YtlnhpkjioppbiaaVDiWTab
import Derived.Test.YtlnhpkjioppbiaaVDiWFour
import Derived.Test.YtlnhpkjioppbiaaVDiWQPut
import Derived.Test.YtlnhpkjioppbiaaVDiWApart
import Derived.Test.YtlnhpkjioppbiaaVDiWArr
import Derived.Test.YtlnhpkjioppbiaaVDiWZeros
import Derived.Test.YtlnhpkjioppbiaaVDiWFoot
import Derived.Test.YtlnhpkjioppbiaaVDiWKept
import Derived.Test.YtlnhpkjioppbiaaVDiWShare
import Derived.Test.YtlnhpkjioppbiaaVDiWN
import Derived.Test.YtlnhpkjioppbiaaVDiWFootNe
import Derived.Test.YtlnhpkjioppbiaaVDiWAt
import Derived.Test.YtlnhpkjioppbiaaVDiWEqStruct
import Derived.Test.YtlnhpkjioppbiaaVDiWRepsOne
import Derived.Test.YtlnhpkjioppbiaaVDiWInv
import Derived.Test.YtlnhpkjioppbiaaVDiWInvWords
import Derived.Test.YtlnhpkjioppbiaaVDiWGuard
import Derived.Test.YtlnhpkjioppbiaaVDiWNEv
import Derived.Test.YtlnhpkjioppbiaaVDiWMore
namespace Go.Proofs.Ytlnhpkjioppbiaa.QFnDiagramOrders
open Go.RowKit Go.Proofs.YtlnhpkjioppbiaaW.PrintWords Go.Proofs.YtlnhpkjioppbiaaW.PrintLast Go.Proofs.YtlnhpkjioppbiaaW.PrintMore
open Go.Proofs.YtlnhpkjioppbiaaW.PrintWords renaming pw_below_drewN→pN,below_drew1→p1,below_alloc→pA
open Go.Proofs.YtlnhpkjioppbiaaW.PrintWords.Kd renaming R_alloc→kA,R_drewN→kN,R_drew→kD,Q_alloc→qA,Q_drewN→qN,Q_drew→qD,C_alloc→cA,C_drewN→cN,C_drew→cD
open List renaming setIfInBounds_toArray→sI,set_cons_zero→s0,set_cons_succ→sS,map_toArray→mT,length_take→lT,length_drop→lD,map_cons→mC,map_nil→mN
attribute [local go_sem] max2_int min2_int max_two min_two max_three min_three max_four min_four
set_option maxHeartbeats 8000000
set_option maxRecDepth 100000
set_option linter.unusedVariables false
set_option linter.unusedSimpArgs false
open Go.Proofs.YtlnhpkjioppbiaaW.PrintWords.Aside0 renaming mk→aM
open Option renaming bind_eq_some_iff→oB,bind_some→oS
abbrev ti:Bool:=true
abbrev fi:Bool:=false
theorem z {a b:Prop} (h:a) (k:b):Aside0 a∧b:=⟨⟨h⟩,k⟩
theorem z1 {a:Prop} (h:a):Aside0 a:=⟨h⟩
theorem zb {p q:Prop} (h:q) (f:q→p:=by intro hq;(with_reducible repeat (first | refine blk_drewN ?_ _ | refine blk_drew ?_ | refine blk_alloc ?_ _));exact hq):p:=f h
theorem zr {p q:Prop} (h:q) (f:q→p:=by intro hq;(with_reducible repeat (first | apply kA | apply kN | apply kD));exact hq):p:=f h
theorem zq {p q:Prop} (h:q) (f:q→p:=by intro hq;(with_reducible repeat (first | apply qA | apply qN | apply qD));exact hq):p:=f h
theorem py_ {P:Program} {ops:Array Oper} {Q:Exit→Act→World→Prop} {md:Region.Mode} {S:World→Prop} {ds:List Nat} {T:Bool×List (List Nat×List Nat)} {oi:Oper} {v:Value} {fuel:Nat} {l:Array Bool} {a a':Act} {w:World} (i:Nat) (n:Tmp) (hT:rtab md ops=T)
    (h:wpAnyLast P md ops Q S ds fuel (l.setIfInBounds i true) a' w) (hi:ops[i]?=some oi:=by exact rfl) (hN:oi.dst=some n:=by exact rfl) (hc:anyT T l.toList (l.setIfInBounds i true).toList i=true:=by kernel_rfl)
    (hQ:∀ c a w,Q (.panic c) (a.put oi.dst v) w→Q (.panic c) a w:=by exact fun _ _ _ h=>h) (hd:Region.wanted oi (yielded ops a.tmps)=true:=by rfl) (hy:∀ w,(execOp a.eval oi).run P w = .ok (.value v) w:=by (intro w';go_simp;with_reducible rfl)) (ha:a.put (some n) v=a':=by (simp only [Act.put,sI,s0,sS,i64_w,i32_w];rfl)):wpAnyLast P md ops Q S ds (fuel+1) l a w:=
  pure_ _ hi hN (any_of hT hc) hQ (Or.inl ⟨hd,hy⟩) ha h
theorem oz_ {P:Program} {ops:Array Oper} {Q:Exit→Act→World→Prop} {md:Region.Mode} {S:World→Prop} {ds:List Nat} {oi:Oper} {fuel:Nat} {l:Array Bool} {w:World} {v:Value} {a a':Act} (i:Nat) (n:Tmp) (h:wpAnyLast P md ops Q S ds fuel (l.setIfInBounds i true) a' w) (hi:ops[i]?=some oi:=by exact rfl) (hN:oi.dst=some n:=by exact rfl) (hc:anyB md ops l (l.setIfInBounds i true) i=true:=by kernel_rfl) (hQ:∀ c a w,Q (.panic c) (a.put oi.dst v) w→Q (.panic c) a w:=by exact fun _ _ _ h=>h) (hd:Region.wanted oi (yielded ops a.tmps)=true:=by rfl) (hy:∀ w,(execOp a.eval oi).run P w = .ok (.value v) w:=by (intro w';go_simp;with_reducible rfl)) (ha:a.put (some n) v=a':=by (simp only [Act.put,sI,s0,sS,i64_w,i32_w];rfl)):wpAnyLast P md ops Q S ds (fuel+1) l a w:=pure_ _ hi hN hc hQ (Or.inl ⟨hd,hy⟩) ha h
theorem oo_ {P:Program} {ops:Array Oper} {Q:Exit→Act→World→Prop} {md:Region.Mode} {S:World→Prop} {ds:List Nat} {oi:Oper} {fuel:Nat} {l:Array Bool} {w:World} {a:Act} (i:Nat) (n:Tmp) (h:∀ K:Act→World→Prop,Shut (∀ a' w',S w'→(S w'→wpAnyLast P md ops Q S ds fuel (l.setIfInBounds i true) a' w')→K a' w')→if Region.wanted oi (yielded ops a.tmps)=true then Oper.wp P oi a w K Q else K (a.put (some n) undef) w) (hi:ops[i]?=some oi:=by exact rfl) (hN:oi.dst=some n:=by exact rfl) (hc:readyB md ops l (l.setIfInBounds i true) i=true:=by kernel_rfl) (hd:i∉ds:=by decide):wpAnyLast P md ops Q S ds (fuel+1) l a w:=one_ _ hi hN hc hd h
theorem nz_ {P:Program} {ops:Array Oper} {Q:Exit→Act→World→Prop} {md:Region.Mode} {S:World→Prop} {ds:List Nat} {fuel:Nat} {l:Array Bool} {w:World} {v:Value} {b a':Act} (n:Tmp) (h:wpAnyLast P md ops Q S ds fuel l a' w) (ha:Act.put b (some n) v=a':=by (simp only [Act.put,sI,s0,sS,i64_w,i32_w];rfl)):wpAnyLast P md ops Q S ds fuel l (Act.put b (some n) v) w:=norm_ ha h
theorem tz1_ {P:Program} {ops:Array Oper} {Q:Exit→Act→World→Prop} {md:Region.Mode} {S:World→Prop} {ds:List Nat} {oi:Oper} {fuel:Nat} {l:Array Bool} {w:World} {v:Value} {a a':Act} (i:Nat) (n:Tmp) (hS:S w) (h:wpAnyLast P md ops Q S ds fuel (l.setIfInBounds i true) a' w) (hi:ops[i]?=some oi:=by exact rfl) (hN:oi.dst=some n:=by exact rfl) (hc:takeB md ops ds l (l.setIfInBounds i true) i=true:=by kernel_rfl) (hQ:∀ c a w,Q (.panic c) (a.put oi.dst v) w→Q (.panic c) a w:=by exact fun _ _ _ h=>h) (hd:Region.wanted oi (yielded ops a.tmps)=true:=by rfl) (hy:∀ w,S w→(execOp a.eval oi).run P w = .ok (.value v) w:=by (intro w' s0;go_simp;with_reducible rfl)) (ha:a.put (some n) v=a':=by (simp only [Act.put,sI,s0,sS,i64_w,i32_w];rfl)):wpAnyLast P md ops Q S ds (fuel+1) l a w:=take_ _ hi hN hc hQ (Or.inl ⟨hd,hy⟩) hS ha h
theorem tz2_ {P:Program} {ops:Array Oper} {Q:Exit→Act→World→Prop} {md:Region.Mode} {S:World→Prop} {ds:List Nat} {oi:Oper} {fuel:Nat} {l:Array Bool} {w:World} {v:Value} {a a':Act} (i:Nat) (n:Tmp) (hS:S w) (h:wpAnyLast P md ops Q S ds fuel (l.setIfInBounds i true) a' w) (hi:ops[i]?=some oi:=by exact rfl) (hN:oi.dst=some n:=by exact rfl) (hc:takeB md ops ds l (l.setIfInBounds i true) i=true:=by kernel_rfl) (hQ:∀ c a w,Q (.panic c) (a.put oi.dst v) w→Q (.panic c) a w:=by exact fun _ _ _ h=>h) (hd:Region.wanted oi (yielded ops a.tmps)=true:=by rfl) (hy:∀ w,S w→(execOp a.eval oi).run P w = .ok (.value v) w:=by (rintro w' ⟨s0,s1⟩;go_simp;with_reducible rfl)) (ha:a.put (some n) v=a':=by (simp only [Act.put,sI,s0,sS,i64_w,i32_w];rfl)):wpAnyLast P md ops Q S ds (fuel+1) l a w:=take_ _ hi hN hc hQ (Or.inl ⟨hd,hy⟩) hS ha h
theorem tw2_ {P:Program} {ops:Array Oper} {Q:Exit→Act→World→Prop} {md:Region.Mode} {S:World→Prop} {ds:List Nat} {oi:Oper} {fuel:Nat} {l:Array Bool} {w:World} {T:Bool×List (List Nat×List Nat)} {B:List Nat} {v:Value} {a a':Act} (i:Nat) (n:Tmp) (hT:rtab md ops=T) (hB:waitsOk T.2 B=true) (hS:S w) (h:wpAnyLast P md ops Q S ds fuel (l.setIfInBounds i true) a' w) (hi:ops[i]?=some oi:=by exact rfl) (hN:oi.dst=some n:=by exact rfl) (hc:takeW T B ds l.toList (l.setIfInBounds i true).toList i=true:=by kernel_rfl) (hQ:∀ c a w,Q (.panic c) (a.put oi.dst v) w→Q (.panic c) a w:=by exact fun _ _ _ h=>h) (hd:Region.wanted oi (yielded ops a.tmps)=true:=by rfl) (hy:∀ w,S w→(execOp a.eval oi).run P w = .ok (.value v) w:=by (rintro w' ⟨s0,s1⟩;go_simp;with_reducible rfl)) (ha:a.put (some n) v=a':=by (simp only [Act.put,sI,s0,sS,i64_w,i32_w];rfl)):wpAnyLast P md ops Q S ds (fuel+1) l a w:=take_ _ hi hN (take_ofW hT hB hc) hQ (Or.inl ⟨hd,hy⟩) hS ha h
theorem tz3_ {P:Program} {ops:Array Oper} {Q:Exit→Act→World→Prop} {md:Region.Mode} {S:World→Prop} {ds:List Nat} {oi:Oper} {fuel:Nat} {l:Array Bool} {w:World} {v:Value} {a a':Act} (i:Nat) (n:Tmp) (hS:S w) (h:wpAnyLast P md ops Q S ds fuel (l.setIfInBounds i true) a' w) (hi:ops[i]?=some oi:=by exact rfl) (hN:oi.dst=some n:=by exact rfl) (hc:takeB md ops ds l (l.setIfInBounds i true) i=true:=by kernel_rfl) (hQ:∀ c a w,Q (.panic c) (a.put oi.dst v) w→Q (.panic c) a w:=by exact fun _ _ _ h=>h) (hd:Region.wanted oi (yielded ops a.tmps)=true:=by rfl) (hy:∀ w,S w→(execOp a.eval oi).run P w = .ok (.value v) w:=by (rintro w' ⟨s0,s1,s2⟩;go_simp;with_reducible rfl)) (ha:a.put (some n) v=a':=by (simp only [Act.put,sI,s0,sS,i64_w,i32_w];rfl)):wpAnyLast P md ops Q S ds (fuel+1) l a w:=take_ _ hi hN hc hQ (Or.inl ⟨hd,hy⟩) hS ha h
theorem tw3_ {P:Program} {ops:Array Oper} {Q:Exit→Act→World→Prop} {md:Region.Mode} {S:World→Prop} {ds:List Nat} {oi:Oper} {fuel:Nat} {l:Array Bool} {w:World} {T:Bool×List (List Nat×List Nat)} {B:List Nat} {v:Value} {a a':Act} (i:Nat) (n:Tmp) (hT:rtab md ops=T) (hB:waitsOk T.2 B=true) (hS:S w) (h:wpAnyLast P md ops Q S ds fuel (l.setIfInBounds i true) a' w) (hi:ops[i]?=some oi:=by exact rfl) (hN:oi.dst=some n:=by exact rfl) (hc:takeW T B ds l.toList (l.setIfInBounds i true).toList i=true:=by kernel_rfl) (hQ:∀ c a w,Q (.panic c) (a.put oi.dst v) w→Q (.panic c) a w:=by exact fun _ _ _ h=>h) (hd:Region.wanted oi (yielded ops a.tmps)=true:=by rfl) (hy:∀ w,S w→(execOp a.eval oi).run P w = .ok (.value v) w:=by (rintro w' ⟨s0,s1,s2⟩;go_simp;with_reducible rfl)) (ha:a.put (some n) v=a':=by (simp only [Act.put,sI,s0,sS,i64_w,i32_w];rfl)):wpAnyLast P md ops Q S ds (fuel+1) l a w:=take_ _ hi hN (take_ofW hT hB hc) hQ (Or.inl ⟨hd,hy⟩) hS ha h
theorem tz4_ {P:Program} {ops:Array Oper} {Q:Exit→Act→World→Prop} {md:Region.Mode} {S:World→Prop} {ds:List Nat} {oi:Oper} {fuel:Nat} {l:Array Bool} {w:World} {v:Value} {a a':Act} (i:Nat) (n:Tmp) (hS:S w) (h:wpAnyLast P md ops Q S ds fuel (l.setIfInBounds i true) a' w) (hi:ops[i]?=some oi:=by exact rfl) (hN:oi.dst=some n:=by exact rfl) (hc:takeB md ops ds l (l.setIfInBounds i true) i=true:=by kernel_rfl) (hQ:∀ c a w,Q (.panic c) (a.put oi.dst v) w→Q (.panic c) a w:=by exact fun _ _ _ h=>h) (hd:Region.wanted oi (yielded ops a.tmps)=true:=by rfl) (hy:∀ w,S w→(execOp a.eval oi).run P w = .ok (.value v) w:=by (rintro w' ⟨s0,s1,s2,s3⟩;go_simp;with_reducible rfl)) (ha:a.put (some n) v=a':=by (simp only [Act.put,sI,s0,sS,i64_w,i32_w];rfl)):wpAnyLast P md ops Q S ds (fuel+1) l a w:=take_ _ hi hN hc hQ (Or.inl ⟨hd,hy⟩) hS ha h
theorem tw5_ {P:Program} {ops:Array Oper} {Q:Exit→Act→World→Prop} {md:Region.Mode} {S:World→Prop} {ds:List Nat} {oi:Oper} {fuel:Nat} {l:Array Bool} {w:World} {T:Bool×List (List Nat×List Nat)} {B:List Nat} {v:Value} {a a':Act} (i:Nat) (n:Tmp) (hT:rtab md ops=T) (hB:waitsOk T.2 B=true) (hS:S w) (h:wpAnyLast P md ops Q S ds fuel (l.setIfInBounds i true) a' w) (hi:ops[i]?=some oi:=by exact rfl) (hN:oi.dst=some n:=by exact rfl) (hc:takeW T B ds l.toList (l.setIfInBounds i true).toList i=true:=by kernel_rfl) (hQ:∀ c a w,Q (.panic c) (a.put oi.dst v) w→Q (.panic c) a w:=by exact fun _ _ _ h=>h) (hd:Region.wanted oi (yielded ops a.tmps)=true:=by rfl) (hy:∀ w,S w→(execOp a.eval oi).run P w = .ok (.value v) w:=by (rintro w' ⟨s0,s1,s2,s3,s4⟩;go_simp;with_reducible rfl)) (ha:a.put (some n) v=a':=by (simp only [Act.put,sI,s0,sS,i64_w,i32_w];rfl)):wpAnyLast P md ops Q S ds (fuel+1) l a w:=take_ _ hi hN (take_ofW hT hB hc) hQ (Or.inl ⟨hd,hy⟩) hS ha h
theorem tz6_ {P:Program} {ops:Array Oper} {Q:Exit→Act→World→Prop} {md:Region.Mode} {S:World→Prop} {ds:List Nat} {oi:Oper} {fuel:Nat} {l:Array Bool} {w:World} {v:Value} {a a':Act} (i:Nat) (n:Tmp) (hS:S w) (h:wpAnyLast P md ops Q S ds fuel (l.setIfInBounds i true) a' w) (hi:ops[i]?=some oi:=by exact rfl) (hN:oi.dst=some n:=by exact rfl) (hc:takeB md ops ds l (l.setIfInBounds i true) i=true:=by kernel_rfl) (hQ:∀ c a w,Q (.panic c) (a.put oi.dst v) w→Q (.panic c) a w:=by exact fun _ _ _ h=>h) (hd:Region.wanted oi (yielded ops a.tmps)=true:=by rfl) (hy:∀ w,S w→(execOp a.eval oi).run P w = .ok (.value v) w:=by (rintro w' ⟨s0,s1,s2,s3,s4,s5⟩;go_simp;with_reducible rfl)) (ha:a.put (some n) v=a':=by (simp only [Act.put,sI,s0,sS,i64_w,i32_w];rfl)):wpAnyLast P md ops Q S ds (fuel+1) l a w:=take_ _ hi hN hc hQ (Or.inl ⟨hd,hy⟩) hS ha h
theorem zk2 {w:World} {g:Nat} {t:TypeId} {a b:Value} (h:w.heap[g]?=some (.cells #[a,b] t (0,0))):w.cell? ⟨g,0,none⟩=some a∧w.cell? ⟨g,1,none⟩=some b∧w.frozen? ⟨g,0,none⟩=false∧w.frozen? ⟨g,1,none⟩=false:=⟨(blk_cell h 0).trans rfl,(blk_cell h 1).trans rfl,blk_frozen h 0,blk_frozen h 1⟩
theorem zk3 {w:World} {g:Nat} {t:TypeId} {a b c:Value} (h:w.heap[g]?=some (.cells #[a,b,c] t (0,0))):w.cell? ⟨g,0,none⟩=some a∧w.cell? ⟨g,1,none⟩=some b∧w.cell? ⟨g,2,none⟩=some c∧w.frozen? ⟨g,0,none⟩=false∧w.frozen? ⟨g,1,none⟩=false∧w.frozen? ⟨g,2,none⟩=false:=⟨(blk_cell h 0).trans rfl,(blk_cell h 1).trans rfl,(blk_cell h 2).trans rfl,blk_frozen h 0,blk_frozen h 1,blk_frozen h 2⟩
theorem q3n_ {p q:Prop} (h:p) (k:¬p:=by simp):q:=absurd h k
theorem q3h_ {w w1:World} {a:Addr} {v:Value} (B:Below w.heap.size w w1) (h:w.cell? a=some v):w1.cell? a=some v:=(B.cell (World.block_lt_of_cell? w _ h)).trans h
theorem q3d_ {p:Prop} (h:p:=by first | exact ⟨rfl,_,World.drewN_drewN _ _ _⟩ | exact ⟨rfl,_,Eq.trans (World.drewN_drewN _ _ _) (congrArg (World.drewN _) (Nat.add_assoc _ _ _))⟩):p:=h
theorem q3y_ {α:Type} {a b:α} {p q:Prop} (e:a=b) (h:p) (f:a=b→p→q:=by intro e_ H_;first | (rw [e_];with_reducible exact H_)|(have H2_:=(Option.bind_some _ _).symm.trans H_;rw [e_];with_reducible exact H2_)|(have H2_:=(Option.bind_some _ _).symm.trans H_;with_reducible exact H2_) | with_reducible exact H_ | (rw [e_];exact H_) | exact H_):q:=f e h
theorem za_ {p:Prop} (h:p:=by first | (go_simp;done)|(go_simp;rfl)):p:=h
theorem zb_ {p:Prop} (h:p:=by repeat (first | (with_reducible first | exact HB.out | apply pA | apply pN | apply p1) | exact HB.out)):p:=h
theorem zc_ {p:Prop} (h:p:=by first | (with_reducible assumption) | assumption):p:=h
theorem zd_ {p:Prop} (h:p:=by first | rfl | (simp;done)|(simp [*];done)):p:=h
theorem ze_ {p:Prop} (h:p:=by (try simp only [mT,mC,mN]);first | done | rfl):p:=h
theorem zf_ {p:Prop} (h:p:=by (try simp only [mT,mC,mN]);first | done | rfl | (simp only [lD,lT];rfl)):p:=h
theorem zg_ {p:Prop} (h:p:=by first | rfl | (simp [errW_none,errW_some] <;> rfl)|(simp [*,errW_none,errW_some] <;> rfl)):p:=h
theorem zh_ {p:Prop} (h:p:=by simp only [mT,mC,mN];rfl):p:=h
theorem zi_ {p:Prop} (h:p:=by repeat (first | exact Drawn0.refl _ | apply Drawn0.step)):p:=h
theorem zj_ {p:Prop} (h:p:=by repeat (first | exact (Kd.C_below HR0_1.out HB.out)|(with_reducible refine cA ?_ _)|(with_reducible refine cN ?_ _)|(with_reducible refine cD ?_))):p:=h
theorem zba_ {p:Prop} (h:p:=by repeat (first | (with_reducible first | exact HI0.out | apply IsS86.alloc | apply IsS86.drewN | apply IsS86.drew | apply IsS86.set_1 | apply IsS86.set_2) | exact HI0.out)):p:=h
theorem zbb_ {p:Prop} (h:p:=by repeat (first | (with_reducible first | exact HK.out | apply KeepBut.set_ | apply keep_drewN | apply keep_drew | apply keep_alloc) | exact HK.out)):p:=h
theorem zbc_ {p:Prop} (h:p:=by repeat (first | (with_reducible first | exact HB.out | apply pA | apply pN | apply p1 | refine below_set ?_ GE162.out) | exact HB.out)):p:=h
theorem zbd_ {p:Prop} (h:p:=by repeat (first | (with_reducible first | exact HI0.out | apply IsS86.alloc | apply IsS86.drewN | apply IsS86.drew | apply IsS86.set_1 | apply IsS86.set_2 | refine IsS86.far ?_ NB0_279.out _ | refine IsS86.far ?_ NB0_286.out _) | exact HI0.out)):p:=h
theorem zbe_ {p:Prop} (h:p:=by first | omega | exact Nat.le_refl _):p:=h
theorem zbf_ {p:Prop} (h:p:=by first | rfl | (simp;done)):p:=h
theorem zbg_ {p:Prop} (h:p:=by repeat (first | (with_reducible first | exact HK.out | apply KeepBut.set_ | apply keep_drewN | apply keep_drew | apply keep_alloc | refine keep_far ?_ GW279.out _) | exact HK.out)):p:=h
theorem zbh_ {p:Prop} (h:p:=by repeat (first | (with_reducible first | exact HB.out | apply pA | apply pN | apply p1 | refine below_set ?_ GE113.out | refine below_set ?_ GE114.out) | exact HB.out)):p:=h
theorem zbi_ {p:Prop} (h:p:=by repeat (first | (with_reducible first | exact HK.out | apply KeepBut.set_ | apply keep_drewN | apply keep_drew | apply keep_alloc | refine keep_far ?_ GW279.out _ | refine keep_far ?_ GW286.out _) | exact HK.out)):p:=h
theorem zbj_ {p:Prop} (h:p:=by repeat (first | (with_reducible first | exact HB.out | apply pA | apply pN | apply p1 | refine below_set ?_ GE118.out) | exact HB.out)):p:=h
theorem zca_ {p:Prop} (h:p:=by repeat (first | (with_reducible first | exact HB.out | apply pA | apply pN | apply p1 | refine below_set ?_ (IsS86.ge HI0.out)) | exact HB.out)):p:=h
theorem zcb_ {p:Prop} (h:p:=by repeat (first | (with_reducible first | exact HI0.out | apply IsS86.alloc | apply IsS86.drewN | apply IsS86.drew | apply IsS86.set_1 | apply IsS86.set_2 | refine IsS86.far ?_ NB0_279.out _) | exact HI0.out)):p:=h
theorem zcc_ {p:Prop} (h:p:=by repeat (first | (with_reducible first | exact HB.out | apply pA | apply pN | apply p1 | refine below_set ?_ (IsS86.ge HI0.out) | refine below_set ?_ GE279.out | refine below_set ?_ GE286.out) | exact HB.out)):p:=h
theorem zcd_ {p:Prop} (h:p:=by repeat (first | (with_reducible first | exact HB.out | apply pA | apply pN | apply p1 | refine below_set ?_ GE162.out | refine below_set ?_ GE164.out) | exact HB.out)):p:=h
theorem zce_ {p:Prop} (h:p:=by have:=World.block_lt_of_cell? _ _ hx117_0;first | rwa [add_block] at this | exact this):p:=h
theorem zcf_ {p:Prop} (h:p:=by first | (rw [add_block];exact hn117_0)|(show (Addr.add _ _).block≠_;rw [add_block];exact hn117_0) | exact hn117_0):p:=h
theorem zcg_ {p:Prop} (h:p:=by first | (rw [add_block];exact hn117_1)|(show (Addr.add _ _).block≠_;rw [add_block];exact hn117_1) | exact hn117_1):p:=h
theorem zch_ {p:Prop} (h:p:=by first | (rw [add_block];exact hn117_2)|(show (Addr.add _ _).block≠_;rw [add_block];exact hn117_2) | exact hn117_2):p:=h
theorem zci_ {p:Prop} (h:p:=by have:=HK1.out;omega):p:=h
theorem zcj_ {p:Prop} (h:p:=by repeat (first | (with_reducible first | exact HI0.out | apply IsS86.alloc | apply IsS86.drewN | apply IsS86.drew | apply IsS86.set_1 | apply IsS86.set_2 | refine IsS86.far ?_ NB0_205.out _ | refine IsS86.far ?_ NB0_206.out _) | exact HI0.out)):p:=h
theorem zda_ {p:Prop} (h:p:=by repeat (first | (with_reducible first | exact HK.out | apply KeepBut.set_ | apply keep_drewN | apply keep_drew | apply keep_alloc | refine keep_far ?_ GW205.out _ | refine keep_far ?_ GW206.out _) | exact HK.out)):p:=h
theorem zdb_ {p:Prop} (h:p:=by repeat (first | (with_reducible first | exact HB.out | apply pA | apply pN | apply p1 | refine below_set ?_ (IsS86.ge HI0.out) | refine below_set ?_ GE205.out | refine below_set ?_ GE206.out) | exact HB.out)):p:=h
theorem zdc_ {p:Prop} (h:p:=by repeat (first | (with_reducible first | exact HB.out | apply pA | apply pN | apply p1 | refine below_set ?_ GE258.out | refine below_set ?_ GE259.out) | exact HB.out)):p:=h
theorem zdd_ {p:Prop} (h:p:=by first | exact Kd.R_nil _ _ _ _ _ | exact Kd.N_nil _ _ _ _ _ | exact Kd.V_nil _ _ _ _ _ | exact Kd.Q_nil _ _ _ _ _ | exact Kd.S_nil _ _ _ _ _):p:=h
theorem zde_ {p:Prop} (h:p:=by repeat (first | (with_reducible first | exact HB.out | apply pA | apply pN | apply p1 | refine below_set ?_ GE143.out | refine below_set ?_ GE144.out | refine below_set ?_ GE145.out) | exact HB.out)):p:=h
theorem zdf_ {p:Prop} (h:p:=by exact (Kd.C_below HR1_1.out HO_3.out.base)):p:=h
theorem zdg_ {p:Prop} (h:p:=by repeat (first | (with_reducible first | exact HB.out | apply pA | apply pN | apply p1 | refine below_set ?_ (IsS86.ge HI0.out) | refine below_set ?_ GE279.out) | exact HB.out)):p:=h
theorem zdh_ {p:Prop} (h:p:=by repeat (first | (with_reducible first | exact HB.out | apply pA | apply pN | apply p1 | refine below_set ?_ GE360.out | refine below_set ?_ GE361.out) | exact HB.out)):p:=h
theorem zdi_ {p:Prop} (h:p:=by exact (fun _ _=>trivial)):p:=h
theorem zdj_ {p:Prop} (h:p:=by repeat (first | (with_reducible first | exact HB.out | apply pA | apply pN | apply p1 | refine below_set ?_ GE113.out) | exact HB.out)):p:=h
theorem zea_ {p:Prop} (h:p:=by exact (Kd.C_below HR2_1.out HO_4.out.base)):p:=h
theorem zeb_ {p:Prop} (h:p:=by refine zb ?_;refine blk_far ?_ NB162_164.out _;refine zb ?_;refine blk_far ?_ NB162_164.out _;refine zb ?_;refine blk_far ?_ NB162_164.out _;refine zb ?_;exact BK162.out):p:=h
theorem zec_ {p:Prop} (h:p:=by refine zb ?_;refine blk_put (cs:=#[.int .i64 ((rd_T93 l0_1 x40_2).f0),.int .i64 ((rd_T93 l0_1 x40_2).f1),.int .i64 0]) ?_ 2 _ rfl;refine zb ?_;refine blk_put (cs:=#[.int .i64 ((rd_T93 l0_1 x40_2).f0),.int .i64 0,.int .i64 0]) ?_ 1 _ rfl;refine zb ?_;refine blk_put (cs:=#[.int .i64 0,.int .i64 0,.int .i64 0]) ?_ 0 _ rfl;refine zb ?_;exact BK164.out):p:=h
theorem zed_ {p:Prop} (h:p:=by repeat (first | (with_reducible first | exact HB.out | apply pA | apply pN | apply p1 | refine below_set ?_ GE180.out | refine below_set ?_ GE181.out | refine below_set ?_ GE185.out) | exact HB.out)):p:=h
theorem zee_ {p:Prop} (h:p:=by repeat (first | (with_reducible first | exact HB.out | apply pA | apply pN | apply p1 | refine below_set ?_ GE239.out) | exact HB.out)):p:=h
theorem zef_ {p:Prop} (h:p:=by repeat (first | (with_reducible first | exact HB.out | apply pA | apply pN | apply p1 | refine below_set ?_ GE360.out) | exact HB.out)):p:=h
theorem zeg_ {p:Prop} (h:p:=by repeat (first | (with_reducible first | exact HB.out | apply pA | apply pN | apply p1 | refine below_set ?_ GE101.out) | exact HB.out)):p:=h
theorem zeh_ {p:Prop} (h:p:=by first | rfl | rw [hwj]):p:=h
theorem zei_ {p:Prop} (h:p:=by subst hg;exact heap_alloc_new _ _):p:=h
theorem zej_ {p:Prop} (h:p:=by repeat (first | (with_reducible first | exact HB.out | apply pA | apply pN | apply p1 | refine below_set ?_ GE172.out) | exact HB.out)):p:=h
theorem zfa_ {p:Prop} (h:p:=by repeat (first | (with_reducible first | exact HB.out | apply pA | apply pN | apply p1 | refine below_set ?_ GE180.out | refine below_set ?_ GE181.out) | exact HB.out)):p:=h
theorem zfb_ {p:Prop} (h:p:=by repeat (first | (with_reducible first | exact HB.out | apply pA | apply pN | apply p1 | refine below_set ?_ GE239.out | refine below_set ?_ GE240.out) | exact HB.out)):p:=h
theorem zfc_ {p:Prop} (h:p:=by repeat (first | (with_reducible first | exact HB.out | apply pA | apply pN | apply p1 | refine below_set ?_ GE269.out | refine below_set ?_ GE270.out) | exact HB.out)):p:=h
theorem zfd_ {p:Prop} (h:p:=by have:=HL.out;simp;omega):p:=h
theorem zfe_ {p:Prop} (h:p:=by repeat (first | (with_reducible first | exact HB.out | apply pA | apply pN | apply p1 | refine below_set ?_ GE327.out | refine below_set ?_ GE328.out) | exact HB.out)):p:=h
theorem zff_ {p:Prop} (h:p:=by repeat (first | (with_reducible first | exact HB.out | apply pA | apply pN | apply p1 | refine below_set ?_ GE327.out | refine below_set ?_ GE328.out | refine below_set ?_ GE332.out) | exact HB.out)):p:=h
theorem zfg_ {p:Prop} (h:p:=by exact (Kd.C_below HR0_1.out HO_2.out.base)):p:=h
theorem zfh_ {p:Prop} (h:p:=by repeat (first | (with_reducible first | exact HB.out | apply pA | apply pN | apply p1 | refine below_set ?_ GE269.out | refine below_set ?_ GE270.out | refine below_set ?_ GE273.out) | exact HB.out)):p:=h
theorem zfi_ {p:Prop} (h:p:=by repeat (first | (with_reducible first | exact HB.out | apply pA | apply pN | apply p1 | refine below_set ?_ GE343.out | refine below_set ?_ GE344.out | refine below_set ?_ GE345.out) | exact HB.out)):p:=h
theorem zfj_ {p:Prop} (h:p:=by repeat (first | (with_reducible first | exact HB.out | apply pA | apply pN | apply p1 | refine below_set ?_ GE105.out | refine below_set ?_ GE106.out | refine below_set ?_ GE107.out) | exact HB.out)):p:=h
theorem zga_ {p:Prop} (h:p:=by have h1_:=HK_1.out;omega):p:=h
theorem zgb_ {p:Prop} (h:p:=by exact Kd.C_below HR0_1.out (by repeat (first | (with_reducible first | exact HB.out | apply pA | apply pN | apply p1 | refine below_set ?_ GE162.out | refine below_set ?_ GE164.out) | exact HB.out))):p:=h
theorem zgc_ {p:Prop} (h:p:=by have:=World.block_lt_of_cell? _ _ hx175_0;first | rwa [add_block] at this | exact this):p:=h
theorem zgd_ {p:Prop} (h:p:=by have:=HK1.out;have:=HK2.out;omega):p:=h
theorem zge_ {p:Prop} (h:p:=by repeat (first | (with_reducible first | exact HK.out | apply KeepBut.set_ | apply keep_drewN | apply keep_drew | apply keep_alloc | refine keep_far ?_ GW226.out _) | exact HK.out)):p:=h
theorem zgf_ {p:Prop} (h:p:=by repeat (first | (with_reducible first | exact HI0.out | apply IsS86.alloc | apply IsS86.drewN | apply IsS86.drew | apply IsS86.set_1 | apply IsS86.set_2 | refine IsS86.far ?_ NB0_226.out _) | exact HI0.out)):p:=h
theorem zgg_ {p:Prop} (h:p:=by dsimp only;rw [if_pos hgs,hgi]):p:=h
theorem zgh_ {p:Prop} (h:p:=by have:=HMG.out;have:=HQ.out;omega):p:=h
theorem zgi_ {p:Prop} (h:p:=by repeat (first | (with_reducible first | exact HB.out | apply pA | apply pN | apply p1 | refine below_set ?_ GE243.out) | exact HB.out)):p:=h
theorem zgj_ {p:Prop} (h:p:=by repeat (first | (with_reducible first | exact HB.out | apply pA | apply pN | apply p1 | refine below_set ?_ GE243.out | refine below_set ?_ GE244.out) | exact HB.out)):p:=h
theorem zha_ {p:Prop} (h:p:=by repeat (first | (with_reducible first | exact HB.out | apply pA | apply pN | apply p1 | refine below_set ?_ GE250.out) | exact HB.out)):p:=h
theorem zhb_ {p:Prop} (h:p:=by repeat (first | (with_reducible first | exact HB.out | apply pA | apply pN | apply p1 | refine below_set ?_ GE250.out | refine below_set ?_ GE251.out) | exact HB.out)):p:=h
theorem zhc_ {p:Prop} (h:p:=by repeat (first | (with_reducible first | exact HB.out | apply pA | apply pN | apply p1 | refine below_set ?_ GE258.out | refine below_set ?_ GE259.out | refine below_set ?_ GE261.out) | exact HB.out)):p:=h
theorem zhd_ {p:Prop} (h:p:=by exact Kd.C_below HR0.out HO.out.base):p:=h
theorem zhe_ {p:Prop} (h:p:=by repeat (first | (with_reducible first | exact HB.out | apply pA | apply pN | apply p1 | refine below_set ?_ GE372.out) | exact HB.out)):p:=h
theorem zhf_ {p:Prop} (h:p:=by rw [← add_field _ _ 1 (by omega)];exact hc 1 _ rfl):p:=h
theorem zhg_ {p:Prop} (h:p:=by have hq:=hc 0 _ rfl;rwa [Nat.mul_one,Nat.add_zero] at hq):p:=h
theorem zhh_ {p:Prop} (h:p:=by repeat (first | (with_reducible first | exact HB.out | apply pA | apply pN | apply p1 | refine below_set ?_ GE143.out | refine below_set ?_ GE144.out | refine below_set ?_ GE145.out | refine below_set ?_ GE149.out) | exact HB.out)):p:=h
theorem zhi_ {p:Prop} (h:p:=by have:=HJ3.out;have:=HK2.out;omega):p:=h
theorem zhj_ {p:Prop} (h:p:=by have:=HJ1.out;have:=HK2.out;first | omega | exact Nat.le_refl _):p:=h
theorem zia_ {p:Prop} (h:p:=by refine zb ?_;refine blk_far ?_ NB279_286.out _;refine zb ?_;refine blk_far ?_ NB279_286.out _;refine zb ?_;exact BK279.out):p:=h
theorem zib_ {p:Prop} (h:p:=by refine zb ?_;refine blk_put (cs:=#[.int .i64 t280,.slice none 0 0]) ?_ 1 _ rfl;refine zb ?_;refine blk_put (cs:=#[.int .i64 0,.slice none 0 0]) ?_ 0 _ rfl;refine zb ?_;exact BK286.out):p:=h
theorem zic_ {p:Prop} (h:p:=by rw [← add_field _ _ 2 (by omega)];exact hc 2 _ rfl):p:=h
theorem zid_ {p:Prop} (h:p:=by first | rfl | (simp;done)|(simp only [← hji6] <;> (first | rfl | simp))|(simp [*];done)):p:=h
theorem zie_ {p:Prop} (h:p:=by repeat (first | (with_reducible first | exact HB.out | apply pA | apply pN | apply p1 | refine below_set ?_ GE118.out | refine below_set ?_ GE132.out) | exact HB.out)):p:=h
theorem zif_ {p:Prop} (h:p:=by repeat (first | (with_reducible first | exact HB.out | apply pA | apply pN | apply p1 | refine below_set ?_ GE138.out) | exact HB.out)):p:=h
theorem zig_ {p:Prop} (h:p:=by repeat (first | (with_reducible first | exact HB.out | apply pA | apply pN | apply p1 | refine below_set ?_ GE157.out) | exact HB.out)):p:=h
theorem zih_ {p:Prop} (h:p:=by have h_:=c80_1.out;first | omega | (simp only [List.length_append,List.length_singleton,List.length_nil,List.nil_append] at h_ ⊢;omega)):p:=h
theorem zii_ {p:Prop} (h:p:=by repeat (first | (with_reducible first | exact HB.out | apply pA | apply pN | apply p1 | refine below_set ?_ GE159.out) | exact HB.out)):p:=h
theorem zij_ {p:Prop} (h:p:=by repeat (first | (with_reducible first | exact HB.out | apply pA | apply pN | apply p1 | refine below_set ?_ (IsS86.ge HI0.out) | refine below_set ?_ GE226.out) | exact HB.out)):p:=h
theorem zja_ {p:Prop} (h:p:=by repeat (first | (with_reducible first | exact HB.out | apply pA | apply pN | apply p1 | refine below_set ?_ GE266.out) | exact HB.out)):p:=h
theorem zjb_ {p:Prop} (h:p:=by repeat (first | (with_reducible first | exact HB.out | apply pA | apply pN | apply p1 | refine below_set ?_ GE312.out) | exact HB.out)):p:=h
theorem zjc_ {p:Prop} (h:p:=by repeat (first | (with_reducible first | exact HB.out | apply pA | apply pN | apply p1 | refine below_set ?_ GE105.out) | exact HB.out)):p:=h
theorem zjd_ {p:Prop} (h:p:=by repeat (first | (with_reducible first | exact HB.out | apply pA | apply pN | apply p1 | refine below_set ?_ GE105.out | refine below_set ?_ GE106.out) | exact HB.out)):p:=h
theorem zje_ {p:Prop} (h:p:=by (try simp only [mT,mC,mN]);first | done | rfl | (simp only [hsh,hs2];rfl)):p:=h
theorem zjf_ {p:Prop} (h:p:=by repeat (first | (with_reducible first | exact HB.out | apply pA | apply pN | apply p1 | refine below_set ?_ GE143.out) | exact HB.out)):p:=h
theorem zjg_ {p:Prop} (h:p:=by repeat (first | (with_reducible first | exact HB.out | apply pA | apply pN | apply p1 | refine below_set ?_ GE143.out | refine below_set ?_ GE144.out) | exact HB.out)):p:=h
theorem zjh_ {p:Prop} (h:p:=by repeat (first | exact (Kd.C_below HR1_1.out (by repeat (first | (with_reducible first | exact HB.out | apply pA | apply pN | apply p1 | refine below_set ?_ GE143.out | refine below_set ?_ GE144.out | refine below_set ?_ GE145.out) | exact HB.out)))|(with_reducible refine cA ?_ _)|(with_reducible refine cN ?_ _)|(with_reducible refine cD ?_))):p:=h
theorem zji_ {p:Prop} (h:p:=by repeat (first | (with_reducible first | exact HB.out | apply pA | apply pN | apply p1 | refine below_set ?_ GE180.out) | exact HB.out)):p:=h
theorem zjj_ {p:Prop} (h:p:=by repeat (first | (with_reducible first | exact HI0.out | apply IsS86.alloc | apply IsS86.drewN | apply IsS86.drew | apply IsS86.set_1 | apply IsS86.set_2 | refine IsS86.far ?_ NB0_205.out _) | exact HI0.out)):p:=h
theorem zbaa_ {p:Prop} (h:p:=by repeat (first | (with_reducible first | exact HK.out | apply KeepBut.set_ | apply keep_drewN | apply keep_drew | apply keep_alloc | refine keep_far ?_ GW205.out _) | exact HK.out)):p:=h
theorem zbab_ {p:Prop} (h:p:=by exact (keep_size (w:=w) (g:=g) (row:=none) (by repeat (first | (with_reducible first | exact HK.out | apply KeepBut.set_ | apply keep_drewN | apply keep_drew | apply keep_alloc | refine keep_far ?_ GW205.out _ | refine keep_far ?_ GW206.out _) | exact HK.out)))):p:=h
theorem zbac_ {p:Prop} (h:p:=by refine zb ?_;refine blk_put (cs:=#[.int .i64 a1,u207001]) ?_ 1 _ rfl;refine zb ?_;exact BK206.out):p:=h
theorem zbad_ {p:Prop} (h:p:=by repeat (first | (with_reducible first | exact HB.out | apply pA | apply pN | apply p1 | refine below_set ?_ GE258.out) | exact HB.out)):p:=h
theorem zbae_ {p:Prop} (h:p:=by repeat (first | (with_reducible first | exact HB.out | apply pA | apply pN | apply p1 | refine below_set ?_ GE269.out) | exact HB.out)):p:=h
theorem zbaf_ {p:Prop} (h:p:=by repeat (first | (with_reducible first | exact HB.out | apply pA | apply pN | apply p1 | refine below_set ?_ (IsS86.ge HI313.out) | refine below_set ?_ GE312.out) | exact HB.out)):p:=h
theorem zbag_ {p:Prop} (h:p:=by repeat (first | (with_reducible first | exact HB.out | apply pA | apply pN | apply p1 | refine below_set ?_ GE320.out) | exact HB.out)):p:=h
theorem zbah_ {p:Prop} (h:p:=by repeat (first | (with_reducible first | exact HB.out | apply pA | apply pN | apply p1 | refine below_set ?_ GE327.out) | exact HB.out)):p:=h
theorem zbai_ {p:Prop} (h:p:=by repeat (first | (with_reducible first | exact HB.out | apply pA | apply pN | apply p1 | refine below_set ?_ GE343.out) | exact HB.out)):p:=h
theorem zbaj_ {p:Prop} (h:p:=by repeat (first | (with_reducible first | exact HB.out | apply pA | apply pN | apply p1 | refine below_set ?_ GE343.out | refine below_set ?_ GE344.out) | exact HB.out)):p:=h
theorem zbba_ {p:Prop} (h:p:=by repeat (first | exact (Kd.C_below HR1.out HB.out)|(with_reducible refine cA ?_ _)|(with_reducible refine cN ?_ _)|(with_reducible refine cD ?_))):p:=h
def errW:Option Int→Value
 | none => .nilIface
 | some c => .iface 0 (.int .i64 c)
theorem errW_none:errW none = .nilIface:=rfl
theorem errW_some (c:Int):errW (some c) = .iface 0 (.int .i64 c):=rfl
theorem info3:(Try.prog.info? 3).map (fun i=>(i.zero,i.size,i.bytes))=some (some (.int .i64 0),1,8):=by kernel_rfl
theorem info4:(Try.prog.info? 4).map (fun i=>(i.zero,i.size,i.bytes))=some (some (.bool false),1,1):=by kernel_rfl
theorem info26:(Try.prog.info? 26).map (fun i=>(i.zero,i.size,i.bytes))=some (some (.slice none 0 0),1,24):=by kernel_rfl
theorem info28:(Try.prog.info? 28).map (fun i=>(i.zero,i.size,i.bytes))=some (some (.agg #[(.int .i64 0),(.slice none 0 0),(.int .i64 0)]),3,40):=by kernel_rfl
theorem info39:(Try.prog.info? 39).map (fun i=>(i.zero,i.size,i.bytes))=some (some (.slice none 0 0),1,24):=by kernel_rfl
theorem info41:(Try.prog.info? 41).map (fun i=>(i.zero,i.size,i.bytes))=some (some (.agg #[(.int .i64 0),(.slice none 0 0)]),2,32):=by kernel_rfl
theorem info93:(Try.prog.info? 93).map (fun i=>(i.zero,i.size,i.bytes))=some (some (.agg #[(.int .i64 0),(.int .i64 0),(.int .i64 0)]),3,24):=by kernel_rfl
structure S93 where
 f0:Int
 f1:Int
 f2:Int
def z93:S93:=⟨(0:Int),(0:Int),(0:Int)⟩
def k93:Kd S93:=Kd.iso (Kd.pair (Kd.int .i64) (Kd.pair (Kd.int .i64) (Kd.int .i64))) (fun x:S93=>(x.f0,x.f1,x.f2))
theorem k93_open {w:World} {x:S93} {cs:List Value} (h:k93.K w x cs):cs=[.int .i64 x.f0,.int .i64 x.f1,.int .i64 x.f2]:=by
 obtain ⟨_,_,rfl,rfl,⟨_,_,rfl,rfl,rfl⟩⟩:=h
 exact rfl
theorem k93_openM {w:World} {base:Nat} {ok:Nat→Prop} {x:S93} {cs:List Value} (h:k93.M w base ok x cs):cs=[.int .i64 x.f0,.int .i64 x.f1,.int .i64 x.f2]:=by
 obtain ⟨_,_,rfl,rfl,⟨_,_,rfl,rfl,rfl⟩⟩:=h
 exact rfl
theorem k93_mk (w:World) (x:S93)  : k93.K w x [.int .i64 x.f0,.int .i64 x.f1,.int .i64 x.f2]:=⟨[.int .i64 x.f0],[.int .i64 x.f1,.int .i64 x.f2],rfl,rfl,⟨[.int .i64 x.f1],[.int .i64 x.f2],rfl,rfl,rfl⟩⟩
theorem k93_mkM (w:World) (base:Nat) (ok:Nat→Prop) (x:S93)  : k93.M w base ok x [.int .i64 x.f0,.int .i64 x.f1,.int .i64 x.f2]:=⟨[.int .i64 x.f0],[.int .i64 x.f1,.int .i64 x.f2],rfl,rfl,⟨[.int .i64 x.f1],[.int .i64 x.f2],rfl,rfl,rfl⟩⟩
def rd_T93 (xs:List S93) (i:Int):S93:=xs.getD i.toNat z93
theorem at_T93 {w:World} {A:Option Addr} {n:Nat} {xs:List S93} (h:Kd.C k93 w A n xs) (i:Int) (h0:0≤i) (h1:i<n):∃ ad ,A=some ad∧w.cell? (ad.add (i.toNat * 3))=some (.int .i64 (rd_T93 xs i).f0)∧w.cell? ⟨(ad.add (i.toNat * 3)).block,(ad.add (i.toNat * 3)).off+1,none⟩=some (.int .i64 (rd_T93 xs i).f1)∧w.cell? ⟨(ad.add (i.toNat * 3)).block,(ad.add (i.toNat * 3)).off+2,none⟩=some (.int .i64 (rd_T93 xs i).f2):=by
 obtain ⟨ad,c,e,_,hK,hc0⟩:=Kd.C_get h z93 i h0 h1
 have hc:∀ j u,c[j]?=some u→w.cell? (ad.add (i.toNat * 3+j))=some u:=hc0
 obtain rfl:=k93_open hK
 exact ⟨ad,e,hc 0 _ rfl,zhf_,zic_⟩
def rd_L2 (xs:List (List Int)) (i:Int):(List Int):=xs.getD i.toNat ([]:List Int)
theorem at_L2 {w:World} {A:Option Addr} {n:Nat} {xs:List (List Int)} (h:Kd.C (Kd.slice 3 (Kd.int .i64)) w A n xs) (i:Int) (h0:0≤i) (h1:i<n):∃ ad A0 c0,A=some ad∧w.cell? (ad.add i.toNat)=some (.slice A0 (rd_L2 xs i).length c0)∧(rd_L2 xs i).length≤c0∧(Kd.int .i64).C w A0 (rd_L2 xs i).length (rd_L2 xs i):=by
 obtain ⟨ad,c,e,_,hK,hc0⟩:=Kd.C_get h ([]:List Int) i h0 h1
 have hc:∀ j u,c[j]?=some u→w.cell? (ad.add (i.toNat * 1+j))=some u:=hc0
 obtain ⟨A0,c0,rfl,l0,g0⟩:=hK
 exact ⟨ad,A0,c0,e,zhg_,l0,g0⟩
structure S41 where
 f0:Int
 f1:(List Int)
def z41:S41:=⟨(0:Int),([]:List Int)⟩
def k41:Kd S41:=Kd.iso (Kd.pair (Kd.int .i64) (Kd.slice 3 (Kd.int .i64))) (fun x:S41=>(x.f0,x.f1))
theorem k41_open {w:World} {x:S41} {cs:List Value} (h:k41.K w x cs):∃ A1 c1,cs=[.int .i64 x.f0,.slice A1 x.f1.length c1]∧x.f1.length≤c1∧(Kd.int .i64).C w A1 x.f1.length x.f1:=by
 obtain ⟨_,_,rfl,rfl,⟨A1,c1,rfl,l1,g1⟩⟩:=h
 exact ⟨A1,c1,rfl,l1,g1⟩
theorem k41_openM {w:World} {base:Nat} {ok:Nat→Prop} {x:S41} {cs:List Value} (h:k41.M w base ok x cs):∃ v1,cs=[.int .i64 x.f0,v1]∧(Kd.int .i64).R 3 w base ok v1 x.f1:=by
 obtain ⟨_,_,rfl,rfl,⟨v1,rfl,g1⟩⟩:=h
 exact ⟨v1,rfl,g1⟩
theorem k41_mk (w:World) (x:S41) {A1:Option Addr} {c1:Nat} (l1:x.f1.length≤c1) (g1:(Kd.int .i64).C w A1 x.f1.length x.f1):k41.K w x [.int .i64 x.f0,.slice A1 x.f1.length c1]:=⟨[.int .i64 x.f0],[.slice A1 x.f1.length c1],rfl,rfl,⟨A1,c1,rfl,l1,g1⟩⟩
theorem k41_mkM (w:World) (base:Nat) (ok:Nat→Prop) (x:S41) {v1:Value} (g1:(Kd.int .i64).R 3 w base ok v1 x.f1):k41.M w base ok x [.int .i64 x.f0,v1]:=⟨[.int .i64 x.f0],[v1],rfl,rfl,⟨v1,rfl,g1⟩⟩
def rd_T41 (xs:List S41) (i:Int):S41:=xs.getD i.toNat z41
theorem at_T41 {w:World} {A:Option Addr} {n:Nat} {xs:List S41} (h:Kd.C k41 w A n xs) (i:Int) (h0:0≤i) (h1:i<n):∃ ad A1 c1,A=some ad∧w.cell? (ad.add (i.toNat * 2))=some (.int .i64 (rd_T41 xs i).f0)∧w.cell? ⟨(ad.add (i.toNat * 2)).block,(ad.add (i.toNat * 2)).off+1,none⟩=some (.slice A1 (rd_T41 xs i).f1.length c1)∧(rd_T41 xs i).f1.length≤c1∧(Kd.int .i64).C w A1 (rd_T41 xs i).f1.length (rd_T41 xs i).f1:=by
 obtain ⟨ad,c,e,_,hK,hc0⟩:=Kd.C_get h z41 i h0 h1
 have hc:∀ j u,c[j]?=some u→w.cell? (ad.add (i.toNat * 2+j))=some u:=hc0
 obtain ⟨A1,c1,rfl,l1,g1⟩:=k41_open hK
 exact ⟨ad,A1,c1,e,hc 0 _ rfl,zhf_,l1,g1⟩
def rd_L4 (xs:List (List S93)) (i:Int):(List S93):=xs.getD i.toNat ([]:List S93)
theorem at_L4 {w:World} {A:Option Addr} {n:Nat} {xs:List (List S93)} (h:Kd.C (Kd.slice 93 k93) w A n xs) (i:Int) (h0:0≤i) (h1:i<n):∃ ad A0 c0,A=some ad∧w.cell? (ad.add i.toNat)=some (.slice A0 (rd_L4 xs i).length c0)∧(rd_L4 xs i).length≤c0∧k93.C w A0 (rd_L4 xs i).length (rd_L4 xs i):=by
 obtain ⟨ad,c,e,_,hK,hc0⟩:=Kd.C_get h ([]:List S93) i h0 h1
 have hc:∀ j u,c[j]?=some u→w.cell? (ad.add (i.toNat * 1+j))=some u:=hc0
 obtain ⟨A0,c0,rfl,l0,g0⟩:=hK
 exact ⟨ad,A0,c0,e,zhg_,l0,g0⟩
structure S28 where
 f0:Int
 f1:(List S93)
 f2:Int
def z28:S28:=⟨(0:Int),([]:List S93),(0:Int)⟩
def k28:Kd S28:=Kd.iso (Kd.pair (Kd.int .i64) (Kd.pair (Kd.slice 93 k93) (Kd.int .i64))) (fun x:S28=>(x.f0,x.f1,x.f2))
theorem k28_open {w:World} {x:S28} {cs:List Value} (h:k28.K w x cs):∃ A1 c1,cs=[.int .i64 x.f0,.slice A1 x.f1.length c1,.int .i64 x.f2]∧x.f1.length≤c1∧k93.C w A1 x.f1.length x.f1:=by
 obtain ⟨_,_,rfl,rfl,⟨_,_,rfl,⟨A1,c1,rfl,l1,g1⟩,rfl⟩⟩:=h
 exact ⟨A1,c1,rfl,l1,g1⟩
theorem k28_openM {w:World} {base:Nat} {ok:Nat→Prop} {x:S28} {cs:List Value} (h:k28.M w base ok x cs):∃ v1,cs=[.int .i64 x.f0,v1,.int .i64 x.f2]∧k93.R 93 w base ok v1 x.f1:=by
 obtain ⟨_,_,rfl,rfl,⟨_,_,rfl,⟨v1,rfl,g1⟩,rfl⟩⟩:=h
 exact ⟨v1,rfl,g1⟩
theorem k28_mk (w:World) (x:S28) {A1:Option Addr} {c1:Nat} (l1:x.f1.length≤c1) (g1:k93.C w A1 x.f1.length x.f1):k28.K w x [.int .i64 x.f0,.slice A1 x.f1.length c1,.int .i64 x.f2]:=⟨[.int .i64 x.f0],[.slice A1 x.f1.length c1,.int .i64 x.f2],rfl,rfl,⟨[.slice A1 x.f1.length c1],[.int .i64 x.f2],rfl,⟨A1,c1,rfl,l1,g1⟩,rfl⟩⟩
theorem k28_mkM (w:World) (base:Nat) (ok:Nat→Prop) (x:S28) {v1:Value} (g1:k93.R 93 w base ok v1 x.f1):k28.M w base ok x [.int .i64 x.f0,v1,.int .i64 x.f2]:=⟨[.int .i64 x.f0],[v1,.int .i64 x.f2],rfl,rfl,⟨[v1],[.int .i64 x.f2],rfl,⟨v1,rfl,g1⟩,rfl⟩⟩
def rd_T28 (xs:List S28) (i:Int):S28:=xs.getD i.toNat z28
theorem at_T28 {w:World} {A:Option Addr} {n:Nat} {xs:List S28} (h:Kd.C k28 w A n xs) (i:Int) (h0:0≤i) (h1:i<n):∃ ad A1 c1,A=some ad∧w.cell? (ad.add (i.toNat * 3))=some (.int .i64 (rd_T28 xs i).f0)∧w.cell? ⟨(ad.add (i.toNat * 3)).block,(ad.add (i.toNat * 3)).off+1,none⟩=some (.slice A1 (rd_T28 xs i).f1.length c1)∧w.cell? ⟨(ad.add (i.toNat * 3)).block,(ad.add (i.toNat * 3)).off+2,none⟩=some (.int .i64 (rd_T28 xs i).f2)∧(rd_T28 xs i).f1.length≤c1∧k93.C w A1 (rd_T28 xs i).f1.length (rd_T28 xs i).f1:=by
 obtain ⟨ad,c,e,_,hK,hc0⟩:=Kd.C_get h z28 i h0 h1
 have hc:∀ j u,c[j]?=some u→w.cell? (ad.add (i.toNat * 3+j))=some u:=hc0
 obtain ⟨A1,c1,rfl,l1,g1⟩:=k28_open hK
 exact ⟨ad,A1,c1,e,hc 0 _ rfl,zhf_,zic_,l1,g1⟩
structure S123 where
 f0:Int
 f1:Int
 f2:Int
def z123:S123:=⟨(0:Int),(0:Int),(0:Int)⟩
def k123:Kd S123:=Kd.iso (Kd.pair (Kd.int .i64) (Kd.pair (Kd.int .i64) (Kd.int .i64))) (fun x:S123=>(x.f0,x.f1,x.f2))
theorem k123_open {w:World} {x:S123} {cs:List Value} (h:k123.K w x cs):cs=[.int .i64 x.f0,.int .i64 x.f1,.int .i64 x.f2]:=by
 obtain ⟨_,_,rfl,rfl,⟨_,_,rfl,rfl,rfl⟩⟩:=h
 exact rfl
theorem k123_openM {w:World} {base:Nat} {ok:Nat→Prop} {x:S123} {cs:List Value} (h:k123.M w base ok x cs):cs=[.int .i64 x.f0,.int .i64 x.f1,.int .i64 x.f2]:=by
 obtain ⟨_,_,rfl,rfl,⟨_,_,rfl,rfl,rfl⟩⟩:=h
 exact rfl
theorem k123_mk (w:World) (x:S123)  : k123.K w x [.int .i64 x.f0,.int .i64 x.f1,.int .i64 x.f2]:=⟨[.int .i64 x.f0],[.int .i64 x.f1,.int .i64 x.f2],rfl,rfl,⟨[.int .i64 x.f1],[.int .i64 x.f2],rfl,rfl,rfl⟩⟩
theorem k123_mkM (w:World) (base:Nat) (ok:Nat→Prop) (x:S123)  : k123.M w base ok x [.int .i64 x.f0,.int .i64 x.f1,.int .i64 x.f2]:=⟨[.int .i64 x.f0],[.int .i64 x.f1,.int .i64 x.f2],rfl,rfl,⟨[.int .i64 x.f1],[.int .i64 x.f2],rfl,rfl,rfl⟩⟩
def rd_T123 (xs:List S123) (i:Int):S123:=xs.getD i.toNat z123
theorem at_T123 {w:World} {A:Option Addr} {n:Nat} {xs:List S123} (h:Kd.C k123 w A n xs) (i:Int) (h0:0≤i) (h1:i<n):∃ ad ,A=some ad∧w.cell? (ad.add (i.toNat * 3))=some (.int .i64 (rd_T123 xs i).f0)∧w.cell? ⟨(ad.add (i.toNat * 3)).block,(ad.add (i.toNat * 3)).off+1,none⟩=some (.int .i64 (rd_T123 xs i).f1)∧w.cell? ⟨(ad.add (i.toNat * 3)).block,(ad.add (i.toNat * 3)).off+2,none⟩=some (.int .i64 (rd_T123 xs i).f2):=by
 obtain ⟨ad,c,e,_,hK,hc0⟩:=Kd.C_get h z123 i h0 h1
 have hc:∀ j u,c[j]?=some u→w.cell? (ad.add (i.toNat * 3+j))=some u:=hc0
 obtain rfl:=k123_open hK
 exact ⟨ad,e,hc 0 _ rfl,zhf_,zic_⟩
structure S109 where
 f0:Int
 f1:Int
 f2:Int
def z109:S109:=⟨(0:Int),(0:Int),(0:Int)⟩
def k109:Kd S109:=Kd.iso (Kd.pair (Kd.int .i64) (Kd.pair (Kd.int .i64) (Kd.int .i64))) (fun x:S109=>(x.f0,x.f1,x.f2))
theorem k109_open {w:World} {x:S109} {cs:List Value} (h:k109.K w x cs):cs=[.int .i64 x.f0,.int .i64 x.f1,.int .i64 x.f2]:=by
 obtain ⟨_,_,rfl,rfl,⟨_,_,rfl,rfl,rfl⟩⟩:=h
 exact rfl
theorem k109_openM {w:World} {base:Nat} {ok:Nat→Prop} {x:S109} {cs:List Value} (h:k109.M w base ok x cs):cs=[.int .i64 x.f0,.int .i64 x.f1,.int .i64 x.f2]:=by
 obtain ⟨_,_,rfl,rfl,⟨_,_,rfl,rfl,rfl⟩⟩:=h
 exact rfl
theorem k109_mk (w:World) (x:S109)  : k109.K w x [.int .i64 x.f0,.int .i64 x.f1,.int .i64 x.f2]:=⟨[.int .i64 x.f0],[.int .i64 x.f1,.int .i64 x.f2],rfl,rfl,⟨[.int .i64 x.f1],[.int .i64 x.f2],rfl,rfl,rfl⟩⟩
theorem k109_mkM (w:World) (base:Nat) (ok:Nat→Prop) (x:S109)  : k109.M w base ok x [.int .i64 x.f0,.int .i64 x.f1,.int .i64 x.f2]:=⟨[.int .i64 x.f0],[.int .i64 x.f1,.int .i64 x.f2],rfl,rfl,⟨[.int .i64 x.f1],[.int .i64 x.f2],rfl,rfl,rfl⟩⟩
def rd_T109 (xs:List S109) (i:Int):S109:=xs.getD i.toNat z109
theorem at_T109 {w:World} {A:Option Addr} {n:Nat} {xs:List S109} (h:Kd.C k109 w A n xs) (i:Int) (h0:0≤i) (h1:i<n):∃ ad ,A=some ad∧w.cell? (ad.add (i.toNat * 3))=some (.int .i64 (rd_T109 xs i).f0)∧w.cell? ⟨(ad.add (i.toNat * 3)).block,(ad.add (i.toNat * 3)).off+1,none⟩=some (.int .i64 (rd_T109 xs i).f1)∧w.cell? ⟨(ad.add (i.toNat * 3)).block,(ad.add (i.toNat * 3)).off+2,none⟩=some (.int .i64 (rd_T109 xs i).f2):=by
 obtain ⟨ad,c,e,_,hK,hc0⟩:=Kd.C_get h z109 i h0 h1
 have hc:∀ j u,c[j]?=some u→w.cell? (ad.add (i.toNat * 3+j))=some u:=hc0
 obtain rfl:=k109_open hK
 exact ⟨ad,e,hc 0 _ rfl,zhf_,zic_⟩
def rd_L10 (xs:List (List Bool)) (i:Int):(List Bool):=xs.getD i.toNat ([]:List Bool)
theorem at_L10 {w:World} {A:Option Addr} {n:Nat} {xs:List (List Bool)} (h:Kd.C (Kd.slice 4 Kd.bool) w A n xs) (i:Int) (h0:0≤i) (h1:i<n):∃ ad A0 c0,A=some ad∧w.cell? (ad.add i.toNat)=some (.slice A0 (rd_L10 xs i).length c0)∧(rd_L10 xs i).length≤c0∧Kd.bool.C w A0 (rd_L10 xs i).length (rd_L10 xs i):=by
 obtain ⟨ad,c,e,_,hK,hc0⟩:=Kd.C_get h ([]:List Bool) i h0 h1
 have hc:∀ j u,c[j]?=some u→w.cell? (ad.add (i.toNat * 1+j))=some u:=hc0
 obtain ⟨A0,c0,rfl,l0,g0⟩:=hK
 exact ⟨ad,A0,c0,e,zhg_,l0,g0⟩
def rd_L11 (xs:List (List Int)) (i:Int):(List Int):=xs.getD i.toNat ([]:List Int)
theorem at_L11 {w:World} {A:Option Addr} {n:Nat} {xs:List (List Int)} (h:Kd.C (Kd.slice 5 (Kd.int .u8)) w A n xs) (i:Int) (h0:0≤i) (h1:i<n):∃ ad A0 c0,A=some ad∧w.cell? (ad.add i.toNat)=some (.slice A0 (rd_L11 xs i).length c0)∧(rd_L11 xs i).length≤c0∧(Kd.int .u8).C w A0 (rd_L11 xs i).length (rd_L11 xs i):=by
 obtain ⟨ad,c,e,_,hK,hc0⟩:=Kd.C_get h ([]:List Int) i h0 h1
 have hc:∀ j u,c[j]?=some u→w.cell? (ad.add (i.toNat * 1+j))=some u:=hc0
 obtain ⟨A0,c0,rfl,l0,g0⟩:=hK
 exact ⟨ad,A0,c0,e,zhg_,l0,g0⟩
def rd_L12 (xs:List (List (List Int))) (i:Int):(List (List Int)):=xs.getD i.toNat ([]:List (List Int))
theorem at_L12 {w:World} {A:Option Addr} {n:Nat} {xs:List (List (List Int))} (h:Kd.C (Kd.slice 39 (Kd.slice 3 (Kd.int .i64))) w A n xs) (i:Int) (h0:0≤i) (h1:i<n):∃ ad A0 c0,A=some ad∧w.cell? (ad.add i.toNat)=some (.slice A0 (rd_L12 xs i).length c0)∧(rd_L12 xs i).length≤c0∧(Kd.slice 3 (Kd.int .i64)).C w A0 (rd_L12 xs i).length (rd_L12 xs i):=by
 obtain ⟨ad,c,e,_,hK,hc0⟩:=Kd.C_get h ([]:List (List Int)) i h0 h1
 have hc:∀ j u,c[j]?=some u→w.cell? (ad.add (i.toNat * 1+j))=some u:=hc0
 obtain ⟨A0,c0,rfl,l0,g0⟩:=hK
 exact ⟨ad,A0,c0,e,zhg_,l0,g0⟩
theorem eqA93 (d:Nat) (w:World) (x0 y0:Int) (x1 y1:Int) (x2 y2:Int) :
  (Op.equalIn (d+2) 93 (.agg #[.int .i64 x0,.int .i64 x1,.int .i64 x2]) (.agg #[.int .i64 y0,.int .i64 y1,.int .i64 y2])).run Try.prog w = .ok (x0 == y0 && (x1 == y1 && (x2 == y2))) w:=by
 refine eqA_of Try.underlying93 (by kernel_rfl) ?_
 refine eqf_cons (by rfl) (by go_simp;rfl) (by go_simp;rfl) (by go_simp) ?_
 refine eqf_cons (by rfl) (by go_simp;rfl) (by go_simp;rfl) (by go_simp) ?_
 exact eqf_last (by rfl) (by go_simp;rfl) (by go_simp;rfl) (by go_simp)
def spec_ttBit.f (a0:Int) (a1:Int):Option (Int):=if 0≤(IntKind.u64.wrap (a1)) then (some (Go.bits .and .i64 (shr .i64 a0 (IntKind.u64.wrap (a1))) 1)) else (none)
theorem spec_ttBit.calls (a0:Int) (a1:Int) (r:Int) (w:World) (h:spec_ttBit.f a0 a1=some r) :
  Calls Try.prog 112 #[.int .i64 a0,.int .i64 a1] w fun e w'=>e = .returned (.int .i64 r)∧Drawn0 w w':=by
 have H:(if 0≤(IntKind.u64.wrap (a1)) then (some (Go.bits .and .i64 (shr .i64 a0 (IntKind.u64.wrap (a1))) 1)) else (none))=some r:=h
 clear h
 obtain ⟨ji3,hji3⟩:∃ j_:Int,(IntKind.u64.wrap (a1))=j_:=⟨_,rfl⟩
 replace H:(if 0≤(ji3) then (some (Go.bits .and .i64 (shr .i64 a0 (ji3)) 1)) else (none))=some r:=by first | (rw [hji3] at H;exact H)|(simp only [hji3] at H ⊢;exact H)
 by_cases c4:0≤(ji3)
 ·rw [if_pos c4] at H
  have c4b0:=eq_true c4;have c4b1:=decide_eq_true c4;clear c4;obtain ⟨ji5,hji5⟩:∃ j_:Int,(shr .i64 a0 (ji3))=j_:=⟨_,rfl⟩;replace H:(some (Go.bits .and .i64 (ji5) 1))=some r:=by first | (rw [hji5] at H;exact H)|(simp only [hji5] at H ⊢;exact H)
  have hji5_:(a0 / 2 ^ min (ji3).toNat 64)=ji5:=hji5;have hji5z:(ji3)≤64→(a0 / 2 ^ (ji3).toNat)=ji5:=shr_small hji5;obtain rfl:=Option.some.inj H
  go_enter Try.func112,Try.ntmps112
  go_wp2
  go_ret
  exact ⟨by first | rfl | (simp;done)|(simp only [← hji3,← hji5] <;> (first | rfl | simp))|(simp [*];done),zi_⟩
 ·rw [if_neg c4] at H
  exact q3n_ H
def spec_ddValue.l0:Nat→Int→Int→Int→List (S93)→Int→Option (Int)
 | 0,_,_,_,_,_=>none
 | k+1,x1,x5,x102000,x102001,x102002=>if x5>1 then (if 0≤(wrap64 (x5 - 2)) then (if (wrap64 (x5 - 2))<(x102001.length:Int) then ((spec_ttBit.f x1 ((rd_T93 x102001 (wrap64 (x5 - 2))).f0)).bind fun t104=>(if t104=0 then (spec_ddValue.l0 k x1 ((rd_T93 x102001 (wrap64 (x5 - 2))).f1) x102000 x102001 x102002) else (spec_ddValue.l0 k x1 ((rd_T93 x102001 (wrap64 (x5 - 2))).f2) x102000 x102001 x102002))) else (none)) else (none)) else (some x5)
def spec_ddValue.f (k:Nat) (a0_0:Int) (l0_1:List (S93)) (a0_2:Int) (a1:Int):Option (Int):=spec_ddValue.l0 k a1 a0_2 a0_0 l0_1 a0_2
theorem spec_ddValue.calls (k:Nat) (a0_0:Int) (A0_1:Option Addr) (c0_1:Nat) (l0_1:List (S93)) (a0_2:Int) (a1:Int) (r:Int) (w:World) (hr0_1:Kd.C k93 w A0_1 l0_1.length l0_1) (hc0_1:l0_1.length≤c0_1) (h:spec_ddValue.f k a0_0 l0_1 a0_2 a1=some r) :
  Calls Try.prog 104 #[.agg #[.int .i64 a0_0,.slice A0_1 l0_1.length c0_1,.int .i64 a0_2],.int .i64 a1] w fun e w'=>e = .returned (.int .i64 r)∧Below w.heap.size w w':=by
 have hu28:=Try.underlying28
 have hu93:=Try.underlying93
 have HR0_1:=aM hr0_1
 have HC0_1:=aM hc0_1
 clear hr0_1 hc0_1
 have HB:=aM (Below.refl w.heap.size w)
 have H:(spec_ddValue.l0 k a1 a0_2 a0_0 l0_1 a0_2)=some r:=h
 clear h
 have H':=aM H
 clear H
 go_enter Try.func104,Try.ntmps104
 go_wp2_with (first | ((with_reducible refine gate_dst (N:=2) rfl ?_);refine box_event ?hg (N:=2) ?hd (cs:=#[.int .i64 a0_0,.slice A0_1 l0_1.length c0_1,.int .i64 a0_2]) (t:=28) ?hr ?_;(case hd=>rfl);(case hg=>rfl);(case hr=>exact za_);intro gb101 hg w3 hbox hb;have n_:=z (below_step zb_ hb)<|z (hbox)<|z ((by rw [hg];exact (below_size zb_):w.heap.size≤gb101))<|z1 ((by rw [hg];exact (below_size zb_):w.heap.size≤gb101));clear HB;obtain ⟨HB,BK101,GW101,GE101⟩:=n_;clear hb hbox hg;obtain ⟨hcz4_0,hcz4_1,hcz4_2,hfz4_0,hfz4_1,hfz4_2⟩:=zk3 BK101.out))
 go_loopg [5] k (fun kq v5 w' => ∃ (x5_1:Int),v5 = .int .i64 x5_1∧Aside0 (spec_ddValue.l0 kq a1 x5_1 a0_0 l0_1 a0_2=some r)∧Aside0 (kq≤k)∧Aside0 (w'.heap[gb101]?=some (.cells #[.int .i64 a0_0,(.slice A0_1 l0_1.length c0_1),.int .i64 a0_2] 28 (0,0)))∧Aside0 (Below w.heap.size w w'))
 case atStart=>exact ⟨(a0_2),zd_,H',⟨Nat.le_refl _⟩,⟨zb BK101.out⟩,⟨zeg_⟩⟩
 case round =>
  clear H';(try clear hcz4_0);(try clear hcz4_1);(try clear hcz4_2);(try clear hfz4_0);(try clear hfz4_1);(try clear hfz4_2);obtain ⟨x5_1,rfl,HA,HK1,BK101,HB⟩:=hrel
  cases gk with
  | zero=>exact absurd HA.out (by simp [spec_ddValue.l0])
  | succ k1 =>
   have H:=HA.out;clear HA
   simp only [spec_ddValue.l0] at H
   by_cases c5:x5_1>1
   ·rw [if_pos c5] at H
    have c5b0:decide (1<x5_1)=true:=decide_eq_true c5;clear c5;obtain ⟨ji6,hji6⟩:∃ j_:Int,(wrap64 (x5_1 - 2))=j_:=⟨_,rfl⟩;replace H:(if 0≤(ji6) then (if (ji6)<(l0_1.length:Int) then ((spec_ttBit.f a1 ((rd_T93 l0_1 (ji6)).f0)).bind fun t104=>(if t104=0 then (spec_ddValue.l0 k1 a1 ((rd_T93 l0_1 (ji6)).f1) a0_0 l0_1 a0_2) else (spec_ddValue.l0 k1 a1 ((rd_T93 l0_1 (ji6)).f2) a0_0 l0_1 a0_2))) else (none)) else (none))=some r:=by first | (rw [hji6] at H;exact H)|(simp only [hji6] at H ⊢;exact H)
    have hji6w:(IntKind.i64.wrap (x5_1 - 2))=ji6:=(i64_w _).trans hji6
    by_cases c7:0≤(ji6)
    ·rw [if_pos c7] at H
     have c7b0:=decide_eq_true c7;clear c7
     by_cases c8:(ji6)<(l0_1.length:Int)
     ·rw [if_pos c8] at H
      have c8b0:=decide_eq_true c8;clear c8;replace H:=oB.mp H;obtain ⟨t104,A90,H⟩:=H;replace H:(if t104=0 then (spec_ddValue.l0 k1 a1 ((rd_T93 l0_1 (ji6)).f1) a0_0 l0_1 a0_2) else (spec_ddValue.l0 k1 a1 ((rd_T93 l0_1 (ji6)).f2) a0_0 l0_1 a0_2))=some r:=H;have A9:=aM A90;clear A90
      by_cases c10:t104=0
      ·rw [if_pos c10] at H
       have c10b0:=beq_iff_eq.mpr c10;have c10b1:=bne_eq_false_iff_eq.mpr c10;clear c10;have H':=aM H;clear H;obtain ⟨hcz11_0,hcz11_1,hcz11_2,hfz11_0,hfz11_1,hfz11_2⟩:=zk3 BK101.out;have p102:0≤((ji6):Int):=of_decide_eq_true zc_;have q102:(ji6)<(l0_1.length:Int):=of_decide_eq_true zc_;obtain ⟨ad102,e102,hx102_0,hx102_1,hx102_2⟩:=at_T93 HR0_1.out (ji6) p102 q102
       cases e102
       (try (replace hx102_0:=q3h_ HB.out hx102_0));(try (replace hx102_1:=q3h_ HB.out hx102_1));(try (replace hx102_2:=q3h_ HB.out hx102_2));replace p102:=eq_true p102;replace q102:=eq_true q102
       go_wp2_with (first | ((with_reducible refine gate_dst (N:=6) rfl ?_);refine box_event ?hg (N:=6) ?hd (cs:=#[.int .i64 0,.int .i64 0,.int .i64 0]) (t:=93) ?hr ?_;(case hd=>rfl);(case hg=>rfl);(case hr=>exact za_);intro gb103 hg w12 hbox hb;have n_:=z (blk_below (zb BK101.out) hb)<|z (below_step zeg_ hb)<|z (hbox)<|z ((by rw [hg];exact (below_size zeg_):w.heap.size≤gb103))<|z ((by rw [hg];exact (below_size zeg_):w.heap.size≤gb103))<|z ((by rw [hg];exact Nat.ne_of_lt (blk_lt (zb BK101.out)):gb101≠gb103))<|z1 ((by rw [hg];exact Nat.ne_of_gt (blk_lt (zb BK101.out)):gb103≠gb101));clear BK101 HB;obtain ⟨BK101,HB,BK103,GW103,GE103,NB101_103,NB103_101⟩:=n_;clear hb hbox hg;have hnb13:=NB103_101.out;have hnc13:=NB101_103.out;obtain ⟨hcz14_0,hcz14_1,hcz14_2,hfz14_0,hfz14_1,hfz14_2⟩:=zk3 BK103.out)|((with_reducible refine gate_callee (f:=112) rfl ?_);refine goesL_ (some 20) rfl rfl Try.func112 (by kernel_rfl) rfl #[.int .i64 a1,.int .i64 ((rd_T93 l0_1 (ji6)).f0)] rfl (by (try simp only [mT,mC,mN]);first | done | (simp only [hji6];rfl) | rfl | (simp only [lD,lT];rfl)) ?_;(with_reducible refine (spec_ttBit.calls a1 ((rd_T93 l0_1 (ji6)).f0) t104 _ A9.out).mono ?_);rintro e w' ⟨rfl,⟨nd,rfl⟩⟩;refine ⟨_,rfl,?_⟩))
       go_roundg k1
       case measure=>have:=HK1.out;omega
       case rel=>exact ⟨((rd_T93 l0_1 (ji6)).f1),zid_,H',⟨zci_⟩,⟨by refine zb ?_;refine blk_far ?_ NB101_103.out _;refine zb ?_;refine blk_far ?_ NB101_103.out _;refine zb ?_;refine blk_far ?_ NB101_103.out _;refine zb ?_;exact BK101.out⟩,⟨by repeat (first | (with_reducible first | exact HB.out | apply pA | apply pN | apply p1 | refine below_set ?_ GE101.out | refine below_set ?_ GE103.out) | exact HB.out)⟩⟩
      ·rw [if_neg c10] at H
       have c10b0:=beq_eq_false_iff_ne.mpr c10;have c10b1:=bne_iff_ne.mpr c10;have H':=aM H;clear H;obtain ⟨hcz15_0,hcz15_1,hcz15_2,hfz15_0,hfz15_1,hfz15_2⟩:=zk3 BK101.out;have p102:0≤((ji6):Int):=of_decide_eq_true zc_;have q102:(ji6)<(l0_1.length:Int):=of_decide_eq_true zc_;obtain ⟨ad102,e102,hx102_0,hx102_1,hx102_2⟩:=at_T93 HR0_1.out (ji6) p102 q102
       cases e102
       (try (replace hx102_0:=q3h_ HB.out hx102_0));(try (replace hx102_1:=q3h_ HB.out hx102_1));(try (replace hx102_2:=q3h_ HB.out hx102_2));replace p102:=eq_true p102;replace q102:=eq_true q102
       go_wp2_with (first | ((with_reducible refine gate_dst (N:=6) rfl ?_);refine box_event ?hg (N:=6) ?hd (cs:=#[.int .i64 0,.int .i64 0,.int .i64 0]) (t:=93) ?hr ?_;(case hd=>rfl);(case hg=>rfl);(case hr=>exact za_);intro gb103 hg w16 hbox hb;have n_:=z (blk_below (zb BK101.out) hb)<|z (below_step zeg_ hb)<|z (hbox)<|z ((by rw [hg];exact (below_size zeg_):w.heap.size≤gb103))<|z ((by rw [hg];exact (below_size zeg_):w.heap.size≤gb103))<|z ((by rw [hg];exact Nat.ne_of_lt (blk_lt (zb BK101.out)):gb101≠gb103))<|z1 ((by rw [hg];exact Nat.ne_of_gt (blk_lt (zb BK101.out)):gb103≠gb101));clear BK101 HB;obtain ⟨BK101,HB,BK103,GW103,GE103,NB101_103,NB103_101⟩:=n_;clear hb hbox hg;have hnb17:=NB103_101.out;have hnc17:=NB101_103.out;obtain ⟨hcz18_0,hcz18_1,hcz18_2,hfz18_0,hfz18_1,hfz18_2⟩:=zk3 BK103.out)|((with_reducible refine gate_callee (f:=112) rfl ?_);refine goesL_ (some 20) rfl rfl Try.func112 (by kernel_rfl) rfl #[.int .i64 a1,.int .i64 ((rd_T93 l0_1 (ji6)).f0)] rfl (by (try simp only [mT,mC,mN]);first | done | (simp only [hji6];rfl) | rfl | (simp only [lD,lT];rfl)) ?_;(with_reducible refine (spec_ttBit.calls a1 ((rd_T93 l0_1 (ji6)).f0) t104 _ A9.out).mono ?_);rintro e w' ⟨rfl,⟨nd,rfl⟩⟩;refine ⟨_,rfl,?_⟩))
       go_roundg k1
       case measure=>have:=HK1.out;omega
       case rel=>exact ⟨((rd_T93 l0_1 (ji6)).f2),zid_,H',⟨zci_⟩,⟨by refine zb ?_;refine blk_far ?_ NB101_103.out _;refine zb ?_;refine blk_far ?_ NB101_103.out _;refine zb ?_;refine blk_far ?_ NB101_103.out _;refine zb ?_;exact BK101.out⟩,⟨by repeat (first | (with_reducible first | exact HB.out | apply pA | apply pN | apply p1 | refine below_set ?_ GE101.out | refine below_set ?_ GE103.out) | exact HB.out)⟩⟩
     ·rw [if_neg c8] at H
      exact q3n_ H
    ·rw [if_neg c7] at H
     exact q3n_ H
   ·rw [if_neg c5] at H
    have c5b0:decide (1<x5_1)=false:=decide_eq_false c5;clear c5;obtain rfl:=Option.some.inj H
    go_wp2
    go_ret
    exact ⟨zg_,zeg_⟩
def spec_ddTable.l0:Nat→Int→Int→List (S93)→Int→Int→List Int→Option (Int×List Int)
 | 0,_,_,_,_,_,_=>none
 | k+1,x4,x106000,x106001,x106002,x108000,x108001=>if 0≤(IntKind.u64.wrap (x106000)) then (if x4<(shl .i64 1 (IntKind.u64.wrap (x106000))) then ((spec_ddValue.f k x106000 x106001 x106002 x4).bind fun t108=>(if x108001.length<17592186044416 then (spec_ddTable.l0 k (wrap64 (x4+1)) x106000 x106001 x106002 x108000 (x108001 ++ [t108])) else (none))) else (some (x108000,x108001))) else (none)
def spec_ddTable.f (k:Nat) (a0_0:Int) (l0_1:List (S93)) (a0_2:Int):Option (Int×List Int):=spec_ddTable.l0 k 0 a0_0 l0_1 a0_2 a0_0 ([]:List Int)
def spec_ddTable.T5:Bool×List (List Nat×List Nat):=(true,[([],[]),([0],[0]),([],[]),([],[]),([2,3],[2,3]),([4],[4]),([1,5,4],[1,5]),([0,1,2,3,4,5,6],[]),([7,6,6,0,1,2,3,4,5,6],[6,7])])
def spec_ddTable.B5:List Nat:=[0,1,0,0,12,28,63,127,255]
theorem spec_ddTable.tab5:rtab .any (opsOf Try.f53 5)=spec_ddTable.T5:=by kernel_rfl
theorem spec_ddTable.bits5:waitsOk spec_ddTable.T5.2 spec_ddTable.B5=true:=by kernel_rfl
theorem spec_ddTable.calls (k:Nat) (a0_0:Int) (A0_1:Option Addr) (c0_1:Nat) (l0_1:List (S93)) (a0_2:Int) (r1:Int) (r2:List Int) (w:World) (hr0_1:Kd.C k93 w A0_1 l0_1.length l0_1) (hc0_1:l0_1.length≤c0_1) (h:spec_ddTable.f k a0_0 l0_1 a0_2=some (r1,r2)) :
  Calls Try.prog 53 #[.agg #[.int .i64 a0_0,.slice A0_1 l0_1.length c0_1,.int .i64 a0_2]] w fun e w' => ∃ v1_:Value,e = .returned (.agg #[.int .i64 r1,v1_])∧Kd.R (Kd.int .i64) 3 w' w.heap.size (fun _=>True) v1_ r2∧Below w.heap.size w w':=by
 have hu28:=Try.underlying28
 have hu41:=Try.underlying41
 have HR0_1:=aM hr0_1
 have HC0_1:=aM hc0_1
 clear hr0_1 hc0_1
 have HB:=aM (Below.refl w.heap.size w)
 have H:(spec_ddTable.l0 k 0 a0_0 l0_1 a0_2 a0_0 ([]:List Int))=some (r1,r2):=h
 clear h
 have H':=aM H
 clear H
 go_enter Try.func53,Try.ntmps53
 go_wp2_with (first | ((with_reducible refine gate_dst (N:=1) rfl ?_);refine box_event ?hg (N:=1) ?hd (cs:=#[.int .i64 a0_0,.slice A0_1 l0_1.length c0_1,.int .i64 a0_2]) (t:=28) ?hr ?_;(case hd=>rfl);(case hg=>rfl);(case hr=>exact za_);intro gb105 hg w2 hbox hb;have n_:=z (below_step zb_ hb)<|z (hbox)<|z ((by rw [hg];exact (below_size zb_):w.heap.size≤gb105))<|z1 ((by rw [hg];exact (below_size zb_):w.heap.size≤gb105));clear HB;obtain ⟨HB,BK105,GW105,GE105⟩:=n_;clear hb hbox hg)|((with_reducible refine gate_dst (N:=2) rfl ?_);refine box_event ?hg (N:=2) ?hd (cs:=#[.int .i64 0,.slice none 0 0]) (t:=41) ?hr ?_;(case hd=>rfl);(case hg=>rfl);(case hr=>exact za_);intro gb106 hg w3 hbox hb;have n_:=z (blk_below (zb BK105.out) hb)<|z (below_step zjc_ hb)<|z (hbox)<|z ((by rw [hg];exact (below_size zjc_):w.heap.size≤gb106))<|z ((by rw [hg];exact (below_size zjc_):w.heap.size≤gb106))<|z ((by rw [hg];exact Nat.ne_of_lt (blk_lt (zb BK105.out)):gb105≠gb106))<|z1 ((by rw [hg];exact Nat.ne_of_gt (blk_lt (zb BK105.out)):gb106≠gb105));clear BK105 HB;obtain ⟨BK105,HB,BK106,GW106,GE106,NB105_106,NB106_105⟩:=n_;clear hb hbox hg;have hnb4:=NB105_106.out;have hnc4:=NB106_105.out;obtain ⟨hcz5_0,hcz5_1,hcz5_2,hfz5_0,hfz5_1,hfz5_2⟩:=zk3 BK105.out)|((with_reducible refine gate_dst (N:=3) rfl ?_);refine box_event ?hg (N:=3) ?hd (cs:=#[.int .i64 0,.slice none 0 0]) (t:=41) ?hr ?_;(case hd=>rfl);(case hg=>rfl);(case hr=>exact za_);intro gb107 hg w6 hbox hb;have n_:=z (blk_below (zb BK105.out) hb)<|z (blk_below (zb BK106.out) hb)<|z (below_step zjd_ hb)<|z (hbox)<|z ((by rw [hg];exact (below_size zjd_):w.heap.size≤gb107))<|z ((by rw [hg];exact (below_size zjd_):w.heap.size≤gb107))<|z ((by rw [hg];exact Nat.ne_of_lt (blk_lt (zb BK105.out)):gb105≠gb107))<|z ((by rw [hg];exact Nat.ne_of_gt (blk_lt (zb BK105.out)):gb107≠gb105))<|z ((by rw [hg];exact Nat.ne_of_lt (blk_lt (zb BK106.out)):gb106≠gb107))<|z1 ((by rw [hg];exact Nat.ne_of_gt (blk_lt (zb BK106.out)):gb107≠gb106));clear BK105 BK106 HB;obtain ⟨BK105,BK106,HB,BK107,GW107,GE107,NB105_107,NB107_105,NB106_107,NB107_106⟩:=n_;clear hb hbox hg;have hnb7:=NB107_105.out;have hnc7:=NB105_107.out;have hnb8:=NB107_106.out;have hnc8:=NB106_107.out;obtain ⟨hcz9_0,hcz9_1,hfz9_0,hfz9_1⟩:=zk2 BK107.out))
 go_loopg [4] k (fun kq v4 w' => ∃ (x4_1:Int) (x108001_1:List Int) (u108001:Value),v4 = .int .i64 x4_1∧Aside0 (spec_ddTable.l0 kq x4_1 a0_0 l0_1 a0_2 a0_0 x108001_1=some (r1,r2))∧Aside0 (kq≤k)∧Aside0 (Kd.R (Kd.int .i64) 3 w' w.heap.size (fun _=>True) u108001 x108001_1)∧Aside0 (w'.heap[gb105]?=some (.cells #[.int .i64 a0_0,(.slice A0_1 l0_1.length c0_1),.int .i64 a0_2] 28 (0,0)))∧Aside0 (w'.heap[gb106]?=some (.cells #[.int .i64 0,(.slice none 0 0)] 41 (0,0)))∧Aside0 (w'.heap[gb107]?=some (.cells #[.int .i64 a0_0,u108001] 41 (0,0)))∧Aside0 (Below w.heap.size w w'))
 case atStart=>exact ⟨(0),(([]:List Int)),(.slice none 0 0),zd_,H',⟨Nat.le_refl _⟩,⟨zdd_⟩,⟨by refine zb ?_;refine blk_far ?_ NB105_107.out _;refine zb ?_;refine blk_far ?_ NB105_107.out _;refine zb ?_;exact BK105.out⟩,⟨by refine zb ?_;refine blk_far ?_ NB106_107.out _;refine zb ?_;refine blk_far ?_ NB106_107.out _;refine zb ?_;exact BK106.out⟩,⟨by refine zb ?_;refine blk_put (cs:=#[.int .i64 a0_0,.slice none 0 0]) ?_ 1 _ rfl;refine zb ?_;refine blk_put (cs:=#[.int .i64 0,.slice none 0 0]) ?_ 0 _ rfl;refine zb ?_;exact BK107.out⟩,⟨zfj_⟩⟩
 case round =>
  clear H';(try clear hcz5_0);(try clear hcz5_1);(try clear hcz5_2);(try clear hcz9_0);(try clear hcz9_1);(try clear hfz5_0);(try clear hfz5_1);(try clear hfz5_2);(try clear hfz9_0);(try clear hfz9_1);obtain ⟨x4_1,x108001_1,u108001,rfl,HA,HK1,HO_108001,BK105,BK106,BK107,HB⟩:=hrel
  cases gk with
  | zero=>exact absurd HA.out (by simp [spec_ddTable.l0])
  | succ k1 =>
   have H:=HA.out;clear HA
   simp only [spec_ddTable.l0] at H
   obtain ⟨ji10,hji10⟩:∃ j_:Int,(IntKind.u64.wrap (a0_0))=j_:=⟨_,rfl⟩;replace H:(if 0≤(ji10) then (if x4_1<(shl .i64 1 (ji10)) then ((spec_ddValue.f k1 a0_0 l0_1 a0_2 x4_1).bind fun t108=>(if x108001_1.length<17592186044416 then (spec_ddTable.l0 k1 (wrap64 (x4_1+1)) a0_0 l0_1 a0_2 a0_0 (x108001_1 ++ [t108])) else (none))) else (some (a0_0,x108001_1))) else (none))=some (r1,r2):=by first | (rw [hji10] at H;exact H)|(simp only [hji10] at H ⊢;exact H)
   by_cases c11:0≤(ji10)
   ·rw [if_pos c11] at H
    have c11b0:=eq_true c11;have c11b1:=decide_eq_true c11;clear c11;obtain ⟨ji12,hji12⟩:∃ j_:Int,(shl .i64 1 (ji10))=j_:=⟨_,rfl⟩;replace H:(if x4_1<(ji12) then ((spec_ddValue.f k1 a0_0 l0_1 a0_2 x4_1).bind fun t108=>(if x108001_1.length<17592186044416 then (spec_ddTable.l0 k1 (wrap64 (x4_1+1)) a0_0 l0_1 a0_2 a0_0 (x108001_1 ++ [t108])) else (none))) else (some (a0_0,x108001_1)))=some (r1,r2):=by first | (rw [hji12] at H;exact H)|(simp only [hji12] at H ⊢;exact H)
    have hji12_:(IntKind.i64.wrap (1 * 2 ^ min (ji10).toNat 64))=ji12:=hji12;have hji12z:(ji10)≤64→(IntKind.i64.wrap (1 * 2 ^ (ji10).toNat))=ji12:=shl_small hji12;have hji12u:(IntKind.i64.wrap (2 ^ min (ji10).toNat 64))=ji12:=by have h_:=hji12_;rw [Int.one_mul] at h_;exact h_
    have hji12v:(ji10)≤64→(IntKind.i64.wrap (2 ^ (ji10).toNat))=ji12:=fun hle_=>by have h_:=hji12z hle_;rw [Int.one_mul] at h_;exact h_
    have hji12y:(wrap64 (1 * 2 ^ min (ji10).toNat 64))=ji12:=(i64_w _).symm.trans hji12_;have hji12x:(ji10)≤64→(wrap64 (1 * 2 ^ (ji10).toNat))=ji12:=fun h_=>(i64_w _).symm.trans (hji12z h_)
    by_cases c13:x4_1<(ji12)
    ·rw [if_pos c13] at H
     have c13b0:=decide_eq_true c13;clear c13;replace H:=oB.mp H;obtain ⟨t108,A140,H⟩:=H;replace H:(if x108001_1.length<17592186044416 then (spec_ddTable.l0 k1 (wrap64 (x4_1+1)) a0_0 l0_1 a0_2 a0_0 (x108001_1 ++ [t108])) else (none))=some (r1,r2):=H;have A14:=aM A140;clear A140
     by_cases c15:x108001_1.length<17592186044416
     ·rw [if_pos c15] at H
      have LMc15:=aM c15;clear c15;obtain ⟨y109,hy109⟩:∃ y_:List Int,y_=(x108001_1 ++ [t108]):=⟨_,rfl⟩;replace H:(spec_ddTable.l0 k1 (wrap64 (x4_1+1)) a0_0 l0_1 a0_2 a0_0 y109)=some (r1,r2):=q3y_ hy109 H
      have Ny109:=aM hy109;clear hy109;have H':=aM H;clear H;have hnb16:=NB105_106.out;have hnc16:=NB106_105.out;have hnb17:=NB105_107.out;have hnc17:=NB107_105.out;obtain ⟨hcz18_0,hcz18_1,hcz18_2,hfz18_0,hfz18_1,hfz18_2⟩:=zk3 BK105.out;(try go_wp2);have n_:=z (kD HO_108001.out)<|z (blk_drew BK105.out)<|z (blk_drew BK106.out)<|z (blk_drew BK107.out)<|z1 (p1 HB.out)
      clear HO_108001 BK105 BK106 BK107 HB;obtain ⟨HO_108001,BK105,BK106,BK107,HB⟩:=n_
      refine start_ (n:=9) (S:=fun w'=>w'.cell? ⟨gb107,0,none⟩=some (.int .i64 a0_0)∧w'.cell? ⟨gb107,1,none⟩=some (u108001)∧w'.cell? ⟨gb105,0,none⟩=some (.int .i64 a0_0)∧w'.cell? ⟨gb105,1,none⟩=some (.slice A0_1 l0_1.length c0_1)∧w'.cell? ⟨gb105,2,none⟩=some (.int .i64 a0_2)) (ds:=[8]) #[fi,fi,fi,fi,fi,fi,fi,fi,fi] (by kernel_rfl) rfl rfl ⟨(blk_cell BK107.out 0).trans rfl,(blk_cell BK107.out 1).trans rfl,(blk_cell BK105.out 0).trans rfl,(blk_cell BK105.out 1).trans rfl,(blk_cell BK105.out 2).trans rfl⟩ (fun hHeld=>?_);refine with_tabW spec_ddTable.tab5 spec_ddTable.bits5 (fun HT_ HW_=>?_)
      generalize wr.drew=w19 at HO_108001 BK105 BK106 BK107 HB hHeld ⊢;refine py_ 0 16 HT_.out ?_;refine py_ 3 19 HT_.out ?_
      refine tw5_ 1 17 HT_.out HW_.out hHeld ?_
      refine tw5_ 2 18 HT_.out HW_.out hHeld ?_
      refine one_ (i:=4) (N:=some 20) #[ti,ti,ti,ti,ti,fi,fi,fi,fi] rfl rfl (one_of HT_.out (by kernel_rfl)) (by decide) (fun K hK=>?_)
      refine goes_ Try.func104 (by kernel_rfl) rfl #[.agg #[.int .i64 a0_0,.slice A0_1 l0_1.length c0_1,.int .i64 a0_2],.int .i64 x4_1] (by rfl) rfl rfl zf_ ?_
      with_reducible refine (spec_ddValue.calls k1 a0_0 _ _ l0_1 a0_2 x4_1 t108 _ ?side1 ?side2 A14.out).mono ?_
      (case side1=>exact zj_)
      (case side2=>exact HC0_1.out)
      rintro e w20 ⟨rfl,hb⟩
      refine ⟨_,rfl,?_⟩
      have n_:=z (Kd.R_below (zr HO_108001.out) hb)<|z (blk_below (zb BK105.out) hb)<|z (blk_below (zb BK106.out) hb)<|z (blk_below (zb BK107.out) hb)<|z1 (below_step zfj_ hb)
      clear HO_108001 BK105 BK106 BK107 HB;obtain ⟨HO_108001,BK105,BK106,BK107,HB⟩:=n_;(try clear hb);(try clear hb2);(try clear hk);(try clear hi)
      refine hK.out _ _ ⟨(blk_cell BK107.out 0).trans rfl,(blk_cell BK107.out 1).trans rfl,(blk_cell BK105.out 0).trans rfl,(blk_cell BK105.out 1).trans rfl,(blk_cell BK105.out 2).trans rfl⟩ (fun hHeld=>?_)
      clear hK K
      refine nz_ 20 ?_
      refine one_ (i:=5) (N:=some 21) #[ti,ti,ti,ti,ti,ti,fi,fi,fi] rfl rfl (one_of HT_.out (by kernel_rfl)) (by decide) (fun K hK=>?_)
      refine value_ (w1:=?_) (v:=?_) (by rfl) rfl ?_ ?_
      rotate_left 2
      ·go_simp
       constructor
       ·rfl
       ·rfl
      refine hK.out _ _ ⟨(blk_cell (blk_alloc BK107.out _) 0).trans rfl,(blk_cell (blk_alloc BK107.out _) 1).trans rfl,(blk_cell (blk_alloc BK105.out _) 0).trans rfl,(blk_cell (blk_alloc BK105.out _) 1).trans rfl,(blk_cell (blk_alloc BK105.out _) 2).trans rfl⟩ (fun hHeld=>?_)
      clear hK K
      refine nz_ 21 ?_
      refine one_ (i:=6) (N:=some 22) #[ti,ti,ti,ti,ti,ti,ti,fi,fi] rfl rfl (one_of HT_.out (by kernel_rfl)) (by decide) (fun K hK=>?_)
      refine Kd.R_append_step (Kd.int .i64) (w0:=w) w.heap.size (by rfl) (.tmp 17) (.tmp 21) 39 3 (.int .i64 0) 8 rfl Try.underlying39 info3 rfl (by decide) (by omega) u108001 x108001_1 t108 [.int .i64 t108] (fun _=>True) (fun _=>False) rfl rfl ?aP (fun _ hk=>hk.elim) ?aF ?aO ?aB ?aS ?aL ?_
      (case aP=>exact rfl)
      (case aB=>exact zfj_)
      (case aF=>exact zdi_)
      (case aO=>exact (zr HO_108001.out))
      (case aS=>exact (below_size zfj_))
      (case aL=>have:=LMc15.out;omega)
      intro v110 w21 ho hb hg hat
      rw [← Ny109.out] at ho;have n_:=z (blk_grown (g:=gb105) (o := .cells #[.int .i64 a0_0,.slice A0_1 l0_1.length c0_1,.int .i64 a0_2] 28 (0,0)) (zb BK105.out) hg (Kd.R_ne HO_108001.out BK105.out (by decide)))<|z (blk_grown (g:=gb106) (o := .cells #[.int .i64 0,.slice none 0 0] 41 (0,0)) (zb BK106.out) hg (Kd.R_ne HO_108001.out BK106.out (by decide)))<|z (blk_grown (g:=gb107) (o := .cells #[.int .i64 a0_0,u108001] 41 (0,0)) (zb BK107.out) hg (Kd.R_ne HO_108001.out BK107.out (by decide)))<|z (hb)<|z1 (ho)
      clear BK105 BK106 BK107 HB HO_108001;obtain ⟨BK105,BK106,BK107,HB,HO111⟩:=n_;clear ho hb hg hat;obtain ⟨Ao22,co22,eo22⟩:=Kd.R_slice HO111.out;(first | subst eo22 | (injection eo22 with f1_ f2_ f3_;have f4_:=f1_.symm;have f5_:=f3_.symm;clear f1_ f2_ f3_;subst f4_;subst f5_))
      refine hK.out _ _ ⟨(blk_cell BK107.out 0).trans rfl,(blk_cell BK107.out 1).trans rfl,(blk_cell BK105.out 0).trans rfl,(blk_cell BK105.out 1).trans rfl,(blk_cell BK105.out 2).trans rfl⟩ (fun hHeld=>?_)
      clear hK K
      refine nz_ 22 ?_
      refine py_ 7 23 HT_.out ?_
      refine last_ (i:=8) (N:=none) #[ti,ti,ti,ti,ti,ti,ti,ti,ti] rfl rfl (one_of HT_.out (by kernel_rfl)) (by decide) (fun K hK=>?_)
      have hs23:w21.cell? ⟨gb107,1,none⟩=some (u108001):=(blk_cell BK107.out 1).trans rfl;have hfs23:=blk_frozen BK107.out 1;have hns23_0:=NB105_107.out;have hns23_1:=NB106_107.out;have hms23_0:=NB107_105.out;have hms23_1:=NB107_106.out
      refine skip_ (w1:=?_) (by rfl) rfl ?_ ?_
      rotate_left
      ·go_simp
       rfl
      refine hK.out _ _ ?_
      clear hK K
      refine done_ (done_of HT_.out (by kernel_rfl)) ?_
      (try go_wp2)
      go_roundg k1
      case measure=>have:=HK1.out;omega
      case rel=>exact ⟨(wrap64 (x4_1+1)),(y109),(.slice Ao22 y109.length co22),zd_,H',⟨zci_⟩,⟨by refine zr ?_;exact Kd.R_mono (Kd.R_far (p:=⟨gb107,1,none⟩) (Kd.R_types HO111.out BK107.out (by decide)) (fun _ hk=>hk.2) (.slice Ao22 y109.length co22)) (fun _ hk=>trivial)⟩,⟨by refine zb ?_;refine blk_far ?_ NB105_107.out _;refine zb ?_;exact BK105.out⟩,⟨by refine zb ?_;refine blk_far ?_ NB106_107.out _;refine zb ?_;exact BK106.out⟩,⟨by refine zb ?_;refine blk_put (cs:=#[.int .i64 a0_0,u108001]) ?_ 1 _ rfl;refine zb ?_;exact BK107.out⟩,⟨zfj_⟩⟩
     ·rw [if_neg c15] at H
      exact q3n_ H
    ·rw [if_neg c13] at H
     have c13b0:=decide_eq_false c13;clear c13
     simp only [Option.some.injEq,Prod.mk.injEq] at H
     obtain ⟨rfl,rfl⟩:=H;have hnb24:=NB105_106.out;have hnc24:=NB106_105.out;have hnb25:=NB105_107.out;have hnc25:=NB107_105.out;obtain ⟨hcz26_0,hcz26_1,hcz26_2,hfz26_0,hfz26_1,hfz26_2⟩:=zk3 BK105.out;have hnb27:=NB107_106.out;have hnc27:=NB106_107.out;obtain ⟨hcz28_0,hcz28_1,hfz28_0,hfz28_1⟩:=zk2 BK107.out;obtain ⟨hcz29_0,hcz29_1,hfz29_0,hfz29_1⟩:=zk2 BK106.out;obtain ⟨Ao30,co30,eo30⟩:=Kd.R_slice HO_108001.out;subst eo30
     go_wp2
     refine bodyPost_ret (results_cell_row rfl _ _ gb106 41 #[.int .i64 a0_0,.slice Ao30 x108001_1.length co30] (0,0) _ rfl (by refine zb ?_;refine blk_put (cs:=#[.int .i64 a0_0,.slice none 0 0]) ?_ 1 _ rfl;refine zb ?_;refine blk_put (cs:=#[.int .i64 0,.slice none 0 0]) ?_ 0 _ rfl;refine zb ?_;exact BK106.out) Try.underlying41 rfl (by kernel_rfl)) rfl ?_
     exact ⟨_,by first | rfl | (simp [errW_none,errW_some] <;> rfl)|(simp only [← hji10,← hji12];first | rfl | (simp [errW_none,errW_some] <;> rfl))|(simp [*,errW_none,errW_some] <;> rfl),by refine zr ?_;exact Kd.R_mono (Kd.R_far (p:=⟨gb106,1,none⟩) (Kd.R_far (p:=⟨gb106,0,none⟩) (Kd.R_types HO_108001.out BK106.out (by decide)) (fun _ hk=>hk.2) (.int .i64 a0_0)) (fun _ hk=>hk.2) (.slice Ao30 x108001_1.length co30)) (fun _ hk=>trivial),zfj_⟩
   ·rw [if_neg c11] at H
    exact q3n_ H
instance:DecidableEq S93:=fun a b=>decidable_of_iff (a.f0=b.f0∧a.f1=b.f1∧a.f2=b.f2) ⟨fun h=>by cases a;cases b;simp_all,fun h=>by subst h;exact ⟨rfl,rfl,rfl⟩⟩
def ndAt (x:S93):List S93→Nat
 | []=>0
 | y :: r=>if y=x then 0 else ndAt x r+1
def ndNode (ns:List S93) (x:S93):List S93×Int:=
 if x.f1=x.f2 then (ns,x.f1) else if ndAt x ns<ns.length then (ns,2+(ndAt x ns:Int)) else (ns ++ [x],2+(ns.length:Int))
def ndBuild (vs:List Int) (n:Nat):Nat→Nat→List S93→List S93×Int
 | 0,idx,ns=>(ns,rd vs (idx:Int))
 | d+1,idx,ns=>ndNode (ndBuild vs n d (idx+2 ^ (n - (d+1))) (ndBuild vs n d idx ns).1).1 ⟨((n - (d+1):Nat):Int),(ndBuild vs n d idx ns).2,(ndBuild vs n d (idx+2 ^ (n - (d+1))) (ndBuild vs n d idx ns).1).2⟩
theorem ndNode_length (ns:List S93) (x:S93):(ndNode ns x).1.length≤ns.length+1:=by
 unfold ndNode
 split
 ·dsimp only;omega
 ·split
  ·dsimp only;omega
  ·simp
theorem ndBuild_length (vs:List Int) (n:Nat):∀ (d idx:Nat) (ns:List S93),(ndBuild vs n d idx ns).1.length+1≤ns.length+2 ^ d:=by
 intro d
 induction d with
 | zero=>intro idx ns;rw [ndBuild];simp
 | succ d ih =>
  intro idx ns
  rw [ndBuild,Nat.pow_succ];have h1:=ih idx ns;have h2:=ih (idx+2 ^ (n - (d+1))) (ndBuild vs n d idx ns).1;have h3:=ndNode_length (ndBuild vs n d (idx+2 ^ (n - (d+1))) (ndBuild vs n d idx ns).1).1 ⟨((n - (d+1):Nat):Int),(ndBuild vs n d idx ns).2,(ndBuild vs n d (idx+2 ^ (n - (d+1))) (ndBuild vs n d idx ns).1).2⟩
  omega
theorem nd_at3m {w:World} {ad:Addr} {n:Nat} {xs:List (S93)} (h:Kd.C k93 w (some ad) n xs) (i:Int) (h0:0≤i) (h1:i<n):w.cell? (ad.add (i.toNat * 3))=some (.int .i64 (rd_T93 xs i).f0)∧w.cell? ⟨(ad.add (i.toNat * 3)).block,(ad.add (i.toNat * 3)).off+1,none⟩=some (.int .i64 (rd_T93 xs i).f1)∧w.cell? ⟨(ad.add (i.toNat * 3)).block,(ad.add (i.toNat * 3)).off+2,none⟩=some (.int .i64 (rd_T93 xs i).f2):=by
 obtain ⟨ad',e,h2⟩:=at_T93 h i h0 h1
 cases e
 exact h2
theorem nd_eqA (d:Nat) (w:World) (x0 y0:Int) (x1 y1:Int) (x2 y2:Int) :
  (Op.equalIn (d+2) 93 (.agg #[.int .i64 x0,.int .i64 x1,.int .i64 x2]) (.agg #[.int .i64 y0,.int .i64 y1,.int .i64 y2])).run Try.prog w = .ok (x0 == y0 && (x1 == y1 && (x2 == y2))) w:=by
 refine eqA_of Try.underlying93 (by kernel_rfl) ?_
 refine eqf_cons (by rfl) (by go_simp;rfl) (by go_simp;rfl) (by go_simp) ?_
 refine eqf_cons (by rfl) (by go_simp;rfl) (by go_simp;rfl) (by go_simp) ?_
 exact eqf_last (by rfl) (by go_simp;rfl) (by go_simp;rfl) (by go_simp)
theorem ndAt_drop (x:S93) (ns:List S93) (j:Int) (h0:0≤j) (h1:j<(ns.length:Int)):ndAt x (ns.drop j.toNat)=if rd_T93 ns j=x then 0 else ndAt x (ns.drop (j+1).toNat)+1:=by
 have hl:j.toNat<ns.length:=by omega
 rw [List.drop_eq_getElem_cons hl,ndAt,show (j+1).toNat=j.toNat+1 by omega]
 unfold rd_T93
 rw [List.getD_eq_getElem?_getD,List.getElem?_eq_getElem hl]
 rfl
theorem nd_eqb (a b:S93):(a.f0 == b.f0 && (a.f1 == b.f1 && (a.f2 == b.f2)))=decide (a=b):=by
 by_cases h:a=b
 ·subst h;simp
 ·rw [decide_eq_false h]
  cases a;cases b
  simp at h ⊢
  exact h
theorem nd_shl (n d idx:Nat) (hn:n≤4) (hd:d+1≤n) (hi:idx<2 ^ (n - (d+1))):shl .i64 1 ((n - (d+1):Nat):Int)=((2 ^ (n - (d+1)):Nat):Int)∧wrap64 ((idx:Int)+((2 ^ (n - (d+1)):Nat):Int))=((idx+2 ^ (n - (d+1)):Nat):Int)∧idx+2 ^ (n - (d+1))<2 ^ (n - d)∧idx<2 ^ (n - d)∧idx+2 ^ (n - (d+1))≤16∧Go.bits .or .i64 (idx:Int) ((2 ^ (n - (d+1)):Nat):Int)=((idx+2 ^ (n - (d+1)):Nat):Int):=by
 have h1:n - d=n - (d+1)+1:=by omega
 generalize hm:n - (d+1)=m at *
 have hm3:m≤3:=by omega
 rw [h1,Nat.pow_succ]
 have hw:∀ a b:Nat,a<16→b<16→wrap64 ((a:Int)+(b:Int))=((a+b:Nat):Int):=fun a b _ _=>by unfold wrap64;omega
 match m,hm3 with
 | 0,_=>refine ⟨by rfl,hw idx _ (by simp at hi;omega) (by decide),by omega,by omega,by simp at hi ⊢;omega,?_⟩;(obtain rfl:idx=0:=by simpa using hi);rfl
 | 1,_=>refine ⟨by rfl,hw idx _ (by simp at hi;omega) (by decide),by omega,by omega,by simp at hi ⊢;omega,?_⟩;match idx,hi with | 0,_=>rfl | 1,_=>rfl
 | 2,_=>refine ⟨by rfl,hw idx _ (by simp at hi;omega) (by decide),by omega,by omega,by simp at hi ⊢;omega,?_⟩;match idx,hi with | 0,_=>rfl | 1,_=>rfl | 2,_=>rfl | 3,_=>rfl
 | 3,_=>refine ⟨by rfl,hw idx _ (by simp at hi;omega) (by decide),by omega,by omega,by simp at hi ⊢;omega,?_⟩;match idx,hi with | 0,_=>rfl | 1,_=>rfl | 2,_=>rfl | 3,_=>rfl | 4,_=>rfl | 5,_=>rfl | 6,_=>rfl | 7,_=>rfl
section
attribute [local go_sem high] nd_eqA
open Go.Proofs.Ytlnhpkjioppbiaa.Sep in
set_option maxHeartbeats 16000000 in
set_option maxRecDepth 100000 in
theorem spec_ddBuild.node (w0:World) (g:Nat) (x0 x1 x2:Int) (ns:List (S93)) (hb:ns.length≤1000) (w:World) (vn:Value) (F:List Sep.Item) (_h:Own w0 w (Sep.Item.box g 120 #[vn] :: Sep.Item.row k93 93 vn ns :: F)) :
  Calls Try.prog 126 #[.pointer (some ⟨g,0,none⟩),.agg #[.int .i64 x0,.int .i64 x1,.int .i64 x2]] w fun e w'=>e = .returned (.int .i64 (ndNode ns ⟨x0,x1,x2⟩).2)∧∃ vn':Value,Own w0 w' (Sep.Item.box g 120 #[vn'] :: Sep.Item.row k93 93 vn' (ndNode ns ⟨x0,x1,x2⟩).1 :: F):=by
 obtain ⟨An,cn,rfl⟩:=_h.row_slice 1 rfl
 have HO:=aM _h
 have HB:=aM hb
 clear _h hb
 by_cases c1:x1=x2
 ·have c1b:(x1 == x2)=true:=beq_iff_eq.mpr c1
  rw [show ndNode ns (⟨x0,x1,x2⟩:S93)=(ns,x1) from by unfold ndNode;rw [if_pos c1]];clear c1
  go_enter Try.func126,Try.ntmps126
  go_wp2_with (first | ((with_reducible refine gate_dst (N:=3) rfl ?_);refine box_event ?hg (N:=3) ?hd (cs:=#[.int .i64 x0,.int .i64 x1,.int .i64 x2]) (t:=93) ?hr ?_;(case hd=>rfl);(case hg=>rfl);(case hr=>exact za_);intro gx hg w_1 hbox hb;have HO_1:=aM (HO.out.add_box (T:=93) (cs:=#[.int .i64 x0,.int .i64 x1,.int .i64 x2]) hg hbox hb);clear hg hbox hb;have z_1:w_1.cell? ⟨gx,1,none⟩=some (.int .i64 x1):=(HO_1.out.cell 0 rfl 1 rfl);have z_2:w_1.cell? ⟨gx,2,none⟩=some (.int .i64 x2):=(HO_1.out.cell 0 rfl 2 rfl);have z_3:w_1.cell? ⟨gx,1,none⟩=some (.int .i64 x1):=(HO_1.out.cell 0 rfl 1 rfl)))
  go_ret
  exact ⟨rfl,_,(((HO_1.out.front 2 rfl).front 2 rfl).front 2 rfl).tail⟩
 ·have c1b:(x1 == x2)=false:=beq_eq_false_iff_ne.mpr c1
  have HND:=aM (show ndNode ns (⟨x0,x1,x2⟩:S93)=if ndAt (⟨x0,x1,x2⟩:S93) ns<ns.length then (ns,2+(ndAt (⟨x0,x1,x2⟩:S93) ns:Int)) else (ns ++ [(⟨x0,x1,x2⟩:S93)],2+(ns.length:Int)) from by unfold ndNode;rw [if_neg c1]);clear c1
  go_enter Try.func126,Try.ntmps126
  go_wp2_with (first | ((with_reducible refine gate_dst (N:=3) rfl ?_);refine box_event ?hg (N:=3) ?hd (cs:=#[.int .i64 x0,.int .i64 x1,.int .i64 x2]) (t:=93) ?hr ?_;(case hd=>rfl);(case hg=>rfl);(case hr=>exact za_);intro gx hg w_1 hbox hb;have HO_1:=aM (HO.out.add_box (T:=93) (cs:=#[.int .i64 x0,.int .i64 x1,.int .i64 x2]) hg hbox hb);clear hg hbox hb;have z_1:w_1.cell? ⟨gx,1,none⟩=some (.int .i64 x1):=(HO_1.out.cell 0 rfl 1 rfl);have z_2:w_1.cell? ⟨gx,2,none⟩=some (.int .i64 x2):=(HO_1.out.cell 0 rfl 2 rfl);have z_3:w_1.cell? ⟨g,0,none⟩=some (.slice An ns.length cn):=(HO_1.out.cell 1 rfl 0 rfl)))
  (try simp only [Act.put,sI,s0,sS])
  go_loopw [19] (fun v19 wr => ∃ (j:Int),0≤j∧j≤(ns.length:Int)∧v19 = .int .i64 j∧Aside0 (ndAt (⟨x0,x1,x2⟩:S93) (ns.drop j.toNat)+j.toNat=ndAt (⟨x0,x1,x2⟩:S93) ns)∧Aside0 (Own w0 wr (Item.box gx 93 #[.int .i64 x0,.int .i64 x1,.int .i64 x2] :: Item.box g 120 #[.slice An ns.length cn] :: Item.row k93 93 (.slice An ns.length cn) (ns) :: F))) (fun v19 _=>ns.length - (intOf v19).toNat)
  case atStart=>exact ⟨0,Int.le_refl _,by omega,rfl,⟨rfl⟩,⟨(((HO_1.out.front 2 rfl).front 2 rfl).front 2 rfl)⟩⟩
  case round =>
   clear HO HO_1;obtain ⟨j,hj0,hj1,rfl,HJ,HO⟩:=hrel
   by_cases c2:j<(ns.length:Int)
   ·have c2b:=decide_eq_true c2
    have hwj:wrap64 (j+1)=j+1:=by have:=HB.out;unfold wrap64;omega
    obtain ⟨adn,er,hx_⟩:=at_T93 (HO.out.row_reads 2 rfl).2.2 j hj0 c2;clear hx_
    cases er
    have p1:(0≤j)=True:=eq_true hj0;have q1:(j<(ns.length:Int))=True:=eq_true c2;obtain ⟨y0,y1,y2,hnd⟩:∃ a0 a1 a2,rd_T93 ns j=⟨a0,a1,a2⟩:=⟨_,_,_,rfl⟩;have HN:=aM hnd;have had:=ndAt_drop (⟨x0,x1,x2⟩:S93) ns j hj0 c2;rw [hnd] at had;have HA:=aM had;clear had hnd;have HE:=aM (nd_eqb (⟨x0,x1,x2⟩:S93) ⟨y0,y1,y2⟩)
    by_cases c3:(⟨x0,x1,x2⟩:S93)=⟨y0,y1,y2⟩
    ·have he:=HE.out
     rw [decide_eq_true c3] at he
     dsimp only at he
     have ha:=HA.out;rw [if_pos c3.symm] at ha;have hj_:=HJ.out;have HP:=aM (show ndAt (⟨x0,x1,x2⟩:S93) ns=j.toNat by omega);have hw2:wrap64 (2+j)=2+j:=by have:=HB.out;unfold wrap64;omega
     clear ha hj_ c3;have z_4:wr.cell? (adn.add (j.toNat * 3))=some (.int .i64 y0):=(by have e:=(nd_at3m (HO.out.row_reads 2 rfl).2.2 j hj0 c2).1;rw [HN.out] at e;exact e);have z_5:wr.cell? ⟨(adn.add (j.toNat * 3)).block,(adn.add (j.toNat * 3)).off+1,none⟩=some (.int .i64 y1):=(by have e:=(nd_at3m (HO.out.row_reads 2 rfl).2.2 j hj0 c2).2.1;rw [HN.out] at e;exact e);have z_6:wr.cell? ⟨(adn.add (j.toNat * 3)).block,(adn.add (j.toNat * 3)).off+2,none⟩=some (.int .i64 y2):=(by have e:=(nd_at3m (HO.out.row_reads 2 rfl).2.2 j hj0 c2).2.2;rw [HN.out] at e;exact e)
     go_wp2_with (first | ((with_reducible refine gate_dst (N:=6) rfl ?_);refine box_event ?hg (N:=6) ?hd (cs:=#[.int .i64 0,.int .i64 0,.int .i64 0]) (t:=93) ?hr ?_;(case hd=>rfl);(case hg=>rfl);(case hr=>exact za_);intro g6 hg w_1 hbox hb;have HO_1:=aM (HO.out.add_box (T:=93) (cs:=#[.int .i64 0,.int .i64 0,.int .i64 0]) hg hbox hb);clear hg hbox hb)|((with_reducible refine gate_store (t:=93) (p:=6) (v := .tmp 23) rfl ?_);refine Sep.own_store HO_1.out 0 g6 93 _ #[.int .i64 y0,.int .i64 y1,.int .i64 y2] rfl rfl rfl 93 (.tmp 6) (.tmp 23) rfl rfl _ rfl rfl rfl (by kernel_rfl) (by simp [Value.oneCell']) ?_;intro w_2 ho;have HO_2:=aM ho;clear ho;have z_7:w_2.cell? ⟨gx,0,none⟩=some (.int .i64 x0):=(HO_2.out.cell 1 rfl 0 rfl);have z_8:w_2.cell? ⟨gx,1,none⟩=some (.int .i64 x1):=(HO_2.out.cell 1 rfl 1 rfl);have z_9:w_2.cell? ⟨gx,2,none⟩=some (.int .i64 x2):=(HO_2.out.cell 1 rfl 2 rfl);have z_10:w_2.cell? ⟨g6,0,none⟩=some (.int .i64 y0):=(HO_2.out.cell 0 rfl 0 rfl);have z_11:w_2.cell? ⟨g6,1,none⟩=some (.int .i64 y1):=(HO_2.out.cell 0 rfl 1 rfl);have z_12:w_2.cell? ⟨g6,2,none⟩=some (.int .i64 y2):=(HO_2.out.cell 0 rfl 2 rfl)))
     have hnn:=HND.out;rw [HP.out,if_pos (by omega),Int.toNat_of_nonneg hj0] at hnn;rw [hnn];clear hnn
     go_ret
     exact ⟨by first | rfl | rw [hw2],_,((((HO_2.out.front 3 rfl).front 3 rfl).front 3 rfl).front 3 rfl).tail.tail⟩
    ·have he:=HE.out
     rw [decide_eq_false c3] at he
     dsimp only at he
     have ha:=HA.out;rw [if_neg (fun e=>c3 e.symm)] at ha;have HJ2:=aM (show ndAt (⟨x0,x1,x2⟩:S93) (ns.drop (j+1).toNat)+(j+1).toNat=ndAt (⟨x0,x1,x2⟩:S93) ns by have:=HJ.out;omega);clear ha c3;have z_4:wr.cell? (adn.add (j.toNat * 3))=some (.int .i64 y0):=(by have e:=(nd_at3m (HO.out.row_reads 2 rfl).2.2 j hj0 c2).1;rw [HN.out] at e;exact e);have z_5:wr.cell? ⟨(adn.add (j.toNat * 3)).block,(adn.add (j.toNat * 3)).off+1,none⟩=some (.int .i64 y1):=(by have e:=(nd_at3m (HO.out.row_reads 2 rfl).2.2 j hj0 c2).2.1;rw [HN.out] at e;exact e);have z_6:wr.cell? ⟨(adn.add (j.toNat * 3)).block,(adn.add (j.toNat * 3)).off+2,none⟩=some (.int .i64 y2):=(by have e:=(nd_at3m (HO.out.row_reads 2 rfl).2.2 j hj0 c2).2.2;rw [HN.out] at e;exact e)
     go_wp2_with (first | ((with_reducible refine gate_dst (N:=6) rfl ?_);refine box_event ?hg (N:=6) ?hd (cs:=#[.int .i64 0,.int .i64 0,.int .i64 0]) (t:=93) ?hr ?_;(case hd=>rfl);(case hg=>rfl);(case hr=>exact za_);intro g6 hg w_1 hbox hb;have HO_1:=aM (HO.out.add_box (T:=93) (cs:=#[.int .i64 0,.int .i64 0,.int .i64 0]) hg hbox hb);clear hg hbox hb)|((with_reducible refine gate_store (t:=93) (p:=6) (v := .tmp 23) rfl ?_);refine Sep.own_store HO_1.out 0 g6 93 _ #[.int .i64 y0,.int .i64 y1,.int .i64 y2] rfl rfl rfl 93 (.tmp 6) (.tmp 23) rfl rfl _ rfl rfl rfl (by kernel_rfl) (by simp [Value.oneCell']) ?_;intro w_2 ho;have HO_2:=aM ho;clear ho;have z_7:w_2.cell? ⟨gx,0,none⟩=some (.int .i64 x0):=(HO_2.out.cell 1 rfl 0 rfl);have z_8:w_2.cell? ⟨gx,1,none⟩=some (.int .i64 x1):=(HO_2.out.cell 1 rfl 1 rfl);have z_9:w_2.cell? ⟨gx,2,none⟩=some (.int .i64 x2):=(HO_2.out.cell 1 rfl 2 rfl);have z_10:w_2.cell? ⟨g6,0,none⟩=some (.int .i64 y0):=(HO_2.out.cell 0 rfl 0 rfl);have z_11:w_2.cell? ⟨g6,1,none⟩=some (.int .i64 y1):=(HO_2.out.cell 0 rfl 1 rfl);have z_12:w_2.cell? ⟨g6,2,none⟩=some (.int .i64 y2):=(HO_2.out.cell 0 rfl 2 rfl)))
     go_roundw
     case measure=>simp only [intOf,hwj];omega
     case rel=>exact ⟨j+1,by omega,by omega,zeh_,HJ2,⟨((((HO_2.out.front 3 rfl).front 3 rfl).front 3 rfl).front 3 rfl).tail⟩⟩
   ·have c2b:=decide_eq_false c2
    obtain rfl:j=(ns.length:Int):=by omega
    have hj_:=HJ.out;rw [Int.toNat_natCast,List.drop_length,ndAt,Nat.zero_add] at hj_;have hnn:=HND.out;rw [← hj_,if_neg (Nat.lt_irrefl _)] at hnn;have HNN:=aM hnn;clear hnn hj_ HJ HND;have hwl:wrap64 (1+((ns.length+1:Nat):Int))=2+(ns.length:Int):=by have:=HB.out;unfold wrap64;omega
    go_wp2
    have HD_9_3:=aM (HO.out.drew)
    refine start_ (n:=11) (S:=fun w'=>w'.cell? ⟨g,0,none⟩=some (.slice An ns.length cn)∧w'.cell? ⟨gx,0,none⟩=some (.int .i64 x0)∧w'.cell? ⟨gx,1,none⟩=some (.int .i64 x1)∧w'.cell? ⟨gx,2,none⟩=some (.int .i64 x2)) (ds:=[10]) #[fi,fi,fi,fi,fi,fi,fi,fi,fi,fi,fi] (by kernel_rfl) rfl rfl ⟨(HD_9_3.out.cell 1 rfl 0 rfl),(HD_9_3.out.cell 0 rfl 0 rfl),(HD_9_3.out.cell 0 rfl 1 rfl),(HD_9_3.out.cell 0 rfl 2 rfl)⟩ (fun hHeld=>?_)
    generalize wr.drew=wd_9_4 at HD_9_3 hHeld ⊢
    refine oz_ 0 30 ?_
    refine oz_ 1 31 ?_
    refine oz_ 2 32 ?_
    refine oz_ 3 33 ?_
    refine tz4_ 4 34 hHeld ?_
    refine tz4_ 5 35 hHeld ?_
    refine oo_ 6 36 (fun K hK=>?_)
    refine value_ (w1:=?_) (v:=?_) (by rfl) rfl ?_ ?_
    rotate_left 2
    ·go_simp
     constructor
     ·rfl
     ·rfl
    have HOb36:=aM (HD_9_3.out.below (pA (Below.refl _ _) (.cells #[.int .i64 x0,.int .i64 x1,.int .i64 x2] 93)))
    refine hK.out _ _ ⟨(HOb36.out.cell 1 rfl 0 rfl),(HOb36.out.cell 0 rfl 0 rfl),(HOb36.out.cell 0 rfl 1 rfl),(HOb36.out.cell 0 rfl 2 rfl)⟩ (fun hHeld=>?_)
    clear hK K
    refine nz_ 36 ?_
    refine oo_ 7 37 (fun K hK=>?_)
    refine Sep.own_append_step k93 HD_9_3.out 2 _ (ns) 93 rfl (by rfl) (.tmp 34) (.tmp 36) 26 (.agg #[.int .i64 0,.int .i64 0,.int .i64 0]) 24 rfl Try.underlying26 info93 rfl (by decide) (by omega) ((⟨x0,x1,x2⟩:S93)) [.int .i64 x0,.int .i64 x1,.int .i64 x2] rfl rfl (k93_mkM _ _ _ _) (by have:=HB.out;omega) ?_
    intro x_37 w_2 ho
    obtain ⟨A_37,n_37,c_37,hn_,rfl⟩:=ho.row_seal 2 rfl;have HN_37:=aM hn_;clear hn_;have HO_2:=aM ho;clear ho
    refine hK.out _ _ ⟨(HO_2.out.cell 1 rfl 0 rfl),(HO_2.out.cell 0 rfl 0 rfl),(HO_2.out.cell 0 rfl 1 rfl),(HO_2.out.cell 0 rfl 2 rfl)⟩ (fun hHeld=>?_)
    clear hK K
    refine nz_ 37 ?_
    refine oz_ 8 38 ?_
    refine oz_ 9 39 ?_
    refine last_ (i:=10) (N:=none) #[ti,ti,ti,ti,ti,ti,ti,ti,ti,ti,ti] rfl rfl (by kernel_rfl) (by decide) (fun K hK=>?_)
    have hbs:=HO_2.out.cell 1 rfl 0 rfl;have hbf:=HO_2.out.free 1 rfl 0
    refine skip_ (w1:=?_) (by rfl) rfl ?_ ?_
    rotate_left
    ·go_simp
     rfl
    have HO_3:=aM (HO_2.out.put1 1 rfl 0 (.slice A_37 n_37 c_37));clear hbs hbf;generalize hgs_:World.setCell w_2 ⟨g,0,none⟩ (.slice A_37 n_37 c_37)=w_3 at HO_3 ⊢;clear hgs_
    refine hK.out _ _ ?_
    clear hK K
    refine done_ (by kernel_rfl) ?_
    have z_5:w_3.cell? ⟨g,0,none⟩=some (.slice A_37 n_37 c_37):=(HO_3.out.cell 1 rfl 0 rfl)
    go_wp2
    have hwl2:∀ m:Nat,m=(ns ++ [(⟨x0,x1,x2⟩:S93)]).length→wrap64 (1+(m:Int))=2+(ns.length:Int):=by intro m hm;rw [hm,List.length_append,List.length_singleton];exact hwl
    go_ret
    rw [HNN.out]
    exact ⟨by have hq:=hwl2 _ HN_37.out;first | (rw [hq];done)|(rw [hq];rfl),_,(((HO_3.out.front 2 rfl).front 2 rfl).front 2 rfl).tail⟩
end
open Go.Proofs.Ytlnhpkjioppbiaa.Sep in
set_option maxHeartbeats 16000000 in
set_option maxRecDepth 100000 in
theorem spec_ddBuild.build (w0:World) (g n:Nat) (hn:n≤4) (vs:List Int) (hv:vs.length=2 ^ n) (At:Option Addr) (ct:Nat) (hr:Kd.C (Kd.int .i64) w0 At vs.length vs):∀ (d idx:Nat) (ns:List (S93)) (i xx:Int) (w:World) (vn:Value) (F:List Sep.Item) (_hd:d≤n) (_hi:idx<2 ^ (n - d)) (_he:i=((n - d:Nat):Int)) (_hx:xx=(idx:Int)) (_hb:ns.length+2 ^ d≤1000) (_h:Own w0 w (Sep.Item.box g 120 #[vn] :: Sep.Item.row k93 93 vn ns :: F)),
  Calls Try.prog 105 #[.pointer (some ⟨g,0,none⟩),.agg #[.int .i64 (n:Int),.slice At vs.length ct],.int .i64 i,.int .i64 xx] w fun e w'=>e = .returned (.int .i64 (ndBuild vs n d idx ns).2)∧∃ vn':Value,Own w0 w' (Sep.Item.box g 120 #[vn'] :: Sep.Item.row k93 93 vn' (ndBuild vs n d idx ns).1 :: F):=by
 have HVL:=aM hv
 clear hv
 intro d
 induction d with
 | zero =>
  intro idx ns i xx w vn F hd hi he hx hb h
  obtain ⟨An,cn,rfl⟩:=h.row_slice 1 rfl;have HO:=aM h;have HB:=aM hb;have HI:=aM he;have HX:=aM hx;have HR:=aM hr;clear h hb hr;have c1b:(i == (n:Int))=true:=beq_iff_eq.mpr (by omega);have hx0:0≤xx:=by omega
  have hx1:xx<(vs.length:Int):=by rw [HVL.out,hx];simp only [Nat.sub_zero] at hi;omega
  obtain ⟨ad,ead,hc⟩:=Kd.at_int HR.out xx hx0 hx1
  cases ead
  have p1:(0≤xx)=True:=eq_true hx0;have q1:(xx<(vs.length:Int))=True:=eq_true hx1;obtain ⟨v,hv_⟩:∃ v,rd vs xx=v:=⟨_,rfl⟩;rw [hv_] at hc;have HC:=aM hc;have HV:=aM hv_;clear hc hv_ hi he hx
  go_enter Try.func105,Try.ntmps105
  go_wp2_with (first | ((with_reducible refine gate_dst (N:=5) rfl ?_);refine box_event ?hg (N:=5) ?hd (cs:=#[.int .i64 ((n:Int)),.slice ((some ad)) vs.length ct]) (t:=41) ?hr ?_;(case hd=>rfl);(case hg=>rfl);(case hr=>exact za_);intro gt hg w_1 hbox hb;have HO_1:=aM (HO.out.add_box (T:=41) (cs:=#[.int .i64 ((n:Int)),.slice ((some ad)) vs.length ct]) hg hbox hb);clear hg hbox hb;have z_1:w_1.cell? ⟨gt,0,none⟩=some (.int .i64 ((n:Int))):=(HO_1.out.cell 0 rfl 0 rfl);have z_2:w_1.cell? ⟨gt,1,none⟩=some (.slice ((some ad)) vs.length ct):=(HO_1.out.cell 0 rfl 1 rfl);have z_3:w_1.cell? (ad.add xx.toNat)=some (.int .i64 v):=(by obtain ⟨_,e,h_⟩:=Kd.at_int (Kd.C_below HR.out HO_1.out.base) xx hx0 hx1;cases e;rw [HV.out] at h_;exact h_)))
  go_ret
  rw [ndBuild]
  exact ⟨by rw [← HX.out];show _=Ending.returned (.int .i64 (rd vs xx));rw [HV.out];rfl,_,(((HO_1.out.front 2 rfl).front 2 rfl).front 2 rfl).tail⟩
 | succ d ih =>
  intro idx ns i xx w vn F hd hi he hx hb h
  obtain ⟨An,cn,rfl⟩:=h.row_slice 1 rfl;have HO:=aM h;have HB:=aM hb;have HI:=aM he;have HX:=aM hx;have HR:=aM hr;clear h hb hr;obtain ⟨hs1,hs2,hs3,hs4,hs5,hs6⟩:=nd_shl n d idx hn hd hi;rw [← he] at hs1;rw [← hx] at hs2;have c1b:(i == (n:Int))=false:=beq_eq_false_iff_ne.mpr (by omega);have hi1:wrap64 (i+1)=((n - d:Nat):Int):=by unfold wrap64;omega
  obtain ⟨pp,hpp⟩:∃ p:Nat,p=2 ^ (n - (d+1)):=⟨_,rfl⟩;rw [← hpp] at hs1 hs2 hs3 hs5;obtain ⟨x1,hx1⟩:∃ x1:Int,x1=((idx+pp:Nat):Int):=⟨_,rfl⟩;rw [← hx1] at hs2;have hi0:0≤i:=by omega
  have hi4:i≤3:=by omega
  have hul:IntKind.u64.wrap i=i:=by rw [IntKind.wrap_u64];omega
  have p0:(0≤i)=True:=eq_true hi0;have hb2:=HB.out;rw [Nat.pow_succ] at hb2;have hsh:wrap64 (2 ^ min i.toNat 64)=(pp:Int):=by rw [← hs1];unfold shl;rw [Int.one_mul,IntKind.wrap_i64,show IntKind.i64.bits=64 from rfl];unfold wrap64;omega
  generalize hA:ndBuild vs n d idx ns=ra;obtain ⟨n1,lo⟩:=ra;have hla:=ndBuild_length vs n d idx ns;rw [hA] at hla;generalize hB2:ndBuild vs n d (idx+pp) n1=rb;obtain ⟨n2,hh⟩:=rb;have hlb:=ndBuild_length vs n d (idx+pp) n1;rw [hB2] at hlb
  dsimp only at hla hlb
  have hfin:ndBuild vs n (d+1) idx ns=ndNode n2 ⟨i,lo,hh⟩:=by rw [ndBuild,hA,← hpp];dsimp only;rw [hB2,he]
  have HA:=aM hA;have HB2:=aM hB2;have HFIN:=aM hfin;have HN1:=aM (show n1.length+2 ^ d≤1000 by omega);have HN2:=aM (show n2.length≤1000 by omega);have HN0:=aM (show ns.length+2 ^ d≤1000 by omega);have IH:=aM ih;have HS3:=aM hs3;have HS4:=aM hs4;have HX1:=aM hx1;have HI1:=aM hi1;have HD:=aM (show d≤n by omega);clear hi0 hi4 ih hla hlb hA hB2 hfin hs1 hs3 hs4 hs5 hs6 hi he hx hi1 hx1 hb2 hd hpp
  go_enter Try.func105,Try.ntmps105
  go_wp2_with (first | ((with_reducible refine gate_dst (N:=5) rfl ?_);refine box_event ?hg (N:=5) ?hd (cs:=#[.int .i64 ((n:Int)),.slice At vs.length ct]) (t:=41) ?hr ?_;(case hd=>rfl);(case hg=>rfl);(case hr=>exact za_);intro gt hg w_1 hbox hb;have HO_1:=aM (HO.out.add_box (T:=41) (cs:=#[.int .i64 ((n:Int)),.slice At vs.length ct]) hg hbox hb);clear hg hbox hb;have z_1:w_1.cell? ⟨gt,0,none⟩=some (.int .i64 ((n:Int))):=(HO_1.out.cell 0 rfl 0 rfl);have z_2:w_1.cell? ⟨gt,0,none⟩=some (.int .i64 ((n:Int))):=(HO_1.out.cell 0 rfl 0 rfl);have z_3:w_1.cell? ⟨gt,1,none⟩=some (.slice At vs.length ct):=(HO_1.out.cell 0 rfl 1 rfl))|((with_reducible refine gate_callee (f:=105) rfl ?_);refine goesL_ (some 25) rfl rfl Try.func105 (by kernel_rfl) rfl #[.pointer (some ⟨g,0,none⟩),.agg #[.int .i64 ((n:Int)),.slice At vs.length ct],.int .i64 (wrap64 (i+1)),.int .i64 xx] rfl zje_ ?_;refine (IH.out idx (ns) (wrap64 (i+1)) xx _ _ (Item.box gt 41 #[.int .i64 ((n:Int)),.slice At vs.length ct] :: F) HD.out HS4.out HI1.out HX.out HN0.out ((HO_1.out.front 2 rfl).front 2 rfl)).mono ?_;rw [HA.out];rintro e w_2 ⟨rfl,vo,ho⟩;refine ⟨_,rfl,?_⟩;obtain ⟨A_b25,c_b25,rfl⟩:=ho.row_slice 1 rfl;have HO_2:=aM ho;clear ho;have z_4:w_2.cell? ⟨gt,0,none⟩=some (.int .i64 ((n:Int))):=(HO_2.out.cell 2 rfl 0 rfl);have z_5:w_2.cell? ⟨gt,1,none⟩=some (.slice At vs.length ct):=(HO_2.out.cell 2 rfl 1 rfl))|((with_reducible refine gate_callee (f:=105) rfl ?_);refine goesL_ (some 35) rfl rfl Try.func105 (by kernel_rfl) rfl #[.pointer (some ⟨g,0,none⟩),.agg #[.int .i64 ((n:Int)),.slice At vs.length ct],.int .i64 (wrap64 (i+1)),.int .i64 x1] rfl zje_ ?_;refine (IH.out (idx+pp) (n1) (wrap64 (i+1)) x1 _ _ (Item.box gt 41 #[.int .i64 ((n:Int)),.slice At vs.length ct] :: F) HD.out HS3.out HI1.out HX1.out HN1.out ((HO_2.out.front 1 rfl).front 1 rfl)).mono ?_;rw [HB2.out];rintro e w_3 ⟨rfl,vo,ho⟩;refine ⟨_,rfl,?_⟩;obtain ⟨A_b35,c_b35,rfl⟩:=ho.row_slice 1 rfl;have HO_3:=aM ho;clear ho)|((with_reducible refine gate_callee (f:=126) rfl ?_);refine goesL_ (some 41) rfl rfl Try.func126 (by kernel_rfl) rfl #[.pointer (some ⟨g,0,none⟩),.agg #[.int .i64 i,.int .i64 lo,.int .i64 hh]] rfl zje_ ?_;refine (spec_ddBuild.node w0 g i lo hh n2 HN2.out _ _ (Item.box gt 41 #[.int .i64 ((n:Int)),.slice At vs.length ct] :: F) ((HO_3.out.front 1 rfl).front 1 rfl)).mono ?_;rintro e w_4 ⟨rfl,vf,ho⟩;refine ⟨_,rfl,?_⟩;have HO_4:=aM ho;clear ho))
  go_ret
  rw [HFIN.out]
  exact ⟨rfl,_,(((HO_4.out.front 1 rfl).front 1 rfl).front 2 rfl).tail⟩
def spec_ddMake.f (k:Nat) (a0_0:Int) (l0_1:List Int):Option (Int×List (S93)×Int):=if 0≤a0_0∧a0_0≤4∧l0_1.length=2 ^ a0_0.toNat then some (a0_0,(ndBuild l0_1 a0_0.toNat a0_0.toNat 0 []).1,(ndBuild l0_1 a0_0.toNat a0_0.toNat 0 []).2) else none
theorem spec_ddMake.mono:∀ a0 a1 k,LeO (spec_ddMake.f k a0 a1) (spec_ddMake.f (k+1) a0 a1):=fun _ _ _=>LeO.refl _
open Go.Proofs.Ytlnhpkjioppbiaa.Sep in
set_option maxHeartbeats 16000000 in
set_option maxRecDepth 100000 in
theorem spec_ddMake.calls (k:Nat) (a0_0:Int) (A0_1:Option Addr) (c0_1:Nat) (l0_1:List Int) (r1:Int) (r2:List (S93)) (r3:Int) (w:World) (hr0_1:Kd.C (Kd.int .i64) w A0_1 l0_1.length l0_1) (hc0_1:l0_1.length≤c0_1) (h:spec_ddMake.f k a0_0 l0_1=some (r1,r2,r3)) :
  Calls Try.prog 54 #[.agg #[.int .i64 a0_0,.slice A0_1 l0_1.length c0_1]] w fun e w' => ∃ v1_:Value,e = .returned (.agg #[.int .i64 r1,v1_,.int .i64 r3])∧Kd.R k93 93 w' w.heap.size (fun _=>True) v1_ r2∧Below w.heap.size w w':=by
 unfold spec_ddMake.f at h
 split at h
 ·rename_i hcc
  obtain ⟨hn0,hn4,hl⟩:=hcc;obtain ⟨n,rfl⟩:=Int.eq_ofNat_of_zero_le hn0;rw [Int.toNat_natCast] at h hl;have h2:=Option.some.inj h;clear h;have HN4:=aM (show n≤4 by omega);have HVL:=aM hl;have HC:=aM hr0_1;clear hr0_1 hc0_1 hl hn0 hn4;have hbl:=ndBuild_length l0_1 n n 0 [];generalize hB:ndBuild l0_1 n n 0 []=rb at h2 hbl;obtain ⟨n2,rr⟩:=rb
  injection h2 with e1 e2
  injection e2 with e2 e3
  dsimp only at e1 e2 e3 hbl
  subst e1;subst e2;subst e3;have HB:=aM hB;clear hB hbl
  go_enter Try.func54,Try.ntmps54
  go_wp2_with (first | ((with_reducible refine gate_dst (N:=1) rfl ?_);refine box_event ?hg (N:=1) ?hd (cs:=#[.int .i64 ((n:Int)),.slice A0_1 l0_1.length c0_1]) (t:=41) ?hr ?_;(case hd=>rfl);(case hg=>rfl);(case hr=>exact za_);intro gt hg w_1 hbox hb;have HO_1:=aM ((Sep.Own.nil w).add_box (T:=41) (cs:=#[.int .i64 ((n:Int)),.slice A0_1 l0_1.length c0_1]) hg hbox hb);clear hg hbox hb)|((with_reducible refine gate_dst (N:=2) rfl ?_);refine box_event ?hg (N:=2) ?hd (cs:=#[.int .i64 0,.slice none 0 0,.int .i64 0]) (t:=28) ?hr ?_;(case hd=>rfl);(case hg=>rfl);(case hr=>exact za_);intro gr hg w_2 hbox hb;have HO_2:=aM (HO_1.out.add_box (T:=28) (cs:=#[.int .i64 0,.slice none 0 0,.int .i64 0]) hg hbox hb);clear hg hbox hb)|((with_reducible refine gate_dst (N:=6) rfl ?_);refine box_event ?hg (N:=6) ?hd (cs:=#[.slice none 0 0]) (t:=120) ?hr ?_;(case hd=>rfl);(case hg=>rfl);(case hr=>exact za_);intro g hg w_3 hbox hb;have HO_3:=aM (HO_2.out.add_box (T:=120) (cs:=#[.slice none 0 0]) hg hbox hb);clear hg hbox hb;have z_1:w_3.cell? ⟨gt,0,none⟩=some (.int .i64 ((n:Int))):=(HO_3.out.cell 2 rfl 0 rfl);have z_2:w_3.cell? ⟨gt,1,none⟩=some (.slice A0_1 l0_1.length c0_1):=(HO_3.out.cell 2 rfl 1 rfl))|((with_reducible refine gate_callee (f:=105) rfl ?_);refine goesL_ (some 9) rfl rfl Try.func105 (by kernel_rfl) rfl #[.pointer (some ⟨g,0,none⟩),.agg #[.int .i64 ((n:Int)),.slice A0_1 l0_1.length c0_1],.int .i64 0,.int .i64 0] rfl ze_ ?_;refine (spec_ddBuild.build w g n HN4.out l0_1 HVL.out _ _ HC.out n 0 [] 0 0 _ _ [Item.box gr 28 #[.int .i64 0,.slice none 0 0,.int .i64 0],Item.box gt 41 #[.int .i64 ((n:Int)),.slice A0_1 l0_1.length c0_1]] (Nat.le_refl _) (by simp) (by simp) rfl (by rw [List.length_nil,Nat.zero_add];exact Nat.le_trans (Nat.pow_le_pow_right (by decide) HN4.out) (by decide)) (((HO_3.out.nilrow k93 93).front 0 rfl).front 1 rfl)).mono ?_;rw [HB.out];rintro e w_4 ⟨rfl,vo,ho⟩;refine ⟨_,rfl,?_⟩;obtain ⟨A_b,c_b,rfl⟩:=ho.row_slice 1 rfl;have HO_4:=aM ho;clear ho))
  have HD_3_2:=aM (HO_4.out.drew)
  refine start_ (n:=9) (S:=fun w'=>w'.cell? ⟨gt,0,none⟩=some (.int .i64 ((n:Int)))∧w'.cell? ⟨g,0,none⟩=some (.slice A_b n2.length c_b)) (ds:=[8]) #[fi,fi,fi,fi,fi,fi,fi,fi,fi] (by kernel_rfl) rfl rfl ⟨(HD_3_2.out.cell 3 rfl 0 rfl),(HD_3_2.out.cell 0 rfl 0 rfl)⟩ (fun hHeld=>?_)
  generalize w_4.drew=wd_3_3 at HD_3_2 hHeld ⊢
  refine oz_ 0 10 ?_
  refine oz_ 2 12 ?_
  refine oz_ 3 13 ?_
  refine oz_ 4 14 ?_
  refine oz_ 6 16 ?_
  refine tz2_ 1 11 hHeld ?_
  refine tz2_ 5 15 hHeld ?_
  refine oz_ 7 17 ?_
  refine last_ (i:=8) (N:=none) #[ti,ti,ti,ti,ti,ti,ti,ti,ti] rfl rfl (by kernel_rfl) (by decide) (fun K hK=>?_)
  refine Sep.own_store_step HD_3_2.out 2 gr 28 _ #[.int .i64 ((n:Int)),.slice A_b n2.length c_b,.int .i64 rr] rfl (by rfl) rfl 28 (.tmp 2) (.tmp 17) rfl rfl _ rfl rfl rfl (by kernel_rfl) (by simp [Value.oneCell']) ?_
  intro w_5 ho
  have HO_5:=aM ho;clear ho
  refine hK.out _ _ ?_
  clear hK K
  refine done_ (by kernel_rfl) ?_
  go_wp2
  (try simp only [Exit.inBlock,Exit.then])
  refine bodyPost_ret (results_cell_row rfl _ _ gr 28 #[.int .i64 ((n:Int)),.slice A_b n2.length c_b,.int .i64 rr] (0,0) _ rfl (HO_5.out.blk 2 rfl) Try.underlying28 rfl (by kernel_rfl)) rfl ?_
  obtain ⟨P_,hP⟩:=HO_5.out.get 1 rfl
  exact ⟨_,rfl,Kd.R_mono hP (fun _ _=>trivial),HO_5.out.base⟩
 ·cases h
def spec_l1In.f (a0:Int) (a1:Int) (a2:Int):Option (Bool):=if a0≥a1 then (some (decide (a0≤a2))) else (some false)
set_option maxHeartbeats 8000000 in
set_option maxRecDepth 100000 in
theorem spec_l1In.calls (a0:Int) (a1:Int) (a2:Int) (r:Bool) (w:World) (h:spec_l1In.f a0 a1 a2=some r) :
  Calls Try.prog 101 #[.int .i64 a0,.int .i64 a1,.int .i64 a2] w fun e w'=>e = .returned (.bool r)∧Drawn0 w w':=by
 have H:(if a0≥a1 then (some (decide (a0≤a2))) else (some false))=some r:=h
 clear h
 by_cases c4:a0≥a1
 ·rw [if_pos c4] at H
  have c4b0:decide (a1≤a0)=true:=decide_eq_true c4;clear c4;obtain rfl:=Option.some.inj H
  go_enter Try.func101,Try.ntmps101
  go_wp2
  go_ret
  exact ⟨zd_,zi_⟩
 ·rw [if_neg c4] at H
  have c4b0:decide (a1≤a0)=false:=decide_eq_false c4;clear c4;obtain rfl:=Option.some.inj H
  go_enter Try.func101,Try.ntmps101
  go_wp2
  go_ret
  exact ⟨zd_,zi_⟩
def spec_ttInputs.f (a0:Int):Option (Bool):=(spec_l1In.f a0 0 4).bind fun t112=>(some t112)
set_option maxHeartbeats 8000000 in
set_option maxRecDepth 100000 in
theorem spec_ttInputs.calls (a0:Int) (r:Bool) (w:World) (h:spec_ttInputs.f a0=some r) :
  Calls Try.prog 100 #[.int .i64 a0] w fun e w'=>e = .returned (.bool r)∧Drawn0 w w':=by
 have H:((spec_l1In.f a0 0 4).bind fun t112=>(some t112))=some r:=h
 clear h
 replace H:=oB.mp H
 obtain ⟨t112,A20,H⟩:=H
 replace H:(some t112)=some r:=H
 have A2:=aM A20
 clear A20
 obtain rfl:=Option.some.inj H
 go_enter Try.func100,Try.ntmps100
 go_wp2_with (first | ((with_reducible refine gate_callee (f:=101) rfl ?_);refine goesL_ (some 4) rfl rfl Try.func101 (by kernel_rfl) rfl #[.int .i64 a0,.int .i64 0,.int .i64 4] rfl zf_ ?_;(with_reducible refine (spec_l1In.calls a0 0 4 t112 _ A2.out).mono ?_);rintro e w' ⟨rfl,⟨nd,rfl⟩⟩;refine ⟨_,rfl,?_⟩))
 go_ret
 exact ⟨zd_,zi_⟩
end Go.Proofs.Ytlnhpkjioppbiaa.QFnDiagramOrders
