/- Functions of FnDiagrams, each as a Lean function, with the proof that the Go code comes to its answers. -/
import Derived.Test.YtlnhpkjioppbiaaDoorProg
import Derived.Below
import Derived.Deep.Draws
import Derived.Deep.AppendLies
import Derived.Maps.AppendAt
import Derived.OwnWalk
import Derived.Laws.BytesArg
import Derived.Laws.MakeOwn
import Derived.Laws.OwnMore
import Derived.Deep.OwnRows
import Derived.Tactics
import Derived.Lib.ConvBytes
import Derived.Laws.Slices
import Derived.WalkKit
import Derived.KernelRfl
import Derived.RowKit3
import Derived.Deep.LoopGhost
import Derived.Deep.QuietTactic
import Derived.BigQuiet
import Derived.WideLaws
import Derived.Deep.DeepCutAuto
import Derived.Deep.CutBlock
import Derived.Deep.RegionHeld3
import Derived.Laws.Rows
import Derived.Lib.AppendStr
import Derived.ArgAppend
import Derived.Laws.IdiomCopy
import Derived.OrdersHeld
import Derived.Laws.BitsLemmas
import Derived.RowKit
import Derived.Test.YtlnhpkjioppbiaaDoorShelf
import Derived.Test.YtlnhpkjioppbiaaDoorVDiSep
import Derived.Test.YtlnhpkjioppbiaaDoorVDiWWords
import Derived.Test.YtlnhpkjioppbiaaDoorVDiWLast
import Derived.Test.YtlnhpkjioppbiaaDoorVDiWTab
import Derived.Test.YtlnhpkjioppbiaaDoorVDiWFour
import Derived.Test.YtlnhpkjioppbiaaDoorVDiWQPut
import Derived.Test.YtlnhpkjioppbiaaDoorVDiWApart
import Derived.Test.YtlnhpkjioppbiaaDoorVDiWArr
import Derived.Test.YtlnhpkjioppbiaaDoorVDiWZeros
import Derived.Test.YtlnhpkjioppbiaaDoorVDiWFoot
import Derived.Test.YtlnhpkjioppbiaaDoorVDiWKept
import Derived.Test.YtlnhpkjioppbiaaDoorVDiWShare
import Derived.Test.YtlnhpkjioppbiaaDoorVDiWN
import Derived.Test.YtlnhpkjioppbiaaDoorVDiWFootNe
import Derived.Test.YtlnhpkjioppbiaaDoorVDiWAt
import Derived.Test.YtlnhpkjioppbiaaDoorVDiWEqStruct
import Derived.Test.YtlnhpkjioppbiaaDoorVDiWRepsOne
import Derived.Test.YtlnhpkjioppbiaaDoorVDiWInv
import Derived.Test.YtlnhpkjioppbiaaDoorVDiWInvWords
import Derived.Test.YtlnhpkjioppbiaaDoorVDiWGuard
import Derived.Test.YtlnhpkjioppbiaaDoorVDiWNEv
import Derived.Test.YtlnhpkjioppbiaaDoorVDiWMore
namespace Go.Proofs.YtlnhpkjioppbiaaDoor.QFnDiagrams
open Go.RowKit Go.Proofs.YtlnhpkjioppbiaaDoorW.PrintWords Go.Proofs.YtlnhpkjioppbiaaDoorW.PrintLast Go.Proofs.YtlnhpkjioppbiaaDoorW.PrintMore
open Go.Proofs.YtlnhpkjioppbiaaDoorW.PrintWords renaming pw_below_drewN→pN,below_drew1→p1,below_alloc→pA
open Go.Proofs.YtlnhpkjioppbiaaDoorW.PrintWords.Kd renaming R_alloc→kA,R_drewN→kN,R_drew→kD,Q_alloc→qA,Q_drewN→qN,Q_drew→qD,C_alloc→cA,C_drewN→cN,C_drew→cD
open List renaming setIfInBounds_toArray→sI,set_cons_zero→s0,set_cons_succ→sS,map_toArray→mT,length_take→lT,length_drop→lD,map_cons→mC,map_nil→mN
attribute [local go_sem] max2_int min2_int max_two min_two max_three min_three max_four min_four
set_option maxHeartbeats 8000000
set_option maxRecDepth 100000
set_option linter.unusedVariables false
set_option linter.unusedSimpArgs false
open Go.Proofs.YtlnhpkjioppbiaaDoorW.PrintWords.Aside0 renaming mk→aM
open Option renaming bind_eq_some_iff→oB,bind_some→oS
abbrev ti:Bool:=true
abbrev fi:Bool:=false
theorem z {a b:Prop} (h:a) (k:b):Aside0 a∧b:=⟨⟨h⟩,k⟩
theorem z1 {a:Prop} (h:a):Aside0 a:=⟨h⟩
theorem zb {p q:Prop} (h:q) (f:q→p:=by intro hq;(with_reducible repeat (first | refine blk_drewN ?_ _ | refine blk_drew ?_ | refine blk_alloc ?_ _));exact hq):p:=f h
theorem zr {p q:Prop} (h:q) (f:q→p:=by intro hq;(with_reducible repeat (first | apply kA | apply kN | apply kD));exact hq):p:=f h
theorem zq {p q:Prop} (h:q) (f:q→p:=by intro hq;(with_reducible repeat (first | apply qA | apply qN | apply qD));exact hq):p:=f h
theorem py_ {P:Program} {ops:Array Oper} {Q:Exit→Act→World→Prop} {md:Region.Mode} {S:World→Prop} {ds:List Nat} {T:Bool×List (List Nat×List Nat)} {oi:Oper} {v:Value} {fuel:Nat} {l:Array Bool} {a a':Act} {w:World} (i:Nat) (n:Tmp) (hT:rtab md ops=T)
    (h:wpAnyLast P md ops Q S ds fuel (l.setIfInBounds i true) a' w) (hi:ops[i]?=some oi:=by exact rfl) (hN:oi.dst=some n:=by exact rfl) (hc:anyT T l.toList (l.setIfInBounds i true).toList i=true:=by kernel_rfl)
    (hQ:∀ c a w,Q (.panic c) (a.put oi.dst v) w→Q (.panic c) a w:=by exact fun _ _ _ h=>h) (hd:Region.wanted oi (yielded ops a.tmps)=true:=by rfl) (hy:∀ w,(execOp a.eval oi).run P w = .ok (.value v) w:=by (intro w';go_simp;with_reducible rfl)) (ha:a.put (some n) v=a':=by (simp only [Act.put,sI,s0,sS,i64_w,i32_w];rfl)):wpAnyLast P md ops Q S ds (fuel+1) l a w:=
  pure_ _ hi hN (any_of hT hc) hQ (Or.inl ⟨hd,hy⟩) ha h
theorem oz_ {P:Program} {ops:Array Oper} {Q:Exit→Act→World→Prop} {md:Region.Mode} {S:World→Prop} {ds:List Nat} {oi:Oper} {fuel:Nat} {l:Array Bool} {w:World} {v:Value} {a a':Act} (i:Nat) (n:Tmp) (h:wpAnyLast P md ops Q S ds fuel (l.setIfInBounds i true) a' w) (hi:ops[i]?=some oi:=by exact rfl) (hN:oi.dst=some n:=by exact rfl) (hc:anyB md ops l (l.setIfInBounds i true) i=true:=by kernel_rfl) (hQ:∀ c a w,Q (.panic c) (a.put oi.dst v) w→Q (.panic c) a w:=by exact fun _ _ _ h=>h) (hd:Region.wanted oi (yielded ops a.tmps)=true:=by rfl) (hy:∀ w,(execOp a.eval oi).run P w = .ok (.value v) w:=by (intro w';go_simp;with_reducible rfl)) (ha:a.put (some n) v=a':=by (simp only [Act.put,sI,s0,sS,i64_w,i32_w];rfl)):wpAnyLast P md ops Q S ds (fuel+1) l a w:=pure_ _ hi hN hc hQ (Or.inl ⟨hd,hy⟩) ha h
theorem oo_ {P:Program} {ops:Array Oper} {Q:Exit→Act→World→Prop} {md:Region.Mode} {S:World→Prop} {ds:List Nat} {oi:Oper} {fuel:Nat} {l:Array Bool} {w:World} {a:Act} (i:Nat) (n:Tmp) (h:∀ K:Act→World→Prop,Shut (∀ a' w',S w'→(S w'→wpAnyLast P md ops Q S ds fuel (l.setIfInBounds i true) a' w')→K a' w')→if Region.wanted oi (yielded ops a.tmps)=true then Oper.wp P oi a w K Q else K (a.put (some n) undef) w) (hi:ops[i]?=some oi:=by exact rfl) (hN:oi.dst=some n:=by exact rfl) (hc:readyB md ops l (l.setIfInBounds i true) i=true:=by kernel_rfl) (hd:i∉ds:=by decide):wpAnyLast P md ops Q S ds (fuel+1) l a w:=one_ _ hi hN hc hd h
theorem nz_ {P:Program} {ops:Array Oper} {Q:Exit→Act→World→Prop} {md:Region.Mode} {S:World→Prop} {ds:List Nat} {fuel:Nat} {l:Array Bool} {w:World} {v:Value} {b a':Act} (n:Tmp) (h:wpAnyLast P md ops Q S ds fuel l a' w) (ha:Act.put b (some n) v=a':=by (simp only [Act.put,sI,s0,sS,i64_w,i32_w];rfl)):wpAnyLast P md ops Q S ds fuel l (Act.put b (some n) v) w:=norm_ ha h
theorem tz1_ {P:Program} {ops:Array Oper} {Q:Exit→Act→World→Prop} {md:Region.Mode} {S:World→Prop} {ds:List Nat} {oi:Oper} {fuel:Nat} {l:Array Bool} {w:World} {v:Value} {a a':Act} (i:Nat) (n:Tmp) (hS:S w) (h:wpAnyLast P md ops Q S ds fuel (l.setIfInBounds i true) a' w) (hi:ops[i]?=some oi:=by exact rfl) (hN:oi.dst=some n:=by exact rfl) (hc:takeB md ops ds l (l.setIfInBounds i true) i=true:=by kernel_rfl) (hQ:∀ c a w,Q (.panic c) (a.put oi.dst v) w→Q (.panic c) a w:=by exact fun _ _ _ h=>h) (hd:Region.wanted oi (yielded ops a.tmps)=true:=by rfl) (hy:∀ w,S w→(execOp a.eval oi).run P w = .ok (.value v) w:=by (intro w' s0;go_simp;with_reducible rfl)) (ha:a.put (some n) v=a':=by (simp only [Act.put,sI,s0,sS,i64_w,i32_w];rfl)):wpAnyLast P md ops Q S ds (fuel+1) l a w:=take_ _ hi hN hc hQ (Or.inl ⟨hd,hy⟩) hS ha h
theorem tz2_ {P:Program} {ops:Array Oper} {Q:Exit→Act→World→Prop} {md:Region.Mode} {S:World→Prop} {ds:List Nat} {oi:Oper} {fuel:Nat} {l:Array Bool} {w:World} {v:Value} {a a':Act} (i:Nat) (n:Tmp) (hS:S w) (h:wpAnyLast P md ops Q S ds fuel (l.setIfInBounds i true) a' w) (hi:ops[i]?=some oi:=by exact rfl) (hN:oi.dst=some n:=by exact rfl) (hc:takeB md ops ds l (l.setIfInBounds i true) i=true:=by kernel_rfl) (hQ:∀ c a w,Q (.panic c) (a.put oi.dst v) w→Q (.panic c) a w:=by exact fun _ _ _ h=>h) (hd:Region.wanted oi (yielded ops a.tmps)=true:=by rfl) (hy:∀ w,S w→(execOp a.eval oi).run P w = .ok (.value v) w:=by (rintro w' ⟨s0,s1⟩;go_simp;with_reducible rfl)) (ha:a.put (some n) v=a':=by (simp only [Act.put,sI,s0,sS,i64_w,i32_w];rfl)):wpAnyLast P md ops Q S ds (fuel+1) l a w:=take_ _ hi hN hc hQ (Or.inl ⟨hd,hy⟩) hS ha h
theorem tw2_ {P:Program} {ops:Array Oper} {Q:Exit→Act→World→Prop} {md:Region.Mode} {S:World→Prop} {ds:List Nat} {oi:Oper} {fuel:Nat} {l:Array Bool} {w:World} {T:Bool×List (List Nat×List Nat)} {B:List Nat} {v:Value} {a a':Act} (i:Nat) (n:Tmp) (hT:rtab md ops=T) (hB:waitsOk T.2 B=true) (hS:S w) (h:wpAnyLast P md ops Q S ds fuel (l.setIfInBounds i true) a' w) (hi:ops[i]?=some oi:=by exact rfl) (hN:oi.dst=some n:=by exact rfl) (hc:takeW T B ds l.toList (l.setIfInBounds i true).toList i=true:=by kernel_rfl) (hQ:∀ c a w,Q (.panic c) (a.put oi.dst v) w→Q (.panic c) a w:=by exact fun _ _ _ h=>h) (hd:Region.wanted oi (yielded ops a.tmps)=true:=by rfl) (hy:∀ w,S w→(execOp a.eval oi).run P w = .ok (.value v) w:=by (rintro w' ⟨s0,s1⟩;go_simp;with_reducible rfl)) (ha:a.put (some n) v=a':=by (simp only [Act.put,sI,s0,sS,i64_w,i32_w];rfl)):wpAnyLast P md ops Q S ds (fuel+1) l a w:=take_ _ hi hN (take_ofW hT hB hc) hQ (Or.inl ⟨hd,hy⟩) hS ha h
theorem tz3_ {P:Program} {ops:Array Oper} {Q:Exit→Act→World→Prop} {md:Region.Mode} {S:World→Prop} {ds:List Nat} {oi:Oper} {fuel:Nat} {l:Array Bool} {w:World} {v:Value} {a a':Act} (i:Nat) (n:Tmp) (hS:S w) (h:wpAnyLast P md ops Q S ds fuel (l.setIfInBounds i true) a' w) (hi:ops[i]?=some oi:=by exact rfl) (hN:oi.dst=some n:=by exact rfl) (hc:takeB md ops ds l (l.setIfInBounds i true) i=true:=by kernel_rfl) (hQ:∀ c a w,Q (.panic c) (a.put oi.dst v) w→Q (.panic c) a w:=by exact fun _ _ _ h=>h) (hd:Region.wanted oi (yielded ops a.tmps)=true:=by rfl) (hy:∀ w,S w→(execOp a.eval oi).run P w = .ok (.value v) w:=by (rintro w' ⟨s0,s1,s2⟩;go_simp;with_reducible rfl)) (ha:a.put (some n) v=a':=by (simp only [Act.put,sI,s0,sS,i64_w,i32_w];rfl)):wpAnyLast P md ops Q S ds (fuel+1) l a w:=take_ _ hi hN hc hQ (Or.inl ⟨hd,hy⟩) hS ha h
theorem tw3_ {P:Program} {ops:Array Oper} {Q:Exit→Act→World→Prop} {md:Region.Mode} {S:World→Prop} {ds:List Nat} {oi:Oper} {fuel:Nat} {l:Array Bool} {w:World} {T:Bool×List (List Nat×List Nat)} {B:List Nat} {v:Value} {a a':Act} (i:Nat) (n:Tmp) (hT:rtab md ops=T) (hB:waitsOk T.2 B=true) (hS:S w) (h:wpAnyLast P md ops Q S ds fuel (l.setIfInBounds i true) a' w) (hi:ops[i]?=some oi:=by exact rfl) (hN:oi.dst=some n:=by exact rfl) (hc:takeW T B ds l.toList (l.setIfInBounds i true).toList i=true:=by kernel_rfl) (hQ:∀ c a w,Q (.panic c) (a.put oi.dst v) w→Q (.panic c) a w:=by exact fun _ _ _ h=>h) (hd:Region.wanted oi (yielded ops a.tmps)=true:=by rfl) (hy:∀ w,S w→(execOp a.eval oi).run P w = .ok (.value v) w:=by (rintro w' ⟨s0,s1,s2⟩;go_simp;with_reducible rfl)) (ha:a.put (some n) v=a':=by (simp only [Act.put,sI,s0,sS,i64_w,i32_w];rfl)):wpAnyLast P md ops Q S ds (fuel+1) l a w:=take_ _ hi hN (take_ofW hT hB hc) hQ (Or.inl ⟨hd,hy⟩) hS ha h
theorem tz4_ {P:Program} {ops:Array Oper} {Q:Exit→Act→World→Prop} {md:Region.Mode} {S:World→Prop} {ds:List Nat} {oi:Oper} {fuel:Nat} {l:Array Bool} {w:World} {v:Value} {a a':Act} (i:Nat) (n:Tmp) (hS:S w) (h:wpAnyLast P md ops Q S ds fuel (l.setIfInBounds i true) a' w) (hi:ops[i]?=some oi:=by exact rfl) (hN:oi.dst=some n:=by exact rfl) (hc:takeB md ops ds l (l.setIfInBounds i true) i=true:=by kernel_rfl) (hQ:∀ c a w,Q (.panic c) (a.put oi.dst v) w→Q (.panic c) a w:=by exact fun _ _ _ h=>h) (hd:Region.wanted oi (yielded ops a.tmps)=true:=by rfl) (hy:∀ w,S w→(execOp a.eval oi).run P w = .ok (.value v) w:=by (rintro w' ⟨s0,s1,s2,s3⟩;go_simp;with_reducible rfl)) (ha:a.put (some n) v=a':=by (simp only [Act.put,sI,s0,sS,i64_w,i32_w];rfl)):wpAnyLast P md ops Q S ds (fuel+1) l a w:=take_ _ hi hN hc hQ (Or.inl ⟨hd,hy⟩) hS ha h
theorem tw5_ {P:Program} {ops:Array Oper} {Q:Exit→Act→World→Prop} {md:Region.Mode} {S:World→Prop} {ds:List Nat} {oi:Oper} {fuel:Nat} {l:Array Bool} {w:World} {T:Bool×List (List Nat×List Nat)} {B:List Nat} {v:Value} {a a':Act} (i:Nat) (n:Tmp) (hT:rtab md ops=T) (hB:waitsOk T.2 B=true) (hS:S w) (h:wpAnyLast P md ops Q S ds fuel (l.setIfInBounds i true) a' w) (hi:ops[i]?=some oi:=by exact rfl) (hN:oi.dst=some n:=by exact rfl) (hc:takeW T B ds l.toList (l.setIfInBounds i true).toList i=true:=by kernel_rfl) (hQ:∀ c a w,Q (.panic c) (a.put oi.dst v) w→Q (.panic c) a w:=by exact fun _ _ _ h=>h) (hd:Region.wanted oi (yielded ops a.tmps)=true:=by rfl) (hy:∀ w,S w→(execOp a.eval oi).run P w = .ok (.value v) w:=by (rintro w' ⟨s0,s1,s2,s3,s4⟩;go_simp;with_reducible rfl)) (ha:a.put (some n) v=a':=by (simp only [Act.put,sI,s0,sS,i64_w,i32_w];rfl)):wpAnyLast P md ops Q S ds (fuel+1) l a w:=take_ _ hi hN (take_ofW hT hB hc) hQ (Or.inl ⟨hd,hy⟩) hS ha h
theorem zk2 {w:World} {g:Nat} {t:TypeId} {a b:Value} (h:w.heap[g]?=some (.cells #[a,b] t (0,0))):w.cell? ⟨g,0,none⟩=some a∧w.cell? ⟨g,1,none⟩=some b∧w.frozen? ⟨g,0,none⟩=false∧w.frozen? ⟨g,1,none⟩=false:=⟨(blk_cell h 0).trans rfl,(blk_cell h 1).trans rfl,blk_frozen h 0,blk_frozen h 1⟩
theorem zk3 {w:World} {g:Nat} {t:TypeId} {a b c:Value} (h:w.heap[g]?=some (.cells #[a,b,c] t (0,0))):w.cell? ⟨g,0,none⟩=some a∧w.cell? ⟨g,1,none⟩=some b∧w.cell? ⟨g,2,none⟩=some c∧w.frozen? ⟨g,0,none⟩=false∧w.frozen? ⟨g,1,none⟩=false∧w.frozen? ⟨g,2,none⟩=false:=⟨(blk_cell h 0).trans rfl,(blk_cell h 1).trans rfl,(blk_cell h 2).trans rfl,blk_frozen h 0,blk_frozen h 1,blk_frozen h 2⟩
theorem q3n_ {p q:Prop} (h:p) (k:¬p:=by simp):q:=absurd h k
theorem q3h_ {w w1:World} {a:Addr} {v:Value} (B:Below w.heap.size w w1) (h:w.cell? a=some v):w1.cell? a=some v:=(B.cell (World.block_lt_of_cell? w _ h)).trans h
theorem q3d_ {p:Prop} (h:p:=by first | exact ⟨rfl,_,World.drewN_drewN _ _ _⟩ | exact ⟨rfl,_,Eq.trans (World.drewN_drewN _ _ _) (congrArg (World.drewN _) (Nat.add_assoc _ _ _))⟩):p:=h
theorem q3y_ {α:Type} {a b:α} {p q:Prop} (e:a=b) (h:p) (f:a=b→p→q:=by intro e_ H_;first | (rw [e_];with_reducible exact H_)|(have H2_:=(Option.bind_some _ _).symm.trans H_;rw [e_];with_reducible exact H2_)|(have H2_:=(Option.bind_some _ _).symm.trans H_;with_reducible exact H2_) | with_reducible exact H_ | (rw [e_];exact H_) | exact H_):q:=f e h
theorem za_ {p:Prop} (h:p:=by repeat (first | (with_reducible first | exact HB.out | apply pA | apply pN | apply p1) | exact HB.out)):p:=h
theorem zb_ {p:Prop} (h:p:=by first | (go_simp;done)|(go_simp;rfl)):p:=h
theorem zc_ {p:Prop} (h:p:=by first | (with_reducible assumption) | assumption):p:=h
theorem zd_ {p:Prop} (h:p:=by (try simp only [mT,mC,mN]);first | done | rfl | (simp only [lD,lT];rfl)):p:=h
theorem ze_ {p:Prop} (h:p:=by first | rfl | (simp;done)|(simp [*];done)):p:=h
theorem zf_ {p:Prop} (h:p:=by first | rfl | (simp [errW_none,errW_some] <;> rfl)|(simp [*,errW_none,errW_some] <;> rfl)):p:=h
theorem zg_ {p:Prop} (h:p:=by repeat (first | exact (Kd.C_below HR0_1.out HB.out)|(with_reducible refine cA ?_ _)|(with_reducible refine cN ?_ _)|(with_reducible refine cD ?_))):p:=h
theorem zh_ {p:Prop} (h:p:=by repeat (first | (with_reducible first | exact HI0.out | apply IsS66.alloc | apply IsS66.drewN | apply IsS66.drew | apply IsS66.set_1 | apply IsS66.set_2) | exact HI0.out)):p:=h
theorem zi_ {p:Prop} (h:p:=by repeat (first | (with_reducible first | exact HK.out | apply KeepBut.set_ | apply keep_drewN | apply keep_drew | apply keep_alloc) | exact HK.out)):p:=h
theorem zj_ {p:Prop} (h:p:=by repeat (first | (with_reducible first | exact HB.out | apply pA | apply pN | apply p1 | refine below_set ?_ GE222.out) | exact HB.out)):p:=h
theorem zba_ {p:Prop} (h:p:=by repeat (first | (with_reducible first | exact HI0.out | apply IsS66.alloc | apply IsS66.drewN | apply IsS66.drew | apply IsS66.set_1 | apply IsS66.set_2 | refine IsS66.far ?_ NB0_149.out _ | refine IsS66.far ?_ NB0_156.out _) | exact HI0.out)):p:=h
theorem zbb_ {p:Prop} (h:p:=by repeat (first | exact Drawn0.refl _ | apply Drawn0.step)):p:=h
theorem zbc_ {p:Prop} (h:p:=by (try simp only [mT,mC,mN]);first | done | rfl):p:=h
theorem zbd_ {p:Prop} (h:p:=by have:=HK1.out;omega):p:=h
theorem zbe_ {p:Prop} (h:p:=by repeat (first | (with_reducible first | exact HK.out | apply KeepBut.set_ | apply keep_drewN | apply keep_drew | apply keep_alloc | refine keep_far ?_ GW149.out _) | exact HK.out)):p:=h
theorem zbf_ {p:Prop} (h:p:=by repeat (first | (with_reducible first | exact HK.out | apply KeepBut.set_ | apply keep_drewN | apply keep_drew | apply keep_alloc | refine keep_far ?_ GW149.out _ | refine keep_far ?_ GW156.out _) | exact HK.out)):p:=h
theorem zbg_ {p:Prop} (h:p:=by repeat (first | (with_reducible first | exact HB.out | apply pA | apply pN | apply p1 | refine below_set ?_ GE379.out | refine below_set ?_ GE380.out) | exact HB.out)):p:=h
theorem zbh_ {p:Prop} (h:p:=by first | rfl | (simp;done)|(simp;unfold wrap64;omega)):p:=h
theorem zbi_ {p:Prop} (h:p:=by repeat (first | (with_reducible first | exact HB.out | apply pA | apply pN | apply p1 | refine below_set ?_ GE395.out) | exact HB.out)):p:=h
theorem zbj_ {p:Prop} (h:p:=by repeat (first | (with_reducible first | exact HB.out | apply pA | apply pN | apply p1 | refine below_set ?_ (IsS66.ge HI0.out)) | exact HB.out)):p:=h
theorem zca_ {p:Prop} (h:p:=by repeat (first | (with_reducible first | exact HI351.out | apply IsS66.alloc | apply IsS66.drewN | apply IsS66.drew | apply IsS66.set_1 | apply IsS66.set_2 | refine IsS66.far ?_ NB351_350.out _ | refine IsS66.far ?_ NB351_359.out _) | exact HI351.out)):p:=h
theorem zcb_ {p:Prop} (h:p:=by repeat (first | (with_reducible first | exact HI0.out | apply IsS66.alloc | apply IsS66.drewN | apply IsS66.drew | apply IsS66.set_1 | apply IsS66.set_2 | refine IsS66.far ?_ NB0_149.out _) | exact HI0.out)):p:=h
theorem zcc_ {p:Prop} (h:p:=by repeat (first | (with_reducible first | exact HB.out | apply pA | apply pN | apply p1 | refine below_set ?_ (IsS66.ge HI0.out) | refine below_set ?_ GE149.out | refine below_set ?_ GE156.out) | exact HB.out)):p:=h
theorem zcd_ {p:Prop} (h:p:=by repeat (first | (with_reducible first | exact HB.out | apply pA | apply pN | apply p1 | refine below_set ?_ GE222.out | refine below_set ?_ GE224.out) | exact HB.out)):p:=h
theorem zce_ {p:Prop} (h:p:=by repeat (first | (with_reducible first | exact HB.out | apply pA | apply pN | apply p1 | refine below_set ?_ GE258.out) | exact HB.out)):p:=h
theorem zcf_ {p:Prop} (h:p:=by first | omega | exact Nat.le_refl _):p:=h
theorem zcg_ {p:Prop} (h:p:=by have:=World.block_lt_of_cell? _ _ hx383_0;first | rwa [add_block] at this | exact this):p:=h
theorem zch_ {p:Prop} (h:p:=by first | (rw [add_block];exact hn383_0)|(show (Addr.add _ _).block≠_;rw [add_block];exact hn383_0) | exact hn383_0):p:=h
theorem zci_ {p:Prop} (h:p:=by first | (rw [add_block];exact hn383_1)|(show (Addr.add _ _).block≠_;rw [add_block];exact hn383_1) | exact hn383_1):p:=h
theorem zcj_ {p:Prop} (h:p:=by first | (rw [add_block];exact hn383_2)|(show (Addr.add _ _).block≠_;rw [add_block];exact hn383_2) | exact hn383_2):p:=h
theorem zda_ {p:Prop} (h:p:=by repeat (first | (with_reducible first | exact HI0.out | apply IsS66.alloc | apply IsS66.drewN | apply IsS66.drew | apply IsS66.set_1 | apply IsS66.set_2 | refine IsS66.far ?_ NB0_115.out _ | refine IsS66.far ?_ NB0_116.out _) | exact HI0.out)):p:=h
theorem zdb_ {p:Prop} (h:p:=by repeat (first | (with_reducible first | exact HK.out | apply KeepBut.set_ | apply keep_drewN | apply keep_drew | apply keep_alloc | refine keep_far ?_ GW115.out _ | refine keep_far ?_ GW116.out _) | exact HK.out)):p:=h
theorem zdc_ {p:Prop} (h:p:=by repeat (first | (with_reducible first | exact HK.out | apply Kept.alloc | apply Kept.drewN | apply Kept.drew) | exact HK.out)):p:=h
theorem zdd_ {p:Prop} (h:p:=by repeat (first | (with_reducible first | exact HB.out | apply pA | apply pN | apply p1 | refine below_set ?_ (IsS66.ge HI351.out) | refine below_set ?_ GE350.out | refine below_set ?_ GE359.out) | exact HB.out)):p:=h
theorem zde_ {p:Prop} (h:p:=by repeat (first | (with_reducible first | exact HB.out | apply pA | apply pN | apply p1 | refine below_set ?_ (IsS66.ge HI0.out) | refine below_set ?_ GE115.out | refine below_set ?_ GE116.out) | exact HB.out)):p:=h
theorem zdf_ {p:Prop} (h:p:=by exact (fun _ _=>trivial)):p:=h
theorem zdg_ {p:Prop} (h:p:=by repeat (first | (with_reducible first | exact HB.out | apply pA | apply pN | apply p1 | refine below_set ?_ GE491.out | refine below_set ?_ GE498.out) | exact HB.out)):p:=h
theorem zdh_ {p:Prop} (h:p:=by repeat (first | (with_reducible first | exact HB.out | apply pA | apply pN | apply p1 | refine below_set ?_ GE322.out) | exact HB.out)):p:=h
theorem zdi_ {p:Prop} (h:p:=by first | exact Kd.R_nil _ _ _ _ _ | exact Kd.N_nil _ _ _ _ _ | exact Kd.V_nil _ _ _ _ _ | exact Kd.Q_nil _ _ _ _ _ | exact Kd.S_nil _ _ _ _ _):p:=h
theorem zdj_ {p:Prop} (h:p:=by repeat (first | (with_reducible first | exact HB.out | apply pA | apply pN | apply p1 | refine below_set ?_ (IsS66.ge HI0.out) | refine below_set ?_ GE149.out) | exact HB.out)):p:=h
theorem zea_ {p:Prop} (h:p:=by repeat (first | (with_reducible first | exact HB.out | apply pA | apply pN | apply p1 | refine below_set ?_ GE310.out) | exact HB.out)):p:=h
theorem zeb_ {p:Prop} (h:p:=by repeat (first | (with_reducible first | exact HB.out | apply pA | apply pN | apply p1 | refine below_set ?_ GE336.out) | exact HB.out)):p:=h
theorem zec_ {p:Prop} (h:p:=by repeat (first | (with_reducible first | exact HB.out | apply pA | apply pN | apply p1 | refine below_set ?_ GE414.out) | exact HB.out)):p:=h
theorem zed_ {p:Prop} (h:p:=by repeat (first | (with_reducible first | exact HB.out | apply pA | apply pN | apply p1 | refine below_set ?_ GE473.out) | exact HB.out)):p:=h
theorem zee_ {p:Prop} (h:p:=by repeat (first | (with_reducible first | exact HB.out | apply pA | apply pN | apply p1 | refine below_set ?_ GE215.out) | exact HB.out)):p:=h
theorem zef_ {p:Prop} (h:p:=by refine zb ?_;refine blk_far ?_ NB222_224.out _;refine zb ?_;refine blk_far ?_ NB222_224.out _;refine zb ?_;refine blk_far ?_ NB222_224.out _;refine zb ?_;exact BK222.out):p:=h
theorem zeg_ {p:Prop} (h:p:=by refine zb ?_;refine blk_put (cs:=#[.int .i64 ((rd_T70 l0_1 x40_2).f0),.int .i64 ((rd_T70 l0_1 x40_2).f1),.int .i64 0]) ?_ 2 _ rfl;refine zb ?_;refine blk_put (cs:=#[.int .i64 ((rd_T70 l0_1 x40_2).f0),.int .i64 0,.int .i64 0]) ?_ 1 _ rfl;refine zb ?_;refine blk_put (cs:=#[.int .i64 0,.int .i64 0,.int .i64 0]) ?_ 0 _ rfl;refine zb ?_;exact BK224.out):p:=h
theorem zeh_ {p:Prop} (h:p:=by repeat (first | (with_reducible first | exact HB.out | apply pA | apply pN | apply p1 | refine below_set ?_ GE240.out | refine below_set ?_ GE241.out | refine below_set ?_ GE245.out) | exact HB.out)):p:=h
theorem zei_ {p:Prop} (h:p:=by repeat (first | (with_reducible first | exact HB.out | apply pA | apply pN | apply p1 | refine below_set ?_ GE379.out) | exact HB.out)):p:=h
theorem zej_ {p:Prop} (h:p:=by repeat (first | (with_reducible first | exact HB.out | apply pA | apply pN | apply p1 | refine below_set ?_ GE459.out) | exact HB.out)):p:=h
theorem zfa_ {p:Prop} (h:p:=by repeat (first | (with_reducible first | exact HB.out | apply pA | apply pN | apply p1 | refine below_set ?_ GE491.out | refine below_set ?_ GE498.out | refine below_set ?_ GE505.out | refine below_set ?_ GE513.out) | exact HB.out)):p:=h
theorem zfb_ {p:Prop} (h:p:=by have:=HK1.out;have:=HK2.out;omega):p:=h
theorem zfc_ {p:Prop} (h:p:=by repeat (first | (with_reducible first | exact HB.out | apply pA | apply pN | apply p1 | refine below_set ?_ GE215.out | refine below_set ?_ GE216.out) | exact HB.out)):p:=h
theorem zfd_ {p:Prop} (h:p:=by repeat (first | (with_reducible first | exact HB.out | apply pA | apply pN | apply p1 | refine below_set ?_ GE232.out) | exact HB.out)):p:=h
theorem zfe_ {p:Prop} (h:p:=by repeat (first | (with_reducible first | exact HB.out | apply pA | apply pN | apply p1 | refine below_set ?_ GE240.out | refine below_set ?_ GE241.out) | exact HB.out)):p:=h
theorem zff_ {p:Prop} (h:p:=by have h1_:=HK_1.out;have h3_:=HK_3.out;omega):p:=h
theorem zfg_ {p:Prop} (h:p:=by exact (by repeat (first | (with_reducible first | exact HB.out | apply pA | apply pN | apply p1) | exact HB.out))):p:=h
theorem zfh_ {p:Prop} (h:p:=by exact (below_size (by repeat (first | (with_reducible first | exact HB.out | apply pA | apply pN | apply p1) | exact HB.out)))):p:=h
theorem zfi_ {p:Prop} (h:p:=by repeat (first | (with_reducible first | exact HB.out | apply pA | apply pN | apply p1 | refine below_set ?_ GE329.out) | exact HB.out)):p:=h
theorem zfj_ {p:Prop} (h:p:=by repeat (first | (with_reducible first | exact HB.out | apply pA | apply pN | apply p1 | refine below_set ?_ GE384.out) | exact HB.out)):p:=h
theorem zga_ {p:Prop} (h:p:=by repeat (first | (with_reducible first | exact HB.out | apply pA | apply pN | apply p1 | refine below_set ?_ GE443.out) | exact HB.out)):p:=h
theorem zgb_ {p:Prop} (h:p:=by repeat (first | (with_reducible first | exact HB.out | apply pA | apply pN | apply p1 | refine below_set ?_ GE491.out | refine below_set ?_ GE498.out | refine below_set ?_ GE505.out) | exact HB.out)):p:=h
theorem zgc_ {p:Prop} (h:p:=by repeat (first | exact (Kd.C_below HR1.out HB.out)|(with_reducible refine cA ?_ _)|(with_reducible refine cN ?_ _)|(with_reducible refine cD ?_))):p:=h
theorem zgd_ {p:Prop} (h:p:=by repeat (first | (with_reducible first | exact HB.out | apply pA | apply pN | apply p1 | refine below_set ?_ GE549.out) | exact HB.out)):p:=h
theorem zge_ {p:Prop} (h:p:=by repeat (first | (with_reducible first | exact HB.out | apply pA | apply pN | apply p1 | refine below_set ?_ GE549.out | refine below_set ?_ GE559.out) | exact HB.out)):p:=h
theorem zgf_ {p:Prop} (h:p:=by repeat (first | (with_reducible first | exact HK.out | apply KeepBut.set_ | apply keep_drewN | apply keep_drew | apply keep_alloc | refine keep_far ?_ GW136.out _) | exact HK.out)):p:=h
theorem zgg_ {p:Prop} (h:p:=by repeat (first | (with_reducible first | exact HI0.out | apply IsS66.alloc | apply IsS66.drewN | apply IsS66.drew | apply IsS66.set_1 | apply IsS66.set_2 | refine IsS66.far ?_ NB0_136.out _) | exact HI0.out)):p:=h
theorem zgh_ {p:Prop} (h:p:=by repeat (first | (with_reducible first | exact HB.out | apply pA | apply pN | apply p1 | refine below_set ?_ GE193.out) | exact HB.out)):p:=h
theorem zgi_ {p:Prop} (h:p:=by repeat (first | (with_reducible first | exact HB.out | apply pA | apply pN | apply p1 | refine below_set ?_ GE193.out | refine below_set ?_ GE194.out) | exact HB.out)):p:=h
theorem zgj_ {p:Prop} (h:p:=by repeat (first | (with_reducible first | exact HB.out | apply pA | apply pN | apply p1 | refine below_set ?_ GE207.out) | exact HB.out)):p:=h
theorem zha_ {p:Prop} (h:p:=by repeat (first | (with_reducible first | exact HB.out | apply pA | apply pN | apply p1 | refine below_set ?_ GE207.out | refine below_set ?_ GE208.out) | exact HB.out)):p:=h
theorem zhb_ {p:Prop} (h:p:=by exact Kd.C_below HR0_1.out (by repeat (first | (with_reducible first | exact HB.out | apply pA | apply pN | apply p1 | refine below_set ?_ GE222.out | refine below_set ?_ GE224.out) | exact HB.out))):p:=h
theorem zhc_ {p:Prop} (h:p:=by have:=World.block_lt_of_cell? _ _ hx235_0;first | rwa [add_block] at this | exact this):p:=h
theorem zhd_ {p:Prop} (h:p:=by repeat (first | (with_reducible first | exact HB.out | apply pA | apply pN | apply p1 | refine below_set ?_ GE251.out) | exact HB.out)):p:=h
theorem zhe_ {p:Prop} (h:p:=by repeat (first | (with_reducible first | exact HB.out | apply pA | apply pN | apply p1 | refine below_set ?_ GE251.out | refine below_set ?_ GE252.out) | exact HB.out)):p:=h
theorem zhf_ {p:Prop} (h:p:=by exact (fun k_ hk=>⟨(.inr (Nat.le_trans (by first | exact HK.out.1 | exact (show Kept w _ (fun k_=>P0_ k_) from by repeat (first | (with_reducible first | exact HK.out | apply Kept.alloc | apply Kept.drewN | apply Kept.drew) | exact HK.out)).1) hk)),Kd.fresh' (Kd.R_lt (zr HO_0.out)) k_ hk⟩)):p:=h
theorem zhg_ {p:Prop} (h:p:=by repeat (first | (with_reducible first | exact HB.out | apply pA | apply pN | apply p1 | refine below_set ?_ GE319.out) | exact HB.out)):p:=h
theorem zhh_ {p:Prop} (h:p:=by have:=HMG.out;have:=HQ.out;omega):p:=h
theorem zhi_ {p:Prop} (h:p:=by repeat (first | (with_reducible first | exact HB.out | apply pA | apply pN | apply p1 | refine below_set ?_ GE388.out | refine below_set ?_ GE389.out | refine below_set ?_ GE390.out) | exact HB.out)):p:=h
theorem zhj_ {p:Prop} (h:p:=by exact (Kd.Q_reads' HO490.out).2.1):p:=h
theorem zia_ {p:Prop} (h:p:=by refine zb ?_;refine blk_far ?_ NB149_156.out _;refine zb ?_;refine blk_far ?_ NB149_156.out _;refine zb ?_;exact BK149.out):p:=h
theorem zib_ {p:Prop} (h:p:=by refine zb ?_;refine blk_put (cs:=#[.int .i64 t150,.slice none 0 0]) ?_ 1 _ rfl;refine zb ?_;refine blk_put (cs:=#[.int .i64 0,.slice none 0 0]) ?_ 0 _ rfl;refine zb ?_;exact BK156.out):p:=h
theorem zic_ {p:Prop} (h:p:=by have:=HJ1.out;have:=HK2.out;first | omega | exact Nat.le_refl _):p:=h
theorem zid_ {p:Prop} (h:p:=by simp only [mT,mC,mN];rfl):p:=h
theorem zie_ {p:Prop} (h:p:=by repeat (first | (with_reducible first | exact HB.out | apply pA | apply pN | apply p1 | refine below_set ?_ (IsS66.ge HI351.out) | refine below_set ?_ GE350.out) | exact HB.out)):p:=h
theorem zif_ {p:Prop} (h:p:=by repeat (first | (with_reducible first | exact HB.out | apply pA | apply pN | apply p1 | refine below_set ?_ GE459.out | refine below_set ?_ GE462.out) | exact HB.out)):p:=h
theorem zig_ {p:Prop} (h:p:=by repeat (first | (with_reducible first | exact HB.out | apply pA | apply pN | apply p1 | refine below_set ?_ GE491.out) | exact HB.out)):p:=h
theorem zih_ {p:Prop} (h:p:=by have hq:=hc 0 _ rfl;rwa [Nat.mul_one,Nat.add_zero] at hq):p:=h
theorem zii_ {p:Prop} (h:p:=by repeat (first | (with_reducible first | exact HB.out | apply pA | apply pN | apply p1 | refine below_set ?_ (IsS66.ge HI0.out) | refine below_set ?_ GE136.out) | exact HB.out)):p:=h
theorem zij_ {p:Prop} (h:p:=by repeat (first | (with_reducible first | exact HB.out | apply pA | apply pN | apply p1 | refine below_set ?_ GE182.out) | exact HB.out)):p:=h
theorem zja_ {p:Prop} (h:p:=by repeat (first | (with_reducible first | exact HB.out | apply pA | apply pN | apply p1 | refine below_set ?_ GE191.out) | exact HB.out)):p:=h
theorem zjb_ {p:Prop} (h:p:=by repeat (first | (with_reducible first | exact HB.out | apply pA | apply pN | apply p1 | refine below_set ?_ GE204.out) | exact HB.out)):p:=h
theorem zjc_ {p:Prop} (h:p:=by repeat (first | (with_reducible first | exact HB.out | apply pA | apply pN | apply p1 | refine below_set ?_ GE219.out) | exact HB.out)):p:=h
theorem zjd_ {p:Prop} (h:p:=by first | rfl | (simp;done)|(simp only [← hji6] <;> (first | rfl | simp))|(simp [*];done)):p:=h
theorem zje_ {p:Prop} (h:p:=by have h_:=c35_3.out;first | omega | (simp only [List.length_append,List.length_singleton,List.length_nil,List.nil_append] at h_ ⊢;omega)):p:=h
theorem zjf_ {p:Prop} (h:p:=by repeat (first | (with_reducible first | exact HB.out | apply pA | apply pN | apply p1 | refine below_set ?_ GE336.out | refine below_set ?_ GE342.out) | exact HB.out)):p:=h
theorem zjg_ {p:Prop} (h:p:=by repeat (first | (with_reducible first | exact HB.out | apply pA | apply pN | apply p1 | refine below_set ?_ GE350.out) | exact HB.out)):p:=h
theorem zjh_ {p:Prop} (h:p:=by repeat (first | (with_reducible first | exact HI351.out | apply IsS66.alloc | apply IsS66.drewN | apply IsS66.drew | apply IsS66.set_1 | apply IsS66.set_2 | refine IsS66.far ?_ NB351_350.out _) | exact HI351.out)):p:=h
theorem zji_ {p:Prop} (h:p:=by repeat (first | (with_reducible first | exact HB.out | apply pA | apply pN | apply p1 | refine below_set ?_ GE395.out | refine below_set ?_ GE409.out) | exact HB.out)):p:=h
theorem zjj_ {p:Prop} (h:p:=by repeat (first | (with_reducible first | exact HB.out | apply pA | apply pN | apply p1 | refine below_set ?_ GE419.out) | exact HB.out)):p:=h
theorem zbaa_ {p:Prop} (h:p:=by repeat (first | (with_reducible first | exact HB.out | apply pA | apply pN | apply p1 | refine below_set ?_ GE443.out | refine below_set ?_ GE446.out) | exact HB.out)):p:=h
theorem zbab_ {p:Prop} (h:p:=by repeat (first | (with_reducible first | exact HB.out | apply pA | apply pN | apply p1 | refine below_set ?_ GE473.out | refine below_set ?_ GE479.out) | exact HB.out)):p:=h
theorem zbac_ {p:Prop} (h:p:=by repeat (first | exact (Kd.Q_reads' HO490.out).2.2 | (with_reducible refine cA ?_ _)|(with_reducible refine cN ?_ _)|(with_reducible refine cD ?_))):p:=h
theorem zbad_ {p:Prop} (h:p:=by repeat (first | (with_reducible first | exact HB.out | apply pA | apply pN | apply p1 | refine below_set ?_ GE549.out | refine below_set ?_ GE559.out | refine below_set ?_ GE569.out) | exact HB.out)):p:=h
theorem zbae_ {p:Prop} (h:p:=by repeat (first | (with_reducible first | exact HI0.out | apply IsS66.alloc | apply IsS66.drewN | apply IsS66.drew | apply IsS66.set_1 | apply IsS66.set_2 | refine IsS66.far ?_ NB0_115.out _) | exact HI0.out)):p:=h
theorem zbaf_ {p:Prop} (h:p:=by repeat (first | (with_reducible first | exact HK.out | apply KeepBut.set_ | apply keep_drewN | apply keep_drew | apply keep_alloc | refine keep_far ?_ GW115.out _) | exact HK.out)):p:=h
theorem zbag_ {p:Prop} (h:p:=by exact (keep_size (w:=w) (g:=g) (row:=none) (by repeat (first | (with_reducible first | exact HK.out | apply KeepBut.set_ | apply keep_drewN | apply keep_drew | apply keep_alloc | refine keep_far ?_ GW115.out _ | refine keep_far ?_ GW116.out _) | exact HK.out)))):p:=h
theorem zbah_ {p:Prop} (h:p:=by refine zb ?_;refine blk_put (cs:=#[.int .i64 a1,u117001]) ?_ 1 _ rfl;refine zb ?_;exact BK116.out):p:=h
theorem zbai_ {p:Prop} (h:p:=by exact (Reps.one (show Kd.M (Kd.int .i64) _ _ _ (-1) [.int .i64 (-1)] from rfl) (Reps.one (show Kd.M (Kd.int .i64) _ _ _ 2 [.int .i64 2] from rfl) (Reps.none _ _)))):p:=h
theorem zbaj_ {p:Prop} (h:p:=by repeat (first | (with_reducible first | exact HB.out | apply pA | apply pN | apply p1 | refine below_set ?_ (IsS66.ge HI183.out) | refine below_set ?_ GE182.out) | exact HB.out)):p:=h
theorem zbba_ {p:Prop} (h:p:=by (try simp only [mT,mC,mN]);first | done | rfl | (simp only [hsh,hs2];rfl)):p:=h
theorem zbbb_ {p:Prop} (h:p:=by repeat (first | (with_reducible first | exact HB.out | apply pA | apply pN | apply p1 | refine below_set ?_ GE240.out) | exact HB.out)):p:=h
theorem zbbc_ {p:Prop} (h:p:=by exact (by repeat (first | (with_reducible first | exact HB.out | apply pA | apply pN | apply p1 | refine below_set ?_ GE258.out) | exact HB.out))):p:=h
theorem zbbd_ {p:Prop} (h:p:=by exact (below_size (by repeat (first | (with_reducible first | exact HB.out | apply pA | apply pN | apply p1 | refine below_set ?_ GE258.out) | exact HB.out)))):p:=h
theorem zbbe_ {p:Prop} (h:p:=by rw [Ny273.out];exact Kd.C_take (m:=(x5_1:Int).toNat) ((Kd.R_reads' n0_.out).2.2) KL19.out):p:=h
theorem zbbf_ {p:Prop} (h:p:=by rw [Ny293.out];exact Kd.C_take (m:=(x5_1:Int).toNat) ((Kd.R_reads' n0_.out).2.2) KL34.out):p:=h
theorem zbbg_ {p:Prop} (h:p:=by refine zb ?_;refine blk_put (cs:=#[.int .i64 t352,.slice Ao11 t353.length co11,.int .i64 0]) ?_ 2 _ rfl;refine zb ?_;refine blk_put (cs:=#[.int .i64 t352,.slice none 0 0,.int .i64 0]) ?_ 1 _ rfl;refine zb ?_;refine blk_put (cs:=#[.int .i64 0,.slice none 0 0,.int .i64 0]) ?_ 0 _ rfl;refine zb ?_;exact BK350.out):p:=h
theorem zbbh_ {p:Prop} (h:p:=by refine zr ?_;exact Kd.R_mono (Kd.R_far (p:=⟨gb350,2,none⟩) (Kd.R_far (p:=⟨gb350,1,none⟩) (Kd.R_far (p:=⟨gb350,0,none⟩) (Kd.R_types HO_360001.out BK350.out (by decide)) (fun _ hk=>hk.2) (.int .i64 t352)) (fun _ hk=>hk.2) (.slice Ao11 t353.length co11)) (fun _ hk=>hk.2) (.int .i64 t356)) (fun _ hk=>trivial)):p:=h
theorem zbbi_ {p:Prop} (h:p:=by refine zr ?_;exact Kd.R_mono (Kd.R_far (p:=⟨gb350,2,none⟩) (Kd.R_far (p:=⟨gb350,1,none⟩) (Kd.R_far (p:=⟨gb350,0,none⟩) (Kd.R_types HO_6.out BK350.out (by decide)) (fun _ hk=>hk.2) (.int .i64 t352)) (fun _ hk=>hk.2) (.slice Ao11 t353.length co11)) (fun _ hk=>hk.2) (.int .i64 t356)) (fun _ hk=>trivial)):p:=h
theorem zbbj_ {p:Prop} (h:p:=by repeat (first | (with_reducible first | exact HB.out | apply pA | apply pN | apply p1 | refine below_set ?_ GE388.out) | exact HB.out)):p:=h
theorem zbca_ {p:Prop} (h:p:=by repeat (first | (with_reducible first | exact HB.out | apply pA | apply pN | apply p1 | refine below_set ?_ GE388.out | refine below_set ?_ GE389.out) | exact HB.out)):p:=h
theorem zbcb_ {p:Prop} (h:p:=by repeat (first | (with_reducible first | exact HB.out | apply pA | apply pN | apply p1 | refine below_set ?_ (IsS66.ge HI420.out) | refine below_set ?_ GE419.out) | exact HB.out)):p:=h
theorem zbcc_ {p:Prop} (h:p:=by repeat (first | (with_reducible first | exact HB.out | apply pA | apply pN | apply p1 | refine below_set ?_ GE428.out) | exact HB.out)):p:=h
theorem zbcd_ {p:Prop} (h:p:=by repeat (first | (with_reducible first | exact HB.out | apply pA | apply pN | apply p1 | refine below_set ?_ GE467.out) | exact HB.out)):p:=h
theorem zbce_ {p:Prop} (h:p:=by repeat (first | exact HR0.out | (with_reducible refine cA ?_ _)|(with_reducible refine cN ?_ _)|(with_reducible refine cD ?_))):p:=h
theorem zbcf_ {p:Prop} (h:p:=by repeat (first | exact (Kd.R_reads' HO_499001.out).2.2 | (with_reducible refine cA ?_ _)|(with_reducible refine cN ?_ _)|(with_reducible refine cD ?_))):p:=h
def errW:Option Int→Value
 | none => .nilIface
 | some c => .iface 0 (.int .i64 c)
theorem errW_none:errW none = .nilIface:=rfl
theorem errW_some (c:Int):errW (some c) = .iface 0 (.int .i64 c):=rfl
theorem info3:(Tryd.prog.info? 3).map (fun i=>(i.zero,i.size,i.bytes))=some (some (.int .i64 0),1,8):=by kernel_rfl
theorem info4:(Tryd.prog.info? 4).map (fun i=>(i.zero,i.size,i.bytes))=some (some (.bool false),1,1):=by kernel_rfl
theorem info5:(Tryd.prog.info? 5).map (fun i=>(i.zero,i.size,i.bytes))=some (some (.int .u8 0),1,1):=by kernel_rfl
theorem info9:(Tryd.prog.info? 9).map (fun i=>(i.zero,i.size,i.bytes))=some (some (.string ⟨#[]⟩),1,16):=by kernel_rfl
theorem info24:(Tryd.prog.info? 24).map (fun i=>(i.zero,i.size,i.bytes))=some (some (.slice none 0 0),1,24):=by kernel_rfl
theorem info26:(Tryd.prog.info? 26).map (fun i=>(i.zero,i.size,i.bytes))=some (some (.agg #[(.int .i64 0),(.slice none 0 0)]),2,32):=by kernel_rfl
theorem info28:(Tryd.prog.info? 28).map (fun i=>(i.zero,i.size,i.bytes))=some (some (.slice none 0 0),1,24):=by kernel_rfl
theorem info30:(Tryd.prog.info? 30).map (fun i=>(i.zero,i.size,i.bytes))=some (some (.agg #[(.int .i64 0),(.slice none 0 0),(.int .i64 0)]),3,40):=by kernel_rfl
theorem info70:(Tryd.prog.info? 70).map (fun i=>(i.zero,i.size,i.bytes))=some (some (.agg #[(.int .i64 0),(.int .i64 0),(.int .i64 0)]),3,24):=by kernel_rfl
def rd_L2 (xs:List (List Int)) (i:Int):(List Int):=xs.getD i.toNat ([]:List Int)
theorem at_L2 {w:World} {A:Option Addr} {n:Nat} {xs:List (List Int)} (h:Kd.C (Kd.slice 3 (Kd.int .i64)) w A n xs) (i:Int) (h0:0≤i) (h1:i<n):∃ ad A0 c0,A=some ad∧w.cell? (ad.add i.toNat)=some (.slice A0 (rd_L2 xs i).length c0)∧(rd_L2 xs i).length≤c0∧(Kd.int .i64).C w A0 (rd_L2 xs i).length (rd_L2 xs i):=by
 obtain ⟨ad,c,e,_,hK,hc0⟩:=Kd.C_get h ([]:List Int) i h0 h1
 have hc:∀ j u,c[j]?=some u→w.cell? (ad.add (i.toNat * 1+j))=some u:=hc0
 obtain ⟨A0,c0,rfl,l0,g0⟩:=hK
 exact ⟨ad,A0,c0,e,zih_,l0,g0⟩
structure S26 where
 f0:Int
 f1:(List Int)
def z26:S26:=⟨(0:Int),([]:List Int)⟩
def k26:Kd S26:=Kd.iso (Kd.pair (Kd.int .i64) (Kd.slice 3 (Kd.int .i64))) (fun x:S26=>(x.f0,x.f1))
theorem k26_open {w:World} {x:S26} {cs:List Value} (h:k26.K w x cs):∃ A1 c1,cs=[.int .i64 x.f0,.slice A1 x.f1.length c1]∧x.f1.length≤c1∧(Kd.int .i64).C w A1 x.f1.length x.f1:=by
 obtain ⟨_,_,rfl,rfl,⟨A1,c1,rfl,l1,g1⟩⟩:=h
 exact ⟨A1,c1,rfl,l1,g1⟩
theorem k26_openM {w:World} {base:Nat} {ok:Nat→Prop} {x:S26} {cs:List Value} (h:k26.M w base ok x cs):∃ v1,cs=[.int .i64 x.f0,v1]∧(Kd.int .i64).R 3 w base ok v1 x.f1:=by
 obtain ⟨_,_,rfl,rfl,⟨v1,rfl,g1⟩⟩:=h
 exact ⟨v1,rfl,g1⟩
theorem k26_mk (w:World) (x:S26) {A1:Option Addr} {c1:Nat} (l1:x.f1.length≤c1) (g1:(Kd.int .i64).C w A1 x.f1.length x.f1):k26.K w x [.int .i64 x.f0,.slice A1 x.f1.length c1]:=⟨[.int .i64 x.f0],[.slice A1 x.f1.length c1],rfl,rfl,⟨A1,c1,rfl,l1,g1⟩⟩
theorem k26_mkM (w:World) (base:Nat) (ok:Nat→Prop) (x:S26) {v1:Value} (g1:(Kd.int .i64).R 3 w base ok v1 x.f1):k26.M w base ok x [.int .i64 x.f0,v1]:=⟨[.int .i64 x.f0],[v1],rfl,rfl,⟨v1,rfl,g1⟩⟩
def rd_T26 (xs:List S26) (i:Int):S26:=xs.getD i.toNat z26
theorem at_T26 {w:World} {A:Option Addr} {n:Nat} {xs:List S26} (h:Kd.C k26 w A n xs) (i:Int) (h0:0≤i) (h1:i<n):∃ ad A1 c1,A=some ad∧w.cell? (ad.add (i.toNat * 2))=some (.int .i64 (rd_T26 xs i).f0)∧w.cell? ⟨(ad.add (i.toNat * 2)).block,(ad.add (i.toNat * 2)).off+1,none⟩=some (.slice A1 (rd_T26 xs i).f1.length c1)∧(rd_T26 xs i).f1.length≤c1∧(Kd.int .i64).C w A1 (rd_T26 xs i).f1.length (rd_T26 xs i).f1:=by
 obtain ⟨ad,c,e,_,hK,hc0⟩:=Kd.C_get h z26 i h0 h1
 have hc:∀ j u,c[j]?=some u→w.cell? (ad.add (i.toNat * 2+j))=some u:=hc0
 obtain ⟨A1,c1,rfl,l1,g1⟩:=k26_open hK
 exact ⟨ad,A1,c1,e,hc 0 _ rfl,by rw [← add_field _ _ 1 (by omega)];exact hc 1 _ rfl,l1,g1⟩
structure S70 where
 f0:Int
 f1:Int
 f2:Int
def z70:S70:=⟨(0:Int),(0:Int),(0:Int)⟩
def k70:Kd S70:=Kd.iso (Kd.pair (Kd.int .i64) (Kd.pair (Kd.int .i64) (Kd.int .i64))) (fun x:S70=>(x.f0,x.f1,x.f2))
theorem k70_open {w:World} {x:S70} {cs:List Value} (h:k70.K w x cs):cs=[.int .i64 x.f0,.int .i64 x.f1,.int .i64 x.f2]:=by
 obtain ⟨_,_,rfl,rfl,⟨_,_,rfl,rfl,rfl⟩⟩:=h
 exact rfl
theorem k70_openM {w:World} {base:Nat} {ok:Nat→Prop} {x:S70} {cs:List Value} (h:k70.M w base ok x cs):cs=[.int .i64 x.f0,.int .i64 x.f1,.int .i64 x.f2]:=by
 obtain ⟨_,_,rfl,rfl,⟨_,_,rfl,rfl,rfl⟩⟩:=h
 exact rfl
theorem k70_mk (w:World) (x:S70)  : k70.K w x [.int .i64 x.f0,.int .i64 x.f1,.int .i64 x.f2]:=⟨[.int .i64 x.f0],[.int .i64 x.f1,.int .i64 x.f2],rfl,rfl,⟨[.int .i64 x.f1],[.int .i64 x.f2],rfl,rfl,rfl⟩⟩
theorem k70_mkM (w:World) (base:Nat) (ok:Nat→Prop) (x:S70)  : k70.M w base ok x [.int .i64 x.f0,.int .i64 x.f1,.int .i64 x.f2]:=⟨[.int .i64 x.f0],[.int .i64 x.f1,.int .i64 x.f2],rfl,rfl,⟨[.int .i64 x.f1],[.int .i64 x.f2],rfl,rfl,rfl⟩⟩
def rd_T70 (xs:List S70) (i:Int):S70:=xs.getD i.toNat z70
theorem at_T70 {w:World} {A:Option Addr} {n:Nat} {xs:List S70} (h:Kd.C k70 w A n xs) (i:Int) (h0:0≤i) (h1:i<n):∃ ad ,A=some ad∧w.cell? (ad.add (i.toNat * 3))=some (.int .i64 (rd_T70 xs i).f0)∧w.cell? ⟨(ad.add (i.toNat * 3)).block,(ad.add (i.toNat * 3)).off+1,none⟩=some (.int .i64 (rd_T70 xs i).f1)∧w.cell? ⟨(ad.add (i.toNat * 3)).block,(ad.add (i.toNat * 3)).off+2,none⟩=some (.int .i64 (rd_T70 xs i).f2):=by
 obtain ⟨ad,c,e,_,hK,hc0⟩:=Kd.C_get h z70 i h0 h1
 have hc:∀ j u,c[j]?=some u→w.cell? (ad.add (i.toNat * 3+j))=some u:=hc0
 obtain rfl:=k70_open hK
 exact ⟨ad,e,hc 0 _ rfl,by rw [← add_field _ _ 1 (by omega)];exact hc 1 _ rfl,by rw [← add_field _ _ 2 (by omega)];exact hc 2 _ rfl⟩
def rd_L5 (xs:List (List S70)) (i:Int):(List S70):=xs.getD i.toNat ([]:List S70)
theorem at_L5 {w:World} {A:Option Addr} {n:Nat} {xs:List (List S70)} (h:Kd.C (Kd.slice 70 k70) w A n xs) (i:Int) (h0:0≤i) (h1:i<n):∃ ad A0 c0,A=some ad∧w.cell? (ad.add i.toNat)=some (.slice A0 (rd_L5 xs i).length c0)∧(rd_L5 xs i).length≤c0∧k70.C w A0 (rd_L5 xs i).length (rd_L5 xs i):=by
 obtain ⟨ad,c,e,_,hK,hc0⟩:=Kd.C_get h ([]:List S70) i h0 h1
 have hc:∀ j u,c[j]?=some u→w.cell? (ad.add (i.toNat * 1+j))=some u:=hc0
 obtain ⟨A0,c0,rfl,l0,g0⟩:=hK
 exact ⟨ad,A0,c0,e,zih_,l0,g0⟩
structure S30 where
 f0:Int
 f1:(List S70)
 f2:Int
def z30:S30:=⟨(0:Int),([]:List S70),(0:Int)⟩
def k30:Kd S30:=Kd.iso (Kd.pair (Kd.int .i64) (Kd.pair (Kd.slice 70 k70) (Kd.int .i64))) (fun x:S30=>(x.f0,x.f1,x.f2))
theorem k30_open {w:World} {x:S30} {cs:List Value} (h:k30.K w x cs):∃ A1 c1,cs=[.int .i64 x.f0,.slice A1 x.f1.length c1,.int .i64 x.f2]∧x.f1.length≤c1∧k70.C w A1 x.f1.length x.f1:=by
 obtain ⟨_,_,rfl,rfl,⟨_,_,rfl,⟨A1,c1,rfl,l1,g1⟩,rfl⟩⟩:=h
 exact ⟨A1,c1,rfl,l1,g1⟩
theorem k30_openM {w:World} {base:Nat} {ok:Nat→Prop} {x:S30} {cs:List Value} (h:k30.M w base ok x cs):∃ v1,cs=[.int .i64 x.f0,v1,.int .i64 x.f2]∧k70.R 70 w base ok v1 x.f1:=by
 obtain ⟨_,_,rfl,rfl,⟨_,_,rfl,⟨v1,rfl,g1⟩,rfl⟩⟩:=h
 exact ⟨v1,rfl,g1⟩
theorem k30_mk (w:World) (x:S30) {A1:Option Addr} {c1:Nat} (l1:x.f1.length≤c1) (g1:k70.C w A1 x.f1.length x.f1):k30.K w x [.int .i64 x.f0,.slice A1 x.f1.length c1,.int .i64 x.f2]:=⟨[.int .i64 x.f0],[.slice A1 x.f1.length c1,.int .i64 x.f2],rfl,rfl,⟨[.slice A1 x.f1.length c1],[.int .i64 x.f2],rfl,⟨A1,c1,rfl,l1,g1⟩,rfl⟩⟩
theorem k30_mkM (w:World) (base:Nat) (ok:Nat→Prop) (x:S30) {v1:Value} (g1:k70.R 70 w base ok v1 x.f1):k30.M w base ok x [.int .i64 x.f0,v1,.int .i64 x.f2]:=⟨[.int .i64 x.f0],[v1,.int .i64 x.f2],rfl,rfl,⟨[v1],[.int .i64 x.f2],rfl,⟨v1,rfl,g1⟩,rfl⟩⟩
def rd_T30 (xs:List S30) (i:Int):S30:=xs.getD i.toNat z30
theorem at_T30 {w:World} {A:Option Addr} {n:Nat} {xs:List S30} (h:Kd.C k30 w A n xs) (i:Int) (h0:0≤i) (h1:i<n):∃ ad A1 c1,A=some ad∧w.cell? (ad.add (i.toNat * 3))=some (.int .i64 (rd_T30 xs i).f0)∧w.cell? ⟨(ad.add (i.toNat * 3)).block,(ad.add (i.toNat * 3)).off+1,none⟩=some (.slice A1 (rd_T30 xs i).f1.length c1)∧w.cell? ⟨(ad.add (i.toNat * 3)).block,(ad.add (i.toNat * 3)).off+2,none⟩=some (.int .i64 (rd_T30 xs i).f2)∧(rd_T30 xs i).f1.length≤c1∧k70.C w A1 (rd_T30 xs i).f1.length (rd_T30 xs i).f1:=by
 obtain ⟨ad,c,e,_,hK,hc0⟩:=Kd.C_get h z30 i h0 h1
 have hc:∀ j u,c[j]?=some u→w.cell? (ad.add (i.toNat * 3+j))=some u:=hc0
 obtain ⟨A1,c1,rfl,l1,g1⟩:=k30_open hK
 exact ⟨ad,A1,c1,e,hc 0 _ rfl,by rw [← add_field _ _ 1 (by omega)];exact hc 1 _ rfl,by rw [← add_field _ _ 2 (by omega)];exact hc 2 _ rfl,l1,g1⟩
def rd_L8 (xs:List (List Bool)) (i:Int):(List Bool):=xs.getD i.toNat ([]:List Bool)
theorem at_L8 {w:World} {A:Option Addr} {n:Nat} {xs:List (List Bool)} (h:Kd.C (Kd.slice 4 Kd.bool) w A n xs) (i:Int) (h0:0≤i) (h1:i<n):∃ ad A0 c0,A=some ad∧w.cell? (ad.add i.toNat)=some (.slice A0 (rd_L8 xs i).length c0)∧(rd_L8 xs i).length≤c0∧Kd.bool.C w A0 (rd_L8 xs i).length (rd_L8 xs i):=by
 obtain ⟨ad,c,e,_,hK,hc0⟩:=Kd.C_get h ([]:List Bool) i h0 h1
 have hc:∀ j u,c[j]?=some u→w.cell? (ad.add (i.toNat * 1+j))=some u:=hc0
 obtain ⟨A0,c0,rfl,l0,g0⟩:=hK
 exact ⟨ad,A0,c0,e,zih_,l0,g0⟩
def rd_L10 (xs:List (List ByteArray)) (i:Int):(List ByteArray):=xs.getD i.toNat ([]:List ByteArray)
theorem at_L10 {w:World} {A:Option Addr} {n:Nat} {xs:List (List ByteArray)} (h:Kd.C (Kd.slice 9 Kd.string) w A n xs) (i:Int) (h0:0≤i) (h1:i<n):∃ ad A0 c0,A=some ad∧w.cell? (ad.add i.toNat)=some (.slice A0 (rd_L10 xs i).length c0)∧(rd_L10 xs i).length≤c0∧Kd.string.C w A0 (rd_L10 xs i).length (rd_L10 xs i):=by
 obtain ⟨ad,c,e,_,hK,hc0⟩:=Kd.C_get h ([]:List ByteArray) i h0 h1
 have hc:∀ j u,c[j]?=some u→w.cell? (ad.add (i.toNat * 1+j))=some u:=hc0
 obtain ⟨A0,c0,rfl,l0,g0⟩:=hK
 exact ⟨ad,A0,c0,e,zih_,l0,g0⟩
theorem eqA70 (d:Nat) (w:World) (x0 y0:Int) (x1 y1:Int) (x2 y2:Int) :
  (Op.equalIn (d+2) 70 (.agg #[.int .i64 x0,.int .i64 x1,.int .i64 x2]) (.agg #[.int .i64 y0,.int .i64 y1,.int .i64 y2])).run Tryd.prog w = .ok (x0 == y0 && (x1 == y1 && (x2 == y2))) w:=by
 refine eqA_of Tryd.underlying70 (by kernel_rfl) ?_
 refine eqf_cons (by rfl) (by go_simp;rfl) (by go_simp;rfl) (by go_simp) ?_
 refine eqf_cons (by rfl) (by go_simp;rfl) (by go_simp;rfl) (by go_simp) ?_
 exact eqf_last (by rfl) (by go_simp;rfl) (by go_simp;rfl) (by go_simp)
def laws_big.f (l0:List Int) (l1:List Int):Option (Bool):=if (l0.length:Int)>1048576 then (some true) else (some (decide ((l1.length:Int)>(wrap64 (1048576 - (l0.length:Int))))))
theorem laws_big.calls (A0:Option Addr) (c0:Nat) (l0:List Int) (A1:Option Addr) (c1:Nat) (l1:List Int) (r:Bool) (w:World) (hr0:Kd.C (Kd.int .u8) w A0 l0.length l0) (hc0:l0.length≤c0) (hr1:Kd.C (Kd.int .u8) w A1 l1.length l1) (hc1:l1.length≤c1) (h:laws_big.f l0 l1=some r) :
  Calls Tryd.prog 5 #[.slice A0 l0.length c0,.slice A1 l1.length c1] w fun e w'=>e = .returned (.bool r)∧Drawn0 w w':=by
 have HR0:=aM hr0
 have HC0:=aM hc0
 clear hr0 hc0
 have HR1:=aM hr1
 have HC1:=aM hc1
 clear hr1 hc1
 have H:(if (l0.length:Int)>1048576 then (some true) else (some (decide ((l1.length:Int)>(wrap64 (1048576 - (l0.length:Int)))))))=some r:=h
 clear h
 by_cases c3:(l0.length:Int)>1048576
 ·rw [if_pos c3] at H
  have c3b0:decide (1048576<(l0.length:Int))=true:=decide_eq_true c3;have c3b1:decide (1048576<l0.length)=true:=decide_eq_true (by omega);clear c3;obtain rfl:=Option.some.inj H
  go_enter Tryd.func5,Tryd.ntmps5
  go_wp2
  go_ret
  exact ⟨ze_,zbb_⟩
 ·rw [if_neg c3] at H
  have c3b0:decide (1048576<(l0.length:Int))=false:=decide_eq_false c3;have c3b1:decide (1048576<l0.length)=false:=decide_eq_false (by omega);clear c3;obtain rfl:=Option.some.inj H
  go_enter Tryd.func5,Tryd.ntmps5
  go_wp2
  go_ret
  exact ⟨ze_,zbb_⟩
def IsS66 (w0 W:World) (g:Nat) (f0:List Int) (f1:Int) (f2:Int):Prop:=∃ A0 c0,W.heap[g]?=some (.cells #[.slice A0 f0.length c0,.int .i64 f1,.int .u64 f2] 66 (0,0))∧w0.heap.size≤g∧Kd.C (Kd.int .u8) w0 A0 f0.length f0
theorem IsS66.grown {w0 W:World} {g:Nat} {f0:List Int} {f1:Int} {f2:Int} {W1:World} {row:Option Nat} (h:IsS66 w0 W g f0 f1 f2) (hw:W.grownBy W1 row) (hne:some g≠row):IsS66 w0 W1 g f0 f1 f2:=by
 obtain ⟨A0,c0,hb,hg,hr0⟩:=h
 exact ⟨A0,c0,blk_grown hb hw hne,hg,hr0⟩
theorem IsS66.own_neN {w0 W:World} {g:Nat} {f0:List Int} {f1:Int} {f2:Int} {α:Type} {d:Kd α} {e:Nat} {base:Nat} {ok:Nat→Prop} {v:Value} {xs:List α} (h:IsS66 w0 W g f0 f1 f2) (ho:Kd.N d e W base ok v xs) (ht:e≠66):some g≠v.ownBlock:=by
 obtain ⟨A0,c0,hb,hg,hr0⟩:=h
 exact Kd.N_ne ho hb ht
theorem IsS66.fresh {w0 W:World} {g:Nat} {f0:List Int} {f1:Int} {f2:Int} (h:IsS66 w0 W g f0 f1 f2):∀ k,W.heap.size≤k→k≠g:=by
 obtain ⟨A0,c0,hb,hg,hr0⟩:=h
 exact Kd.freshB hb
theorem IsS66.kept {w0 W:World} {g:Nat} {f0:List Int} {f1:Int} {f2:Int} {W1:World} {S:Nat→Prop} (h:IsS66 w0 W g f0 f1 f2) (hk:Kept W W1 S) (hne:¬ S g):IsS66 w0 W1 g f0 f1 f2:=by
 obtain ⟨A0,c0,hb,hg,hr0⟩:=h
 exact ⟨A0,c0,blk_kept hb hk hne,hg,hr0⟩
theorem IsS66.below {w0 W:World} {g:Nat} {f0:List Int} {f1:Int} {f2:Int} {W1:World} (h:IsS66 w0 W g f0 f1 f2) (hw:Below W.heap.size W W1):IsS66 w0 W1 g f0 f1 f2:=h.grown (grown_of_below hw none) (by simp)
theorem IsS66.alloc {w0 W:World} {g:Nat} {f0:List Int} {f1:Int} {f2:Int} (h:IsS66 w0 W g f0 f1 f2) (o:Obj):IsS66 w0 (W.alloc o) g f0 f1 f2:=h.below (pA (Below.refl _ _) o)
theorem IsS66.drewN {w0 W:World} {g:Nat} {f0:List Int} {f1:Int} {f2:Int} (h:IsS66 w0 W g f0 f1 f2) (m:Nat):IsS66 w0 (W.drewN m) g f0 f1 f2:=h
theorem IsS66.drew {w0 W:World} {g:Nat} {f0:List Int} {f1:Int} {f2:Int} (h:IsS66 w0 W g f0 f1 f2):IsS66 w0 W.drew g f0 f1 f2:=h
theorem IsS66.at_ {w0 W:World} {g:Nat} {f0:List Int} {f1:Int} {f2:Int} {w':World} {m:Nat} (hq:W.drewN m=w') (h:IsS66 w0 W g f0 f1 f2):IsS66 w0 w' g f0 f1 f2:=by subst hq;exact IsS66.drewN h m
theorem IsS66.apart {w0 W:World} {g:Nat} {f0:List Int} {f1:Int} {f2:Int} {α:Type} {d:Kd α} {e:Nat} {base:Nat} {ok:Nat→Prop} {v:Value} {xs:List α} (h:IsS66 w0 W g f0 f1 f2) (ho:d.R e W base ok v xs) (ht:∀ q,q∈e :: d.E→q≠66):d.R e W base (fun k=>ok k∧k≠g) v xs:=by
 obtain ⟨A0,c0,hb,hg,hr0⟩:=h
 exact Kd.R_types ho hb ht
theorem IsS66.own_ne {w0 W:World} {g:Nat} {f0:List Int} {f1:Int} {f2:Int} {α:Type} {d:Kd α} {e:Nat} {base:Nat} {ok:Nat→Prop} {v:Value} {xs:List α} (h:IsS66 w0 W g f0 f1 f2) (ho:d.R e W base ok v xs) (ht:e≠66):some g≠v.ownBlock:=by
 obtain ⟨A0,c0,hb,hg,hr0⟩:=h
 exact Kd.R_ne ho hb ht
theorem IsS66.apartQ {w0 W:World} {g:Nat} {f0:List Int} {f1:Int} {f2:Int} {α:Type} {d:Kd α} {e:Nat} {base:Nat} {ok:Nat→Prop} {v:Value} {xs:List α} (h:IsS66 w0 W g f0 f1 f2) (ho:d.Q e W base ok v xs) (ht:∀ q,q∈e :: d.E→q≠66):d.Q e W base (fun k=>ok k∧k≠g) v xs:=by
 obtain ⟨A0,c0,hb,hg,hr0⟩:=h
 exact Kd.Q_types ho hb ht
theorem IsS66.own_neQ {w0 W:World} {g:Nat} {f0:List Int} {f1:Int} {f2:Int} {α:Type} {d:Kd α} {e:Nat} {base:Nat} {ok:Nat→Prop} {v:Value} {xs:List α} (h:IsS66 w0 W g f0 f1 f2) (ho:d.Q e W base ok v xs) (ht:e≠66):some g≠v.ownBlock:=by
 obtain ⟨A0,c0,hb,hg,hr0⟩:=h
 exact Kd.Q_ne ho hb ht
theorem IsS66.apartS {w0 W:World} {g:Nat} {f0:List Int} {f1:Int} {f2:Int} {α:Type} {d:Kd α} {e:Nat} {base:Nat} {ok:Nat→Prop} {v:Value} {xs:List α} (h:IsS66 w0 W g f0 f1 f2) (ho:d.S e W base ok v xs) (ht:∀ q,q∈e :: d.E→q≠66):d.S e W base (fun k=>ok k∧k≠g) v xs:=by
 obtain ⟨A0,c0,hb,hg,hr0⟩:=h
 exact Kd.S_types ho hb ht
theorem IsS66.own_neS {w0 W:World} {g:Nat} {f0:List Int} {f1:Int} {f2:Int} {α:Type} {d:Kd α} {e:Nat} {base:Nat} {ok:Nat→Prop} {v:Value} {xs:List α} (h:IsS66 w0 W g f0 f1 f2) (ho:d.S e W base ok v xs) (ht:e≠66):some g≠v.ownBlock:=by
 obtain ⟨A0,c0,hb,hg,hr0⟩:=h
 exact Kd.S_ne ho hb ht
theorem IsS66.lt {w0 W:World} {g:Nat} {f0:List Int} {f1:Int} {f2:Int} (h:IsS66 w0 W g f0 f1 f2):g<W.heap.size:=by
 obtain ⟨A0,c0,hb,hg,hr0⟩:=h
 exact blk_lt hb
theorem IsS66.ge {w0 W:World} {g:Nat} {f0:List Int} {f1:Int} {f2:Int} (h:IsS66 w0 W g f0 f1 f2):w0.heap.size≤g:=by
 obtain ⟨A0,c0,hb,hg,hr0⟩:=h
 exact hg
theorem IsS66.ne_blk {w0 W:World} {g:Nat} {f0:List Int} {f1:Int} {f2:Int} {a:Nat} {cs:Array Value} {t:TypeId} {fr:Nat×Nat} (h:IsS66 w0 W g f0 f1 f2) (hb2:W.heap[a]?=some (.cells cs t fr)) (ht:t≠66):g≠a:=by
 obtain ⟨A0,c0,hb,hg,hr0⟩:=h
 rintro rfl
 rw [hb] at hb2
 injection hb2 with hb2
 injection hb2 with _ ht2
 exact ht ht2.symm
theorem IsS66.far {w0 W:World} {g:Nat} {f0:List Int} {f1:Int} {f2:Int} {p:Addr} (h:IsS66 w0 W g f0 f1 f2) (hne:g≠p.block) (u:Value):IsS66 w0 (W.setCell p u) g f0 f1 f2:=by
 obtain ⟨A0,c0,hb,hg,hr0⟩:=h
 exact ⟨A0,c0,blk_far hb hne u,hg,hr0⟩
theorem cellS66_0 {W:World} {g:Nat} {A0:Option Addr} {c0:Nat} {f0:List Int} {f1:Int} {f2:Int} (h:W.heap[g]?=some (.cells #[.slice A0 f0.length c0,.int .i64 f1,.int .u64 f2] 66 (0,0))):W.cell? ⟨g,0,none⟩=some (.slice A0 f0.length c0):=(blk_cell h 0).trans rfl
theorem cellS66_1 {W:World} {g:Nat} {A0:Option Addr} {c0:Nat} {f0:List Int} {f1:Int} {f2:Int} (h:W.heap[g]?=some (.cells #[.slice A0 f0.length c0,.int .i64 f1,.int .u64 f2] 66 (0,0))):W.cell? ⟨g,1,none⟩=some (.int .i64 f1):=(blk_cell h 1).trans rfl
theorem IsS66.set_1 {w0 W:World} {g:Nat} {f0:List Int} {f1:Int} {f2:Int} (h:IsS66 w0 W g f0 f1 f2) (x:Int):IsS66 w0 (W.setCell ⟨g,1,none⟩ (.int .i64 x)) g f0 x f2:=by
 obtain ⟨A0,c0,hb,hg,hr0⟩:=h
 exact ⟨A0,c0,by simpa using blk_set hb 1 (.int .i64 x),hg,hr0⟩
theorem cellS66_2 {W:World} {g:Nat} {A0:Option Addr} {c0:Nat} {f0:List Int} {f1:Int} {f2:Int} (h:W.heap[g]?=some (.cells #[.slice A0 f0.length c0,.int .i64 f1,.int .u64 f2] 66 (0,0))):W.cell? ⟨g,2,none⟩=some (.int .u64 f2):=(blk_cell h 2).trans rfl
theorem IsS66.set_2 {w0 W:World} {g:Nat} {f0:List Int} {f1:Int} {f2:Int} (h:IsS66 w0 W g f0 f1 f2) (x:Int):IsS66 w0 (W.setCell ⟨g,2,none⟩ (.int .u64 x)) g f0 f1 x:=by
 obtain ⟨A0,c0,hb,hg,hr0⟩:=h
 exact ⟨A0,c0,by simpa using blk_set hb 2 (.int .u64 x),hg,hr0⟩
theorem IsS66.new (w0 W:World) (A0:Option Addr) (c0:Nat) (f0:List Int) (f1:Int) (f2:Int) (hB:Below w0.heap.size w0 W) (hr0:Kd.C (Kd.int .u8) w0 A0 f0.length f0):IsS66 w0 (W.alloc (.cells #[.slice A0 f0.length c0,.int .i64 f1,.int .u64 f2] 66)) W.heap.size f0 f1 f2:=⟨A0,c0,by simpa using heap_alloc_new W _,hB.size,hr0⟩
def spec_l1Cur_next.f (s0_0:List Int) (s0_1:Int) (s0_2:Int):Option (Int×Int×Int):=if s0_1<(s0_0.length:Int) then (if 0≤s0_1 then (if (wrap64 (s0_1+1))≤(s0_0.length:Int) then (some (wrap64 (rd s0_0 s0_1),wrap64 (s0_1+1),IntKind.u64.wrap ((IntKind.u64.wrap ((IntKind.u64.wrap (s0_2 * 6364136223846793005))+(IntKind.u64.wrap (wrap64 (rd s0_0 s0_1)))))+1442695040888963407))) else (some (wrap64 (Go.bits .and .u64 ((IntKind.u64.wrap ((IntKind.u64.wrap ((IntKind.u64.wrap (s0_2 * 6364136223846793005))+(IntKind.u64.wrap (wrap64 (rd s0_0 s0_1)))))+1442695040888963407)) / 1099511627776) 255),wrap64 (s0_1+1),IntKind.u64.wrap ((IntKind.u64.wrap ((IntKind.u64.wrap (s0_2 * 6364136223846793005))+(IntKind.u64.wrap (wrap64 (rd s0_0 s0_1)))))+1442695040888963407)))) else (none)) else (if (wrap64 (s0_1+1))≤(s0_0.length:Int) then (some (0,wrap64 (s0_1+1),IntKind.u64.wrap ((IntKind.u64.wrap (IntKind.u64.wrap (s0_2 * 6364136223846793005)))+1442695040888963407))) else (some (wrap64 (Go.bits .and .u64 ((IntKind.u64.wrap ((IntKind.u64.wrap (IntKind.u64.wrap (s0_2 * 6364136223846793005)))+1442695040888963407)) / 1099511627776) 255),wrap64 (s0_1+1),IntKind.u64.wrap ((IntKind.u64.wrap (IntKind.u64.wrap (s0_2 * 6364136223846793005)))+1442695040888963407))))
theorem spec_l1Cur_next.calls (g:Nat) (s0_0:List Int) (s0_1:Int) (s0_2:Int) (r1:Int) (r2:Int) (r3:Int) (w0 w:World) (hI:IsS66 w0 w g s0_0 s0_1 s0_2) (hB:Below w0.heap.size w0 w) (h:spec_l1Cur_next.f s0_0 s0_1 s0_2=some (r1,r2,r3)) :
  Calls Tryd.prog 89 #[.pointer (some ⟨g,0,none⟩)] w fun e w'=>e = .returned (.int .i64 r1)∧IsS66 w0 w' g s0_0 r2 r3∧Below w0.heap.size w0 w'∧KeepBut w w' g none:=by
 have HI0:=aM hI
 have HK:=aM (KeepBut.refl w g none)
 have HL:=aM hB.size
 clear hI
 have HW0:=aM hB.size
 have HB:=aM hB
 clear hB
 have H:(if s0_1<(s0_0.length:Int) then (if 0≤s0_1 then (if (wrap64 (s0_1+1))≤(s0_0.length:Int) then (some (wrap64 (rd s0_0 s0_1),wrap64 (s0_1+1),IntKind.u64.wrap ((IntKind.u64.wrap ((IntKind.u64.wrap (s0_2 * 6364136223846793005))+(IntKind.u64.wrap (wrap64 (rd s0_0 s0_1)))))+1442695040888963407))) else (some (wrap64 (Go.bits .and .u64 ((IntKind.u64.wrap ((IntKind.u64.wrap ((IntKind.u64.wrap (s0_2 * 6364136223846793005))+(IntKind.u64.wrap (wrap64 (rd s0_0 s0_1)))))+1442695040888963407)) / 1099511627776) 255),wrap64 (s0_1+1),IntKind.u64.wrap ((IntKind.u64.wrap ((IntKind.u64.wrap (s0_2 * 6364136223846793005))+(IntKind.u64.wrap (wrap64 (rd s0_0 s0_1)))))+1442695040888963407)))) else (none)) else (if (wrap64 (s0_1+1))≤(s0_0.length:Int) then (some (0,wrap64 (s0_1+1),IntKind.u64.wrap ((IntKind.u64.wrap (IntKind.u64.wrap (s0_2 * 6364136223846793005)))+1442695040888963407))) else (some (wrap64 (Go.bits .and .u64 ((IntKind.u64.wrap ((IntKind.u64.wrap (IntKind.u64.wrap (s0_2 * 6364136223846793005)))+1442695040888963407)) / 1099511627776) 255),wrap64 (s0_1+1),IntKind.u64.wrap ((IntKind.u64.wrap (IntKind.u64.wrap (s0_2 * 6364136223846793005)))+1442695040888963407)))))=some (r1,r2,r3):=h
 clear h
 by_cases c2:s0_1<(s0_0.length:Int)
 ·rw [if_pos c2] at H
  have c2b0:=decide_eq_true c2;clear c2
  by_cases c3:0≤s0_1
  ·rw [if_pos c3] at H
   have c3b0:=decide_eq_true c3;clear c3
   by_cases c4:(wrap64 (s0_1+1))≤(s0_0.length:Int)
   ·rw [if_pos c4] at H
    have c4b0:=decide_eq_true c4;clear c4
    simp only [Option.some.injEq,Prod.mk.injEq] at H
    obtain ⟨rfl,rfl,rfl⟩:=H;obtain ⟨ASz5_0,cSz5_0,HGz5,hgz5,HSz5_0⟩:=HI0.out;have hcz5_0:=cellS66_0 HGz5;have hcz5_1:=cellS66_1 HGz5;have hcz5_2:=cellS66_2 HGz5;have hfz5_1:=blk_frozen HGz5 1;have hfz5_2:=blk_frozen HGz5 2;clear HGz5 hgz5;have p101:0≤(s0_1:Int):=of_decide_eq_true zc_;have q101:s0_1<(s0_0.length:Int):=of_decide_eq_true zc_;obtain ⟨ad101,e101,hx101_0⟩:=Kd.at_int HSz5_0 s0_1 p101 q101
    cases e101
    replace hx101_0:=pw_cell_below HB.out hx101_0;replace p101:=eq_true p101;replace q101:=eq_true q101
    go_enter Tryd.func89,Tryd.ntmps89
    go_wp2
    repeat (go_quiet (fail);try go_wp2)
    go_ret
    exact ⟨zf_,zh_,zbj_,zi_⟩
   ·rw [if_neg c4] at H
    have c4b0:=decide_eq_false c4;clear c4
    simp only [Option.some.injEq,Prod.mk.injEq] at H
    obtain ⟨rfl,rfl,rfl⟩:=H;obtain ⟨ASz6_0,cSz6_0,HGz6,hgz6,HSz6_0⟩:=HI0.out;have hcz6_0:=cellS66_0 HGz6;have hcz6_1:=cellS66_1 HGz6;have hcz6_2:=cellS66_2 HGz6;have hfz6_1:=blk_frozen HGz6 1;have hfz6_2:=blk_frozen HGz6 2;clear HGz6 hgz6;have p101:0≤(s0_1:Int):=of_decide_eq_true zc_;have q101:s0_1<(s0_0.length:Int):=of_decide_eq_true zc_;obtain ⟨ad101,e101,hx101_0⟩:=Kd.at_int HSz6_0 s0_1 p101 q101
    cases e101
    replace hx101_0:=pw_cell_below HB.out hx101_0;replace p101:=eq_true p101;replace q101:=eq_true q101
    go_enter Tryd.func89,Tryd.ntmps89
    go_wp2
    repeat (go_quiet (fail);try go_wp2)
    go_ret
    exact ⟨zf_,zh_,zbj_,zi_⟩
  ·rw [if_neg c3] at H
   exact q3n_ H
 ·rw [if_neg c2] at H
  have c2b0:=decide_eq_false c2;clear c2
  by_cases c7:(wrap64 (s0_1+1))≤(s0_0.length:Int)
  ·rw [if_pos c7] at H
   have c7b0:=decide_eq_true c7;clear c7
   simp only [Option.some.injEq,Prod.mk.injEq] at H
   obtain ⟨rfl,rfl,rfl⟩:=H;obtain ⟨ASz8_0,cSz8_0,HGz8,hgz8,HSz8_0⟩:=HI0.out;have hcz8_0:=cellS66_0 HGz8;have hcz8_1:=cellS66_1 HGz8;have hcz8_2:=cellS66_2 HGz8;have hfz8_1:=blk_frozen HGz8 1;have hfz8_2:=blk_frozen HGz8 2;clear HGz8 hgz8
   go_enter Tryd.func89,Tryd.ntmps89
   go_wp2
   repeat (go_quiet (fail);try go_wp2)
   go_ret
   exact ⟨zf_,zh_,zbj_,zi_⟩
  ·rw [if_neg c7] at H
   have c7b0:=decide_eq_false c7;clear c7
   simp only [Option.some.injEq,Prod.mk.injEq] at H
   obtain ⟨rfl,rfl,rfl⟩:=H;obtain ⟨ASz9_0,cSz9_0,HGz9,hgz9,HSz9_0⟩:=HI0.out;have hcz9_0:=cellS66_0 HGz9;have hcz9_1:=cellS66_1 HGz9;have hcz9_2:=cellS66_2 HGz9;have hfz9_1:=blk_frozen HGz9 1;have hfz9_2:=blk_frozen HGz9 2;clear HGz9 hgz9
   go_enter Tryd.func89,Tryd.ntmps89
   go_wp2
   repeat (go_quiet (fail);try go_wp2)
   go_ret
   exact ⟨zf_,zh_,zbj_,zi_⟩
def spec_l1Cur_pick.f (s0_0:List Int) (s0_1:Int) (s0_2:Int) (a1:Int):Option (Int×Int×Int):=if a1≤1 then (some (0,s0_1,s0_2)) else ((spec_l1Cur_next.f s0_0 s0_1 s0_2).bind fun bt102=>(if a1>200 then ((spec_l1Cur_next.f s0_0 bt102.2.1 bt102.2.2).bind fun bt105=>(if a1=0 then (none) else (some (Int.tmod (wrap64 ((wrap64 (bt102.1 * 256))+bt105.1)) a1,bt105.2.1,bt105.2.2)))) else (if a1=0 then (none) else (some (Int.tmod bt102.1 a1,bt102.2.1,bt102.2.2)))))
theorem spec_l1Cur_pick.calls (g:Nat) (s0_0:List Int) (s0_1:Int) (s0_2:Int) (a1:Int) (r1:Int) (r2:Int) (r3:Int) (w0 w:World) (hI:IsS66 w0 w g s0_0 s0_1 s0_2) (hB:Below w0.heap.size w0 w) (h:spec_l1Cur_pick.f s0_0 s0_1 s0_2 a1=some (r1,r2,r3)) :
  Calls Tryd.prog 59 #[.pointer (some ⟨g,0,none⟩),.int .i64 a1] w fun e w'=>e = .returned (.int .i64 r1)∧IsS66 w0 w' g s0_0 r2 r3∧Below w0.heap.size w0 w'∧KeepBut w w' g none:=by
 have HI0:=aM hI
 have HK:=aM (KeepBut.refl w g none)
 have HL:=aM hB.size
 clear hI
 have HW0:=aM hB.size
 have HB:=aM hB
 clear hB
 have H:(if a1≤1 then (some (0,s0_1,s0_2)) else ((spec_l1Cur_next.f s0_0 s0_1 s0_2).bind fun bt102=>(if a1>200 then ((spec_l1Cur_next.f s0_0 bt102.2.1 bt102.2.2).bind fun bt105=>(if a1=0 then (none) else (some (Int.tmod (wrap64 ((wrap64 (bt102.1 * 256))+bt105.1)) a1,bt105.2.1,bt105.2.2)))) else (if a1=0 then (none) else (some (Int.tmod bt102.1 a1,bt102.2.1,bt102.2.2))))))=some (r1,r2,r3):=h
 clear h
 by_cases c3:a1≤1
 ·rw [if_pos c3] at H
  have c3b0:=decide_eq_true c3;clear c3
  simp only [Option.some.injEq,Prod.mk.injEq] at H
  obtain ⟨rfl,rfl,rfl⟩:=H
  go_enter Tryd.func59,Tryd.ntmps59
  go_wp2
  go_ret
  exact ⟨zf_,zh_,zbj_,zi_⟩
 ·rw [if_neg c3] at H
  have c3b0:=decide_eq_false c3;clear c3;replace H:=oB.mp H;obtain ⟨⟨t102,t103,t104⟩,A40,H⟩:=H;replace H:(if a1>200 then ((spec_l1Cur_next.f s0_0 t103 t104).bind fun bt105=>(if a1=0 then (none) else (some (Int.tmod (wrap64 ((wrap64 (t102 * 256))+bt105.1)) a1,bt105.2.1,bt105.2.2)))) else (if a1=0 then (none) else (some (Int.tmod t102 a1,t103,t104))))=some (r1,r2,r3):=H;have A4:=aM A40;clear A40
  by_cases c5:a1>200
  ·rw [if_pos c5] at H
   have c5b0:decide (200<a1)=true:=decide_eq_true c5;clear c5;replace H:=oB.mp H;obtain ⟨⟨t105,t106,t107⟩,A60,H⟩:=H;replace H:(if a1=0 then (none) else (some (Int.tmod (wrap64 ((wrap64 (t102 * 256))+t105)) a1,t106,t107)))=some (r1,r2,r3):=H;have A6:=aM A60;clear A60
   by_cases c7:a1=0
   ·rw [if_pos c7] at H
    exact q3n_ H
   ·rw [if_neg c7] at H
    have c7b0:=beq_eq_false_iff_ne.mpr c7;have c7b1:=bne_iff_ne.mpr c7
    simp only [Option.some.injEq,Prod.mk.injEq] at H
    obtain ⟨rfl,rfl,rfl⟩:=H
    go_enter Tryd.func59,Tryd.ntmps59
    go_wp2_with (first | ((with_reducible refine gate_callee (f:=89) rfl ?_);refine goesL_ (some 9) rfl rfl Tryd.func89 (by kernel_rfl) rfl #[.pointer (some ⟨g,0,none⟩)] rfl zd_ ?_;(with_reducible refine (spec_l1Cur_next.calls g s0_0 s0_1 s0_2 t102 t103 t104 w0 _ ?side1 ?side2 A4.out).mono ?_);(case side1=>exact zh_);(case side2=>exact zbj_);rintro e w8 ⟨rfl,hi,hb,hk⟩;refine ⟨_,rfl,?_⟩;have n_:=z (KeepBut.trans zi_ hk (.inl rfl))<|z (hb)<|z1 (hi);clear HK HB HI0;obtain ⟨HK,HB,HI0⟩:=n_;clear hb hk hi)|((with_reducible refine gate_callee (f:=89) rfl ?_);refine goesL_ (some 15) rfl rfl Tryd.func89 (by kernel_rfl) rfl #[.pointer (some ⟨g,0,none⟩)] rfl zd_ ?_;(with_reducible refine (spec_l1Cur_next.calls g s0_0 t103 t104 t105 t106 t107 w0 _ ?side1 ?side2 A6.out).mono ?_);(case side1=>exact zh_);(case side2=>exact zbj_);rintro e w9 ⟨rfl,hi,hb,hk⟩;refine ⟨_,rfl,?_⟩;have n_:=z (KeepBut.trans zi_ hk (.inl rfl))<|z (hb)<|z1 (hi);clear HK HB HI0;obtain ⟨HK,HB,HI0⟩:=n_;clear hb hk hi))
    go_ret
    exact ⟨zf_,zh_,zbj_,zi_⟩
  ·rw [if_neg c5] at H
   have c5b0:decide (200<a1)=false:=decide_eq_false c5;clear c5
   by_cases c10:a1=0
   ·rw [if_pos c10] at H
    exact q3n_ H
   ·rw [if_neg c10] at H
    have c10b0:=beq_eq_false_iff_ne.mpr c10;have c10b1:=bne_iff_ne.mpr c10
    simp only [Option.some.injEq,Prod.mk.injEq] at H
    obtain ⟨rfl,rfl,rfl⟩:=H
    go_enter Tryd.func59,Tryd.ntmps59
    go_wp2_with (first | ((with_reducible refine gate_callee (f:=89) rfl ?_);refine goesL_ (some 9) rfl rfl Tryd.func89 (by kernel_rfl) rfl #[.pointer (some ⟨g,0,none⟩)] rfl zd_ ?_;(with_reducible refine (spec_l1Cur_next.calls g s0_0 s0_1 s0_2 t102 t103 t104 w0 _ ?side1 ?side2 A4.out).mono ?_);(case side1=>exact zh_);(case side2=>exact zbj_);rintro e w11 ⟨rfl,hi,hb,hk⟩;refine ⟨_,rfl,?_⟩;have n_:=z (KeepBut.trans zi_ hk (.inl rfl))<|z (hb)<|z1 (hi);clear HK HB HI0;obtain ⟨HK,HB,HI0⟩:=n_;clear hb hk hi))
    go_ret
    exact ⟨zf_,zh_,zbj_,zi_⟩
def spec_l1Cur_among.f (s0_0:List Int) (s0_1:Int) (s0_2:Int) (l1:List Int):Option (Int×Int×Int):=(spec_l1Cur_pick.f s0_0 s0_1 s0_2 (l1.length:Int)).bind fun bt108=>(if 0≤bt108.1 then (if bt108.1<(l1.length:Int) then (some (rd l1 bt108.1,bt108.2.1,bt108.2.2)) else (none)) else (none))
theorem spec_l1Cur_among.calls (g:Nat) (s0_0:List Int) (s0_1:Int) (s0_2:Int) (A1:Option Addr) (c1:Nat) (l1:List Int) (r1:Int) (r2:Int) (r3:Int) (w0 w:World) (hI:IsS66 w0 w g s0_0 s0_1 s0_2) (hB:Below w0.heap.size w0 w) (hr1:Kd.C (Kd.int .i64) w A1 l1.length l1) (hc1:l1.length≤c1) (hf1:∀ ad,A1=some ad→0<l1.length→ad.block≠g) (h:spec_l1Cur_among.f s0_0 s0_1 s0_2 l1=some (r1,r2,r3)) :
  Calls Tryd.prog 61 #[.pointer (some ⟨g,0,none⟩),.slice A1 l1.length c1] w fun e w'=>e = .returned (.int .i64 r1)∧IsS66 w0 w' g s0_0 r2 r3∧Below w0.heap.size w0 w'∧KeepBut w w' g none:=by
 have HR1:=aM hr1
 have HC1:=aM hc1
 clear hr1 hc1
 have HI0:=aM hI
 have HK:=aM (KeepBut.refl w g none)
 have HL:=aM hB.size
 clear hI
 have HW0:=aM hB.size
 have HB:=aM hB
 clear hB
 have H:((spec_l1Cur_pick.f s0_0 s0_1 s0_2 (l1.length:Int)).bind fun bt108=>(if 0≤bt108.1 then (if bt108.1<(l1.length:Int) then (some (rd l1 bt108.1,bt108.2.1,bt108.2.2)) else (none)) else (none)))=some (r1,r2,r3):=h
 clear h
 replace H:=oB.mp H
 obtain ⟨⟨t108,t109,t110⟩,A30,H⟩:=H
 replace H:(if 0≤t108 then (if t108<(l1.length:Int) then (some (rd l1 t108,t109,t110)) else (none)) else (none))=some (r1,r2,r3):=H
 have A3:=aM A30
 clear A30
 by_cases c4:0≤t108
 ·rw [if_pos c4] at H
  have c4b0:=decide_eq_true c4;clear c4
  by_cases c5:t108<(l1.length:Int)
  ·rw [if_pos c5] at H
   have c5b0:=decide_eq_true c5;clear c5
   simp only [Option.some.injEq,Prod.mk.injEq] at H
   obtain ⟨rfl,rfl,rfl⟩:=H
   go_enter Tryd.func61,Tryd.ntmps61
   go_wp2_with (first | ((with_reducible refine gate_callee (f:=59) rfl ?_);refine goesL_ (some 9) rfl rfl Tryd.func59 (by kernel_rfl) rfl #[.pointer (some ⟨g,0,none⟩),.int .i64 (l1.length:Int)] rfl zd_ ?_;(with_reducible refine (spec_l1Cur_pick.calls g s0_0 s0_1 s0_2 (l1.length:Int) t108 t109 t110 w0 _ ?side1 ?side2 A3.out).mono ?_);(case side1=>exact zh_);(case side2=>exact zbj_);rintro e w6 ⟨rfl,hi,hb,hk⟩;refine ⟨_,rfl,?_⟩;have n_:=z (KeepBut.trans zi_ hk (.inl rfl))<|z (hb)<|z1 (hi);clear HK HB HI0;obtain ⟨HK,HB,HI0⟩:=n_;clear hb hk hi;have p111:0≤(t108:Int):=of_decide_eq_true zc_;have q111:t108<(l1.length:Int):=of_decide_eq_true zc_;obtain ⟨ad111,e111,hx111_0⟩:=Kd.at_int HR1.out t108 p111 q111;cases e111;replace hx111_0:=keep_cell HK.out hx111_0 (by first | (rw [add_block];exact hf1 _ rfl (by omega)) | exact hf1 _ rfl (by omega) | exact hf1 ad111 rfl (by omega));replace p111:=eq_true p111;replace q111:=eq_true q111))
   go_ret
   exact ⟨zf_,zh_,zbj_,zi_⟩
  ·rw [if_neg c5] at H
   exact q3n_ H
 ·rw [if_neg c4] at H
  exact q3n_ H
def spec_l1Cur_one.f (s0_0:List Int) (s0_1:Int) (s0_2:Int) (a1:Int):Option (Bool×Int×Int):=(spec_l1Cur_pick.f s0_0 s0_1 s0_2 a1).bind fun bt112=>(some ((bt112.1 == 0),bt112.2.1,bt112.2.2))
theorem spec_l1Cur_one.calls (g:Nat) (s0_0:List Int) (s0_1:Int) (s0_2:Int) (a1:Int) (r1:Bool) (r2:Int) (r3:Int) (w0 w:World) (hI:IsS66 w0 w g s0_0 s0_1 s0_2) (hB:Below w0.heap.size w0 w) (h:spec_l1Cur_one.f s0_0 s0_1 s0_2 a1=some (r1,r2,r3)) :
  Calls Tryd.prog 60 #[.pointer (some ⟨g,0,none⟩),.int .i64 a1] w fun e w'=>e = .returned (.bool r1)∧IsS66 w0 w' g s0_0 r2 r3∧Below w0.heap.size w0 w'∧KeepBut w w' g none:=by
 have HI0:=aM hI
 have HK:=aM (KeepBut.refl w g none)
 have HL:=aM hB.size
 clear hI
 have HW0:=aM hB.size
 have HB:=aM hB
 clear hB
 have H:((spec_l1Cur_pick.f s0_0 s0_1 s0_2 a1).bind fun bt112=>(some ((bt112.1 == 0),bt112.2.1,bt112.2.2)))=some (r1,r2,r3):=h
 clear h
 replace H:=oB.mp H
 obtain ⟨⟨t112,t113,t114⟩,A30,H⟩:=H
 replace H:(some ((t112 == 0),t113,t114))=some (r1,r2,r3):=H
 have A3:=aM A30
 clear A30
 simp only [Option.some.injEq,Prod.mk.injEq] at H
 obtain ⟨rfl,rfl,rfl⟩:=H
 go_enter Tryd.func60,Tryd.ntmps60
 go_wp2_with (first | ((with_reducible refine gate_callee (f:=59) rfl ?_);refine goesL_ (some 7) rfl rfl Tryd.func59 (by kernel_rfl) rfl #[.pointer (some ⟨g,0,none⟩),.int .i64 a1] rfl zd_ ?_;(with_reducible refine (spec_l1Cur_pick.calls g s0_0 s0_1 s0_2 a1 t112 t113 t114 w0 _ ?side1 ?side2 A3.out).mono ?_);(case side1=>exact zh_);(case side2=>exact zbj_);rintro e w4 ⟨rfl,hi,hb,hk⟩;refine ⟨_,rfl,?_⟩;have n_:=z (KeepBut.trans zi_ hk (.inl rfl))<|z (hb)<|z1 (hi);clear HK HB HI0;obtain ⟨HK,HB,HI0⟩:=n_;clear hb hk hi))
 go_ret
 exact ⟨zf_,zh_,zbj_,zi_⟩
def spec_ttBit.f (a0:Int) (a1:Int):Option (Int):=if 0≤(IntKind.u64.wrap (a1)) then (some (Go.bits .and .i64 (shr .i64 a0 (IntKind.u64.wrap (a1))) 1)) else (none)
theorem spec_ttBit.calls (a0:Int) (a1:Int) (r:Int) (w:World) (h:spec_ttBit.f a0 a1=some r) :
  Calls Tryd.prog 92 #[.int .i64 a0,.int .i64 a1] w fun e w'=>e = .returned (.int .i64 r)∧Drawn0 w w':=by
 have H:(if 0≤(IntKind.u64.wrap (a1)) then (some (Go.bits .and .i64 (shr .i64 a0 (IntKind.u64.wrap (a1))) 1)) else (none))=some r:=h
 clear h
 obtain ⟨ji3,hji3⟩:∃ j_:Int,(IntKind.u64.wrap (a1))=j_:=⟨_,rfl⟩
 replace H:(if 0≤(ji3) then (some (Go.bits .and .i64 (shr .i64 a0 (ji3)) 1)) else (none))=some r:=by first | (rw [hji3] at H;exact H)|(simp only [hji3] at H ⊢;exact H)
 by_cases c4:0≤(ji3)
 ·rw [if_pos c4] at H
  have c4b0:=eq_true c4;have c4b1:=decide_eq_true c4;clear c4;obtain ⟨ji5,hji5⟩:∃ j_:Int,(shr .i64 a0 (ji3))=j_:=⟨_,rfl⟩;replace H:(some (Go.bits .and .i64 (ji5) 1))=some r:=by first | (rw [hji5] at H;exact H)|(simp only [hji5] at H ⊢;exact H)
  have hji5_:(a0 / 2 ^ min (ji3).toNat 64)=ji5:=hji5;have hji5z:(ji3)≤64→(a0 / 2 ^ (ji3).toNat)=ji5:=shr_small hji5;obtain rfl:=Option.some.inj H
  go_enter Tryd.func92,Tryd.ntmps92
  go_wp2
  go_ret
  exact ⟨by first | rfl | (simp;done)|(simp only [← hji3,← hji5] <;> (first | rfl | simp))|(simp [*];done),zbb_⟩
 ·rw [if_neg c4] at H
  exact q3n_ H
mutual
def spec_l1Cur_tableOf.l0:Nat→Int→Int→Int→List Int→Int→Int→Int→List Int→Option (Int×List Int×Int×Int)
 | 0,_,_,_,_,_,_,_,_=>none
 | k+1,x1,x6,x7,x1000,x1001,x1002,x117000,x117001=>if 0≤(IntKind.u64.wrap (x1)) then (if x7<(shl .i64 1 (IntKind.u64.wrap (x1))) then (if x6=8 then (spec_l1Cur_tableOf.l1 k x1 x6 x7 0 0 x1000 x1001 x1002 x117000 x117001) else ((spec_l1Cur_one.f x1000 x1001 x1002 x6).bind fun bt127=>(if bt127.1=true then (if x117001.length<17592186044416 then (spec_l1Cur_tableOf.l0 k x1 x6 (wrap64 (x7+1)) x1000 bt127.2.1 bt127.2.2 x117000 (x117001 ++ [1])) else (none)) else (if x117001.length<17592186044416 then (spec_l1Cur_tableOf.l0 k x1 x6 (wrap64 (x7+1)) x1000 bt127.2.1 bt127.2.2 x117000 (x117001 ++ [0])) else (none))))) else (some (x117000,x117001,x1001,x1002))) else (none)
def spec_l1Cur_tableOf.l1:Nat→Int→Int→Int→Int→Int→List Int→Int→Int→Int→List Int→Option (Int×List Int×Int×Int)
 | 0,_,_,_,_,_,_,_,_,_,_=>none
 | k+1,x1,x6,x7,x8,x9,x1000,x1001,x1002,x117000,x117001=>if x9<x1 then ((spec_ttBit.f x7 x9).bind fun t123=>(spec_l1Cur_tableOf.l1 k x1 x6 x7 (wrap64 (x8+t123)) (wrap64 (x9+1)) x1000 x1001 x1002 x117000 x117001)) else (if x117001.length<17592186044416 then (spec_l1Cur_tableOf.l0 k x1 x6 (wrap64 (x7+1)) x1000 x1001 x1002 x117000 (x117001 ++ [Int.tmod (wrap64 (Int.tdiv x8 2)) 2])) else (none))
end
def spec_l1Cur_tableOf.f (k:Nat) (s0_0:List Int) (s0_1:Int) (s0_2:Int) (a1:Int):Option (Int×List Int×Int×Int):=(spec_l1Cur_among.f s0_0 s0_1 s0_2 (([2,2,4,8]:List Int))).bind fun bt120=>(spec_l1Cur_tableOf.l0 k a1 bt120.1 0 s0_0 bt120.2.1 bt120.2.2 a1 ([]:List Int))
theorem spec_l1Cur_tableOf.calls (k:Nat) (g:Nat) (s0_0:List Int) (s0_1:Int) (s0_2:Int) (a1:Int) (r1:Int) (r2:List Int) (r3:Int) (r4:Int) (w0 w:World) (hI:IsS66 w0 w g s0_0 s0_1 s0_2) (hB:Below w0.heap.size w0 w) (h:spec_l1Cur_tableOf.f k s0_0 s0_1 s0_2 a1=some (r1,r2,r3,r4)) :
  Calls Tryd.prog 73 #[.pointer (some ⟨g,0,none⟩),.int .i64 a1] w fun e w' => ∃ v1_:Value,e = .returned (.agg #[.int .i64 r1,v1_])∧Kd.R (Kd.int .i64) 3 w' w.heap.size (fun _=>True) v1_ r2∧IsS66 w0 w' g s0_0 r3 r4∧Below w0.heap.size w0 w'∧KeepBut w w' g none:=by
 have hu26:=Tryd.underlying26
 have HI0:=aM hI
 have HK:=aM (KeepBut.refl w g none)
 have HL:=aM hB.size
 clear hI
 have HW0:=aM hB.size
 have HB:=aM hB
 clear hB
 have H:((spec_l1Cur_among.f s0_0 s0_1 s0_2 (([2,2,4,8]:List Int))).bind fun bt120=>(spec_l1Cur_tableOf.l0 k a1 bt120.1 0 s0_0 bt120.2.1 bt120.2.2 a1 ([]:List Int)))=some (r1,r2,r3,r4):=h
 clear h
 obtain ⟨y117,hy117⟩:∃ y_:List Int,y_=(([2,2,4,8]:List Int)):=⟨_,rfl⟩
 replace H:((spec_l1Cur_among.f s0_0 s0_1 s0_2 y117).bind fun bt120=>(spec_l1Cur_tableOf.l0 k a1 bt120.1 0 s0_0 bt120.2.1 bt120.2.2 a1 ([]:List Int)))=some (r1,r2,r3,r4):=q3y_ hy117 H
 have Ny117:=aM hy117
 clear hy117
 replace H:=oB.mp H
 obtain ⟨⟨t120,t121,t122⟩,A30,H⟩:=H
 replace H:(spec_l1Cur_tableOf.l0 k a1 t120 0 s0_0 t121 t122 a1 ([]:List Int))=some (r1,r2,r3,r4):=H
 have A3:=aM A30
 clear A30
 have H':=aM H
 clear H
 go_enter Tryd.func73,Tryd.ntmps73
 go_wp2_with (first | ((with_reducible refine gate_dst (N:=4) rfl ?_);refine box_event ?hg (N:=4) ?hd (cs:=#[.int .i64 0,.slice none 0 0]) (t:=26) ?hr ?_;(case hd=>rfl);(case hg=>rfl);(case hr=>exact zb_);intro gb115 hg w4 hbox hb;have n_:=z (IsS66.below zh_ hb)<|z (KeepBut.trans zi_ (KeepBut.of_below hb g none) (.inl rfl))<|z (below_step zbj_ hb)<|z (hbox)<|z ((by rw [hg];exact (keep_size (w:=w) (g:=g) (row:=none) zi_):w.heap.size≤gb115))<|z ((Nat.le_trans HW0.out (by rw [hg];exact (keep_size (w:=w) (g:=g) (row:=none) zi_):w.heap.size≤gb115):w0.heap.size≤gb115))<|z ((by rw [hg];exact Nat.ne_of_lt (IsS66.lt (show IsS66 w0 _ g s0_0 s0_1 s0_2 from zh_)):g≠gb115))<|z1 ((by rw [hg];exact Nat.ne_of_gt (IsS66.lt (show IsS66 w0 _ g s0_0 s0_1 s0_2 from zh_)):gb115≠g));clear HI0 HK HB;obtain ⟨HI0,HK,HB,BK115,GW115,GE115,NB0_115,NB115_0⟩:=n_;clear hb hbox hg)|((with_reducible refine gate_dst (N:=5) rfl ?_);refine box_event ?hg (N:=5) ?hd (cs:=#[.int .i64 0,.slice none 0 0]) (t:=26) ?hr ?_;(case hd=>rfl);(case hg=>rfl);(case hr=>exact zb_);intro gb116 hg w5 hbox hb;have n_:=z (IsS66.below zbae_ hb)<|z (blk_below (zb BK115.out) hb)<|z (KeepBut.trans zbaf_ (KeepBut.of_below hb g none) (.inl rfl))<|z (below_step (by repeat (first | (with_reducible first | exact HB.out | apply pA | apply pN | apply p1 | refine below_set ?_ (IsS66.ge HI0.out) | refine below_set ?_ GE115.out) | exact HB.out)) hb)<|z (hbox)<|z ((by rw [hg];exact (keep_size (w:=w) (g:=g) (row:=none) zbaf_):w.heap.size≤gb116))<|z ((Nat.le_trans HW0.out (by rw [hg];exact (keep_size (w:=w) (g:=g) (row:=none) zbaf_):w.heap.size≤gb116):w0.heap.size≤gb116))<|z ((by rw [hg];exact Nat.ne_of_lt (blk_lt (zb BK115.out)):gb115≠gb116))<|z ((by rw [hg];exact Nat.ne_of_gt (blk_lt (zb BK115.out)):gb116≠gb115))<|z ((by rw [hg];exact Nat.ne_of_lt (IsS66.lt (show IsS66 w0 _ g s0_0 s0_1 s0_2 from zbae_)):g≠gb116))<|z1 ((by rw [hg];exact Nat.ne_of_gt (IsS66.lt (show IsS66 w0 _ g s0_0 s0_1 s0_2 from zbae_)):gb116≠g));clear HI0 BK115 HK HB;obtain ⟨HI0,BK115,HK,HB,BK116,GW116,GE116,NB115_116,NB116_115,NB0_116,NB116_0⟩:=n_;clear hb hbox hg;have hnb6:=NB116_115.out;have hnc6:=NB115_116.out;have hnb7:=NB116_0.out;have hnc7:=NB0_116.out;obtain ⟨hcz8_0,hcz8_1,hfz8_0,hfz8_1⟩:=zk2 BK116.out)|((with_reducible refine gate_dst (N:=13) rfl ?_);refine Kd.R_lit (Kd.int .i64) _ 3 ?hg (N:=13) ?hd (xs:=([2,2,4,8]:List Int)) (inner:=[.int .i64 2,.int .i64 2,.int .i64 4,.int .i64 8]) (ok:=fun _=>True) (okp:=fun _=>True) ?hr ?hp (fun _ hk=>hk) trivial (Below.refl _ _) (Nat.le_refl _) (by simp) ?_;(case hd=>rfl);(case hg=>rfl);(case hr=>exact zb_);(case hp=>exact (Reps.one (show Kd.M (Kd.int .i64) _ _ _ 2 [.int .i64 2] from rfl) (Reps.one (show Kd.M (Kd.int .i64) _ _ _ 2 [.int .i64 2] from rfl) (Reps.one (show Kd.M (Kd.int .i64) _ _ _ 4 [.int .i64 4] from rfl) (Reps.one (show Kd.M (Kd.int .i64) _ _ _ 8 [.int .i64 8] from rfl) (Reps.none _ _))))));intro v118 w9 ho10 hb hg_ hnew_;clear hg_ hnew_;(first | rw [← Ny117.out] at ho10 | (simp only [Int.reduceToNat] at ho10;rw [← Ny117.out] at ho10));have n_:=z (Kd.R_lower ho10 (keep_size (w:=w) (g:=g) (row:=none) zdb_))<|z (IsS66.below (show IsS66 w0 ((w5.setCell ⟨gb116,0,none⟩ (.int .i64 a1)).setCell ⟨gb116,1,none⟩ (.slice none 0 0)) g s0_0 s0_1 s0_2 from zda_) hb)<|z (blk_below (g:=gb115) (o := .cells #[.int .i64 0,.slice none 0 0] 26 (0,0)) (by refine zb ?_;refine blk_far ?_ NB115_116.out _;refine zb ?_;refine blk_far ?_ NB115_116.out _;refine zb ?_;exact BK115.out) hb)<|z (blk_below (g:=gb116) (o := .cells #[.int .i64 a1,.slice none 0 0] 26 (0,0)) (by refine zb ?_;refine blk_put (cs:=#[.int .i64 a1,.slice none 0 0]) ?_ 1 _ rfl;refine zb ?_;refine blk_put (cs:=#[.int .i64 0,.slice none 0 0]) ?_ 0 _ rfl;refine zb ?_;exact BK116.out) hb)<|z (KeepBut.trans zdb_ (KeepBut.of_below hb g none) (.inl rfl))<|z1 (below_step zde_ hb);clear HI0 BK115 BK116 HK HB;obtain ⟨HO119,HI0,BK115,BK116,HK,HB⟩:=n_;clear hb ho10;obtain ⟨Ao11,co11,eo11⟩:=Kd.R_slice HO119.out;subst eo11)|((with_reducible refine gate_callee (f:=61) rfl ?_);refine goesL_ (some 14) rfl rfl Tryd.func61 (by kernel_rfl) rfl #[.pointer (some ⟨g,0,none⟩),.slice Ao11 y117.length co11] rfl zd_ ?_;(with_reducible refine (spec_l1Cur_among.calls g s0_0 s0_1 s0_2 _ _ y117 t120 t121 t122 w0 _ ?side1 ?side2 ?side3 ?side4 ?side5 A3.out).mono ?_);(case side1=>exact zda_);(case side2=>exact zde_);(case side3=>repeat (first | exact (Kd.R_reads' HO119.out).2.2 | (with_reducible refine cA ?_ _)|(with_reducible refine cN ?_ _)|(with_reducible refine cD ?_)));(case side4=>exact (Kd.R_reads' HO119.out).2.1);(case side5=>exact far_slice (IsS66.own_ne HI0.out HO119.out (by decide)));rintro e w12 ⟨rfl,hi,hb,hk⟩;refine ⟨_,rfl,?_⟩;have n_:=z (KeepBut.blk hk (zb BK115.out) NB115_0.out (by simp))<|z (KeepBut.blk hk (zb BK116.out) NB116_0.out (by simp))<|z (Kd.R_mono (Kd.R_keep (IsS66.apart (show IsS66 w0 _ g s0_0 s0_1 s0_2 from zda_) (zr HO119.out) (by decide)) hk (fun _ h=>h.2)) (fun _ h=>h.1))<|z (KeepBut.trans zdb_ hk (.inl rfl))<|z (hb)<|z1 (hi);clear BK115 BK116 HO119 HK HB HI0;obtain ⟨BK115,BK116,HO119,HK,HB,HI0⟩:=n_;clear hb hk hi))
 go_loopg [7] k (fun kq v7 w' => ∃ (x7_1:Int) (x1001_1:Int) (x1002_1:Int) (x117001_1:List Int) (u117001:Value),v7 = .int .i64 x7_1∧Aside0 (spec_l1Cur_tableOf.l0 kq a1 t120 x7_1 s0_0 x1001_1 x1002_1 a1 x117001_1=some (r1,r2,r3,r4))∧Aside0 (kq≤k)∧Aside0 (Kd.R (Kd.int .i64) 3 w' w.heap.size (fun _=>True) u117001 x117001_1)∧Aside0 (w'.heap[gb115]?=some (.cells #[.int .i64 0,(.slice none 0 0)] 26 (0,0)))∧Aside0 (w'.heap[gb116]?=some (.cells #[.int .i64 a1,u117001] 26 (0,0)))∧Aside0 (IsS66 w0 w' g s0_0 x1001_1 x1002_1)∧Aside0 (KeepBut w w' g none)∧Aside0 (Below w0.heap.size w0 w'))
 case atStart=>exact ⟨(0),(t121),(t122),(([]:List Int)),(.slice none 0 0),ze_,H',⟨Nat.le_refl _⟩,⟨zdi_⟩,⟨zb BK115.out⟩,⟨zb BK116.out⟩,⟨zda_⟩,⟨zdb_⟩,⟨zde_⟩⟩
 case round =>
  clear H';(try clear hcz8_0);(try clear hcz8_1);(try clear hfz8_0);(try clear hfz8_1);obtain ⟨x7_1,x1001_1,x1002_1,x117001_1,u117001,rfl,HA,HK1,HO_117001,BK115,BK116,HI0,HK,HB⟩:=hrel
  cases gk with
  | zero=>exact absurd HA.out (by simp [spec_l1Cur_tableOf.l0])
  | succ k1 =>
   have H:=HA.out;clear HA
   simp only [spec_l1Cur_tableOf.l0] at H
   obtain ⟨ji13,hji13⟩:∃ j_:Int,(IntKind.u64.wrap (a1))=j_:=⟨_,rfl⟩;replace H:(if 0≤(ji13) then (if x7_1<(shl .i64 1 (ji13)) then (if t120=8 then (spec_l1Cur_tableOf.l1 k1 a1 t120 x7_1 0 0 s0_0 x1001_1 x1002_1 a1 x117001_1) else ((spec_l1Cur_one.f s0_0 x1001_1 x1002_1 t120).bind fun bt127=>(if bt127.1=true then (if x117001_1.length<17592186044416 then (spec_l1Cur_tableOf.l0 k1 a1 t120 (wrap64 (x7_1+1)) s0_0 bt127.2.1 bt127.2.2 a1 (x117001_1 ++ [1])) else (none)) else (if x117001_1.length<17592186044416 then (spec_l1Cur_tableOf.l0 k1 a1 t120 (wrap64 (x7_1+1)) s0_0 bt127.2.1 bt127.2.2 a1 (x117001_1 ++ [0])) else (none))))) else (some (a1,x117001_1,x1001_1,x1002_1))) else (none))=some (r1,r2,r3,r4):=by first | (rw [hji13] at H;exact H)|(simp only [hji13] at H ⊢;exact H)
   by_cases c14:0≤(ji13)
   ·rw [if_pos c14] at H
    have c14b0:=eq_true c14;have c14b1:=decide_eq_true c14;clear c14;obtain ⟨ji15,hji15⟩:∃ j_:Int,(shl .i64 1 (ji13))=j_:=⟨_,rfl⟩;replace H:(if x7_1<(ji15) then (if t120=8 then (spec_l1Cur_tableOf.l1 k1 a1 t120 x7_1 0 0 s0_0 x1001_1 x1002_1 a1 x117001_1) else ((spec_l1Cur_one.f s0_0 x1001_1 x1002_1 t120).bind fun bt127=>(if bt127.1=true then (if x117001_1.length<17592186044416 then (spec_l1Cur_tableOf.l0 k1 a1 t120 (wrap64 (x7_1+1)) s0_0 bt127.2.1 bt127.2.2 a1 (x117001_1 ++ [1])) else (none)) else (if x117001_1.length<17592186044416 then (spec_l1Cur_tableOf.l0 k1 a1 t120 (wrap64 (x7_1+1)) s0_0 bt127.2.1 bt127.2.2 a1 (x117001_1 ++ [0])) else (none))))) else (some (a1,x117001_1,x1001_1,x1002_1)))=some (r1,r2,r3,r4):=by first | (rw [hji15] at H;exact H)|(simp only [hji15] at H ⊢;exact H)
    have hji15_:(IntKind.i64.wrap (1 * 2 ^ min (ji13).toNat 64))=ji15:=hji15;have hji15z:(ji13)≤64→(IntKind.i64.wrap (1 * 2 ^ (ji13).toNat))=ji15:=shl_small hji15;have hji15u:(IntKind.i64.wrap (2 ^ min (ji13).toNat 64))=ji15:=by have h_:=hji15_;rw [Int.one_mul] at h_;exact h_
    have hji15v:(ji13)≤64→(IntKind.i64.wrap (2 ^ (ji13).toNat))=ji15:=fun hle_=>by have h_:=hji15z hle_;rw [Int.one_mul] at h_;exact h_
    have hji15y:(wrap64 (1 * 2 ^ min (ji13).toNat 64))=ji15:=(i64_w _).symm.trans hji15_;have hji15x:(ji13)≤64→(wrap64 (1 * 2 ^ (ji13).toNat))=ji15:=fun h_=>(i64_w _).symm.trans (hji15z h_)
    by_cases c16:x7_1<(ji15)
    ·rw [if_pos c16] at H
     have c16b0:=decide_eq_true c16;clear c16
     by_cases c17:t120=8
     ·rw [if_pos c17] at H
      have c17b0:=beq_iff_eq.mpr c17;have c17b1:=bne_eq_false_iff_eq.mpr c17;clear c17;have H':=aM H;clear H
      go_wp2
      go_loopg [8,9] k1 (fun kq v8 v9 w' => ∃ (x8_2:Int) (x9_2:Int),v8 = .int .i64 x8_2∧v9 = .int .i64 x9_2∧Aside0 (spec_l1Cur_tableOf.l1 kq a1 t120 x7_1 x8_2 x9_2 s0_0 x1001_1 x1002_1 a1 x117001_1=some (r1,r2,r3,r4))∧Aside0 (kq≤k1)∧Aside0 (Kd.R (Kd.int .i64) 3 w' w.heap.size (fun _=>True) u117001 x117001_1)∧Aside0 (w'.heap[gb115]?=some (.cells #[.int .i64 0,(.slice none 0 0)] 26 (0,0)))∧Aside0 (w'.heap[gb116]?=some (.cells #[.int .i64 a1,u117001] 26 (0,0)))∧Aside0 (IsS66 w0 w' g s0_0 x1001_1 x1002_1)∧Aside0 (KeepBut w w' g none)∧Aside0 (Below w0.heap.size w0 w'))
      case atStart=>exact ⟨(0),(0),ze_,ze_,H',⟨Nat.le_refl _⟩,⟨zr HO_117001.out⟩,⟨zb BK115.out⟩,⟨zb BK116.out⟩,⟨zda_⟩,⟨zdb_⟩,⟨zde_⟩⟩
      case round =>
       clear H';(try clear c14b0);(try clear c14b1);(try clear c16b0);(try clear c17b0);(try clear c17b1);obtain ⟨x8_2,x9_2,rfl,rfl,HA,HK2,HO_117001,BK115,BK116,HI0,HK,HB⟩:=hrel
       cases gk with
       | zero=>exact absurd HA.out (by simp [spec_l1Cur_tableOf.l1])
       | succ k2 =>
        have H:=HA.out;clear HA
        simp only [spec_l1Cur_tableOf.l1] at H
        by_cases c18:x9_2<a1
        ·rw [if_pos c18] at H
         have c18b0:=decide_eq_true c18;clear c18;replace H:=oB.mp H;obtain ⟨t123,A190,H⟩:=H;replace H:(spec_l1Cur_tableOf.l1 k2 a1 t120 x7_1 (wrap64 (x8_2+t123)) (wrap64 (x9_2+1)) s0_0 x1001_1 x1002_1 a1 x117001_1)=some (r1,r2,r3,r4):=H;have A19:=aM A190;clear A190;have H':=aM H;clear H
         go_wp2_with (first | ((with_reducible refine gate_callee (f:=92) rfl ?_);refine goesL_ (some 33) rfl rfl Tryd.func92 (by kernel_rfl) rfl #[.int .i64 x7_1,.int .i64 x9_2] rfl zd_ ?_;(with_reducible refine (spec_ttBit.calls x7_1 x9_2 t123 _ A19.out).mono ?_);rintro e w' ⟨rfl,⟨nd,rfl⟩⟩;refine ⟨_,rfl,?_⟩))
         go_roundg k2
         case measure=>have:=HK1.out;have:=HK2.out;omega
         case rel=>exact ⟨(wrap64 (x8_2+t123)),(wrap64 (x9_2+1)),ze_,ze_,H',⟨zfb_⟩,⟨zr HO_117001.out⟩,⟨zb BK115.out⟩,⟨zb BK116.out⟩,⟨zda_⟩,⟨zdb_⟩,⟨zde_⟩⟩
        ·rw [if_neg c18] at H
         have c18b0:=decide_eq_false c18;clear c18
         by_cases c20:x117001_1.length<17592186044416
         ·rw [if_pos c20] at H
          have LMc20:=aM c20;clear c20;obtain ⟨y124,hy124⟩:∃ y_:List Int,y_=(x117001_1 ++ [Int.tmod (wrap64 (Int.tdiv x8_2 2)) 2]):=⟨_,rfl⟩;replace H:(spec_l1Cur_tableOf.l0 k2 a1 t120 (wrap64 (x7_1+1)) s0_0 x1001_1 x1002_1 a1 y124)=some (r1,r2,r3,r4):=q3y_ hy124 H
          have Ny124:=aM hy124;clear hy124;have H':=aM H;clear H;have hnb21:=NB116_115.out;have hnc21:=NB115_116.out;have hnb22:=NB116_0.out;have hnc22:=NB0_116.out;obtain ⟨hcz23_0,hcz23_1,hfz23_0,hfz23_1⟩:=zk2 BK116.out
          go_wp2_with (first | ((with_reducible refine gate_builtin (b := .append) (xs:=#[.tmp 43,.tmp 45]) rfl ?_);at_builtin;refine Kd.R_append (Kd.int .i64) w.heap.size rfl (.tmp 43) (.tmp 45) 24 3 (.int .i64 0) 8 rfl Tryd.underlying24 info3 rfl (by decide) (by omega) u117001 x117001_1 (Int.tmod (wrap64 (Int.tdiv x8_2 2)) 2) [.int .i64 (Int.tmod (wrap64 (Int.tdiv x8_2 2)) 2)] (fun _=>True) (fun _=>False) rfl rfl ?aP (fun _ hk=>hk.elim) ?aF ?aO (Below.refl _ _) ?aS ?aL ?_;(case aP=>exact rfl);(case aF=>exact zdf_);(case aO=>exact (zr HO_117001.out));(case aS=>exact zbag_);(case aL=>have:=LMc20.out;omega);intro v125 w24 ho hb hg hat;rw [← Ny124.out] at ho;have n_:=z (blk_grown (g:=gb115) (o := .cells #[.int .i64 0,.slice none 0 0] 26 (0,0)) (zb BK115.out) hg (Kd.R_ne HO_117001.out BK115.out (by decide)))<|z (blk_grown (g:=gb116) (o := .cells #[.int .i64 a1,u117001] 26 (0,0)) (zb BK116.out) hg (Kd.R_ne HO_117001.out BK116.out (by decide)))<|z (IsS66.grown zda_ hg (IsS66.own_ne HI0.out HO_117001.out (by decide)))<|z (below_weaken zde_ HL.out hb)<|z (KeepBut.trans zdb_ (KeepBut.of_grown hg g) (Kd.R_base2 HO_117001.out))<|z1 (ho);clear BK115 BK116 HI0 HB HK HO_117001;obtain ⟨BK115,BK116,HI0,HB,HK,HO126⟩:=n_;clear ho hb hg hat;obtain ⟨Ao25,co25,eo25⟩:=Kd.R_slice HO126.out;subst eo25;obtain ⟨hcz26_0,hcz26_1,hfz26_0,hfz26_1⟩:=zk2 BK116.out))
          go_roundg k2
          case measure=>have:=HK1.out;have:=HK2.out;omega
          case rel=>exact ⟨(wrap64 (x7_1+1)),(x1001_1),(x1002_1),(y124),(.slice Ao25 y124.length co25),ze_,H',⟨zfb_⟩,⟨by refine zr ?_;exact Kd.R_mono (Kd.R_far (p:=⟨gb116,1,none⟩) (Kd.R_types HO126.out BK116.out (by decide)) (fun _ hk=>hk.2) (.slice Ao25 y124.length co25)) (fun _ hk=>trivial)⟩,⟨by refine zb ?_;refine blk_far ?_ NB115_116.out _;refine zb ?_;exact BK115.out⟩,⟨zbah_⟩,⟨zda_⟩,⟨zdb_⟩,⟨zde_⟩⟩
         ·rw [if_neg c20] at H
          exact q3n_ H
     ·rw [if_neg c17] at H
      have c17b0:=beq_eq_false_iff_ne.mpr c17;have c17b1:=bne_iff_ne.mpr c17;replace H:=oB.mp H;obtain ⟨⟨t127,t128,t129⟩,A270,H⟩:=H;replace H:(if t127=true then (if x117001_1.length<17592186044416 then (spec_l1Cur_tableOf.l0 k1 a1 t120 (wrap64 (x7_1+1)) s0_0 t128 t129 a1 (x117001_1 ++ [1])) else (none)) else (if x117001_1.length<17592186044416 then (spec_l1Cur_tableOf.l0 k1 a1 t120 (wrap64 (x7_1+1)) s0_0 t128 t129 a1 (x117001_1 ++ [0])) else (none)))=some (r1,r2,r3,r4):=H;have A27:=aM A270;clear A270
      by_cases c28:t127=true
      ·subst c28
       have H1:(if x117001_1.length<17592186044416 then (spec_l1Cur_tableOf.l0 k1 a1 t120 (wrap64 (x7_1+1)) s0_0 t128 t129 a1 (x117001_1 ++ [1])) else (none))=some (r1,r2,r3,r4):=by rw [if_pos rfl] at H;exact H
       clear H;have H:=H1;clear H1
       by_cases c29:x117001_1.length<17592186044416
       ·rw [if_pos c29] at H
        have LMc29:=aM c29;clear c29;obtain ⟨y130,hy130⟩:∃ y_:List Int,y_=(x117001_1 ++ [1]):=⟨_,rfl⟩;replace H:(spec_l1Cur_tableOf.l0 k1 a1 t120 (wrap64 (x7_1+1)) s0_0 t128 t129 a1 y130)=some (r1,r2,r3,r4):=q3y_ hy130 H
        have Ny130:=aM hy130;clear hy130;have H':=aM H;clear H
        go_wp2_with (first | ((with_reducible refine gate_callee (f:=60) rfl ?_);refine goesL_ (some 41) rfl rfl Tryd.func60 (by kernel_rfl) rfl #[.pointer (some ⟨g,0,none⟩),.int .i64 t120] rfl zd_ ?_;(with_reducible refine (spec_l1Cur_one.calls g s0_0 x1001_1 x1002_1 t120 true t128 t129 w0 _ ?side1 ?side2 A27.out).mono ?_);(case side1=>exact zda_);(case side2=>exact zde_);rintro e w30 ⟨rfl,hi,hb,hk⟩;refine ⟨_,rfl,?_⟩;have n_:=z (Kd.R_mono (Kd.R_keep (IsS66.apart (show IsS66 w0 _ g s0_0 x1001_1 x1002_1 from zda_) (zr HO_117001.out) (by decide)) hk (fun _ h=>h.2)) (fun _ h=>h.1))<|z (KeepBut.blk hk (zb BK115.out) NB115_0.out (by simp))<|z (KeepBut.blk hk (zb BK116.out) NB116_0.out (by simp))<|z (KeepBut.trans zdb_ hk (.inl rfl))<|z (hb)<|z1 (hi);clear HO_117001 BK115 BK116 HK HB HI0;obtain ⟨HO_117001,BK115,BK116,HK,HB,HI0⟩:=n_;clear hb hk hi;have hnb31:=NB116_115.out;have hnc31:=NB115_116.out;have hnb32:=NB116_0.out;have hnc32:=NB0_116.out;obtain ⟨hcz33_0,hcz33_1,hfz33_0,hfz33_1⟩:=zk2 BK116.out)|((with_reducible refine gate_builtin (b := .append) (xs:=#[.tmp 43,.tmp 45]) rfl ?_);at_builtin;refine Kd.R_append (Kd.int .i64) w.heap.size rfl (.tmp 43) (.tmp 45) 24 3 (.int .i64 0) 8 rfl Tryd.underlying24 info3 rfl (by decide) (by omega) u117001 x117001_1 1 [.int .i64 1] (fun _=>True) (fun _=>False) rfl rfl ?aP (fun _ hk=>hk.elim) ?aF ?aO (Below.refl _ _) ?aS ?aL ?_;(case aP=>exact rfl);(case aF=>exact zdf_);(case aO=>exact (zr HO_117001.out));(case aS=>exact zbag_);(case aL=>have:=LMc29.out;omega);intro v131 w34 ho hb hg hat;rw [← Ny130.out] at ho;have n_:=z (blk_grown (g:=gb115) (o := .cells #[.int .i64 0,.slice none 0 0] 26 (0,0)) (zb BK115.out) hg (Kd.R_ne HO_117001.out BK115.out (by decide)))<|z (blk_grown (g:=gb116) (o := .cells #[.int .i64 a1,u117001] 26 (0,0)) (zb BK116.out) hg (Kd.R_ne HO_117001.out BK116.out (by decide)))<|z (IsS66.grown zda_ hg (IsS66.own_ne HI0.out HO_117001.out (by decide)))<|z (below_weaken zde_ HL.out hb)<|z (KeepBut.trans zdb_ (KeepBut.of_grown hg g) (Kd.R_base2 HO_117001.out))<|z1 (ho);clear BK115 BK116 HI0 HB HK HO_117001;obtain ⟨BK115,BK116,HI0,HB,HK,HO132⟩:=n_;clear ho hb hg hat;obtain ⟨Ao35,co35,eo35⟩:=Kd.R_slice HO132.out;subst eo35;obtain ⟨hcz36_0,hcz36_1,hfz36_0,hfz36_1⟩:=zk2 BK116.out))
        go_roundg k1
        case measure=>have:=HK1.out;omega
        case rel=>exact ⟨(wrap64 (x7_1+1)),(t128),(t129),(y130),(.slice Ao35 y130.length co35),ze_,H',⟨zbd_⟩,⟨by refine zr ?_;exact Kd.R_mono (Kd.R_far (p:=⟨gb116,1,none⟩) (Kd.R_types HO132.out BK116.out (by decide)) (fun _ hk=>hk.2) (.slice Ao35 y130.length co35)) (fun _ hk=>trivial)⟩,⟨by refine zb ?_;refine blk_far ?_ NB115_116.out _;refine zb ?_;exact BK115.out⟩,⟨zbah_⟩,⟨zda_⟩,⟨zdb_⟩,⟨zde_⟩⟩
       ·rw [if_neg c29] at H
        exact q3n_ H
      ·replace c28:=Bool.eq_false_iff.mpr c28
       subst c28;have H1:(if x117001_1.length<17592186044416 then (spec_l1Cur_tableOf.l0 k1 a1 t120 (wrap64 (x7_1+1)) s0_0 t128 t129 a1 (x117001_1 ++ [0])) else (none))=some (r1,r2,r3,r4):=by rw [if_neg (show ¬ (false=true) by decide)] at H;exact H
       clear H;have H:=H1;clear H1
       by_cases c37:x117001_1.length<17592186044416
       ·rw [if_pos c37] at H
        have LMc37:=aM c37;clear c37;obtain ⟨y133,hy133⟩:∃ y_:List Int,y_=(x117001_1 ++ [0]):=⟨_,rfl⟩;replace H:(spec_l1Cur_tableOf.l0 k1 a1 t120 (wrap64 (x7_1+1)) s0_0 t128 t129 a1 y133)=some (r1,r2,r3,r4):=q3y_ hy133 H
        have Ny133:=aM hy133;clear hy133;have H':=aM H;clear H
        go_wp2_with (first | ((with_reducible refine gate_callee (f:=60) rfl ?_);refine goesL_ (some 41) rfl rfl Tryd.func60 (by kernel_rfl) rfl #[.pointer (some ⟨g,0,none⟩),.int .i64 t120] rfl zd_ ?_;(with_reducible refine (spec_l1Cur_one.calls g s0_0 x1001_1 x1002_1 t120 false t128 t129 w0 _ ?side1 ?side2 A27.out).mono ?_);(case side1=>exact zda_);(case side2=>exact zde_);rintro e w38 ⟨rfl,hi,hb,hk⟩;refine ⟨_,rfl,?_⟩;have n_:=z (Kd.R_mono (Kd.R_keep (IsS66.apart (show IsS66 w0 _ g s0_0 x1001_1 x1002_1 from zda_) (zr HO_117001.out) (by decide)) hk (fun _ h=>h.2)) (fun _ h=>h.1))<|z (KeepBut.blk hk (zb BK115.out) NB115_0.out (by simp))<|z (KeepBut.blk hk (zb BK116.out) NB116_0.out (by simp))<|z (KeepBut.trans zdb_ hk (.inl rfl))<|z (hb)<|z1 (hi);clear HO_117001 BK115 BK116 HK HB HI0;obtain ⟨HO_117001,BK115,BK116,HK,HB,HI0⟩:=n_;clear hb hk hi;have hnb39:=NB116_115.out;have hnc39:=NB115_116.out;have hnb40:=NB116_0.out;have hnc40:=NB0_116.out;obtain ⟨hcz41_0,hcz41_1,hfz41_0,hfz41_1⟩:=zk2 BK116.out)|((with_reducible refine gate_builtin (b := .append) (xs:=#[.tmp 43,.tmp 45]) rfl ?_);at_builtin;refine Kd.R_append (Kd.int .i64) w.heap.size rfl (.tmp 43) (.tmp 45) 24 3 (.int .i64 0) 8 rfl Tryd.underlying24 info3 rfl (by decide) (by omega) u117001 x117001_1 0 [.int .i64 0] (fun _=>True) (fun _=>False) rfl rfl ?aP (fun _ hk=>hk.elim) ?aF ?aO (Below.refl _ _) ?aS ?aL ?_;(case aP=>exact rfl);(case aF=>exact zdf_);(case aO=>exact (zr HO_117001.out));(case aS=>exact zbag_);(case aL=>have:=LMc37.out;omega);intro v134 w42 ho hb hg hat;rw [← Ny133.out] at ho;have n_:=z (blk_grown (g:=gb115) (o := .cells #[.int .i64 0,.slice none 0 0] 26 (0,0)) (zb BK115.out) hg (Kd.R_ne HO_117001.out BK115.out (by decide)))<|z (blk_grown (g:=gb116) (o := .cells #[.int .i64 a1,u117001] 26 (0,0)) (zb BK116.out) hg (Kd.R_ne HO_117001.out BK116.out (by decide)))<|z (IsS66.grown zda_ hg (IsS66.own_ne HI0.out HO_117001.out (by decide)))<|z (below_weaken zde_ HL.out hb)<|z (KeepBut.trans zdb_ (KeepBut.of_grown hg g) (Kd.R_base2 HO_117001.out))<|z1 (ho);clear BK115 BK116 HI0 HB HK HO_117001;obtain ⟨BK115,BK116,HI0,HB,HK,HO135⟩:=n_;clear ho hb hg hat;obtain ⟨Ao43,co43,eo43⟩:=Kd.R_slice HO135.out;subst eo43;obtain ⟨hcz44_0,hcz44_1,hfz44_0,hfz44_1⟩:=zk2 BK116.out))
        go_roundg k1
        case measure=>have:=HK1.out;omega
        case rel=>exact ⟨(wrap64 (x7_1+1)),(t128),(t129),(y133),(.slice Ao43 y133.length co43),ze_,H',⟨zbd_⟩,⟨by refine zr ?_;exact Kd.R_mono (Kd.R_far (p:=⟨gb116,1,none⟩) (Kd.R_types HO135.out BK116.out (by decide)) (fun _ hk=>hk.2) (.slice Ao43 y133.length co43)) (fun _ hk=>trivial)⟩,⟨by refine zb ?_;refine blk_far ?_ NB115_116.out _;refine zb ?_;exact BK115.out⟩,⟨zbah_⟩,⟨zda_⟩,⟨zdb_⟩,⟨zde_⟩⟩
       ·rw [if_neg c37] at H
        exact q3n_ H
    ·rw [if_neg c16] at H
     have c16b0:=decide_eq_false c16;clear c16
     simp only [Option.some.injEq,Prod.mk.injEq] at H
     obtain ⟨rfl,rfl,rfl,rfl⟩:=H;have hnb45:=NB116_115.out;have hnc45:=NB115_116.out;have hnb46:=NB116_0.out;have hnc46:=NB0_116.out;obtain ⟨hcz47_0,hcz47_1,hfz47_0,hfz47_1⟩:=zk2 BK116.out;have hnb48:=NB115_0.out;have hnc48:=NB0_115.out;obtain ⟨hcz49_0,hcz49_1,hfz49_0,hfz49_1⟩:=zk2 BK115.out;obtain ⟨Ao50,co50,eo50⟩:=Kd.R_slice HO_117001.out;subst eo50
     go_wp2
     refine bodyPost_ret (results_cell_row rfl _ _ gb115 26 #[.int .i64 a1,.slice Ao50 x117001_1.length co50] (0,0) _ rfl (by refine zb ?_;refine blk_put (cs:=#[.int .i64 a1,.slice none 0 0]) ?_ 1 _ rfl;refine zb ?_;refine blk_put (cs:=#[.int .i64 0,.slice none 0 0]) ?_ 0 _ rfl;refine zb ?_;exact BK115.out) Tryd.underlying26 rfl (by kernel_rfl)) rfl ?_
     exact ⟨_,by first | rfl | (simp [errW_none,errW_some] <;> rfl)|(simp only [← hji13,← hji15];first | rfl | (simp [errW_none,errW_some] <;> rfl))|(simp [*,errW_none,errW_some] <;> rfl),by refine zr ?_;exact Kd.R_mono (Kd.R_far (p:=⟨gb115,1,none⟩) (Kd.R_far (p:=⟨gb115,0,none⟩) (Kd.R_types HO_117001.out BK115.out (by decide)) (fun _ hk=>hk.2) (.int .i64 a1)) (fun _ hk=>hk.2) (.slice Ao50 x117001_1.length co50)) (fun _ hk=>trivial),zda_,zde_,zdb_⟩
   ·rw [if_neg c14] at H
    exact q3n_ H
def spec_l1Cur_table.f (k:Nat) (s0_0:List Int) (s0_1:Int) (s0_2:Int):Option (Int×List Int×Int×Int):=(spec_l1Cur_among.f s0_0 s0_1 s0_2 (([0,1,2,2,3,3,4]:List Int))).bind fun bt140=>((spec_l1Cur_tableOf.f k s0_0 bt140.2.1 bt140.2.2 bt140.1).bind fun bt143=>(some (bt143.1,bt143.2.1,bt143.2.2.1,bt143.2.2.2)))
theorem spec_l1Cur_table.calls (k:Nat) (g:Nat) (s0_0:List Int) (s0_1:Int) (s0_2:Int) (r1:Int) (r2:List Int) (r3:Int) (r4:Int) (w0 w:World) (hI:IsS66 w0 w g s0_0 s0_1 s0_2) (hB:Below w0.heap.size w0 w) (h:spec_l1Cur_table.f k s0_0 s0_1 s0_2=some (r1,r2,r3,r4)) :
  Calls Tryd.prog 78 #[.pointer (some ⟨g,0,none⟩)] w fun e w' => ∃ v1_:Value,e = .returned (.agg #[.int .i64 r1,v1_])∧Kd.R (Kd.int .i64) 3 w' w.heap.size (fun _=>True) v1_ r2∧IsS66 w0 w' g s0_0 r3 r4∧Below w0.heap.size w0 w'∧KeepBut w w' g none:=by
 have hu26:=Tryd.underlying26
 have HI0:=aM hI
 have HK:=aM (KeepBut.refl w g none)
 have HL:=aM hB.size
 clear hI
 have HW0:=aM hB.size
 have HB:=aM hB
 clear hB
 have H:((spec_l1Cur_among.f s0_0 s0_1 s0_2 (([0,1,2,2,3,3,4]:List Int))).bind fun bt140=>((spec_l1Cur_tableOf.f k s0_0 bt140.2.1 bt140.2.2 bt140.1).bind fun bt143=>(some (bt143.1,bt143.2.1,bt143.2.2.1,bt143.2.2.2))))=some (r1,r2,r3,r4):=h
 clear h
 obtain ⟨y137,hy137⟩:∃ y_:List Int,y_=(([0,1,2,2,3,3,4]:List Int)):=⟨_,rfl⟩
 replace H:((spec_l1Cur_among.f s0_0 s0_1 s0_2 y137).bind fun bt140=>((spec_l1Cur_tableOf.f k s0_0 bt140.2.1 bt140.2.2 bt140.1).bind fun bt143=>(some (bt143.1,bt143.2.1,bt143.2.2.1,bt143.2.2.2))))=some (r1,r2,r3,r4):=q3y_ hy137 H
 have Ny137:=aM hy137
 clear hy137
 replace H:=oB.mp H
 obtain ⟨⟨t140,t141,t142⟩,A20,H⟩:=H
 replace H:((spec_l1Cur_tableOf.f k s0_0 t141 t142 t140).bind fun bt143=>(some (bt143.1,bt143.2.1,bt143.2.2.1,bt143.2.2.2)))=some (r1,r2,r3,r4):=H
 have A2:=aM A20
 clear A20
 replace H:=oB.mp H
 obtain ⟨⟨t143,t144,t147,t148⟩,A30,H⟩:=H
 replace H:(some (t143,t144,t147,t148))=some (r1,r2,r3,r4):=H
 have A3:=aM A30
 clear A30
 simp only [Option.some.injEq,Prod.mk.injEq] at H
 obtain ⟨rfl,rfl,rfl,rfl⟩:=H
 go_enter Tryd.func78,Tryd.ntmps78
 go_wp2_with (first | ((with_reducible refine gate_dst (N:=2) rfl ?_);refine box_event ?hg (N:=2) ?hd (cs:=#[.int .i64 0,.slice none 0 0]) (t:=26) ?hr ?_;(case hd=>rfl);(case hg=>rfl);(case hr=>exact zb_);intro gb136 hg w4 hbox hb;have n_:=z (IsS66.below zh_ hb)<|z (KeepBut.trans zi_ (KeepBut.of_below hb g none) (.inl rfl))<|z (below_step zbj_ hb)<|z (hbox)<|z ((by rw [hg];exact (keep_size (w:=w) (g:=g) (row:=none) zi_):w.heap.size≤gb136))<|z ((Nat.le_trans HW0.out (by rw [hg];exact (keep_size (w:=w) (g:=g) (row:=none) zi_):w.heap.size≤gb136):w0.heap.size≤gb136))<|z ((by rw [hg];exact Nat.ne_of_lt (IsS66.lt (show IsS66 w0 _ g s0_0 s0_1 s0_2 from zh_)):g≠gb136))<|z1 ((by rw [hg];exact Nat.ne_of_gt (IsS66.lt (show IsS66 w0 _ g s0_0 s0_1 s0_2 from zh_)):gb136≠g));clear HI0 HK HB;obtain ⟨HI0,HK,HB,BK136,GW136,GE136,NB0_136,NB136_0⟩:=n_;clear hb hbox hg)|((with_reducible refine gate_dst (N:=5) rfl ?_);refine Kd.R_lit (Kd.int .i64) _ 3 ?hg (N:=5) ?hd (xs:=([0,1,2,2,3,3,4]:List Int)) (inner:=[.int .i64 0,.int .i64 1,.int .i64 2,.int .i64 2,.int .i64 3,.int .i64 3,.int .i64 4]) (ok:=fun _=>True) (okp:=fun _=>True) ?hr ?hp (fun _ hk=>hk) trivial (Below.refl _ _) (Nat.le_refl _) (by simp) ?_;(case hd=>rfl);(case hg=>rfl);(case hr=>exact zb_);(case hp=>exact (Reps.one (show Kd.M (Kd.int .i64) _ _ _ 0 [.int .i64 0] from rfl) (Reps.one (show Kd.M (Kd.int .i64) _ _ _ 1 [.int .i64 1] from rfl) (Reps.one (show Kd.M (Kd.int .i64) _ _ _ 2 [.int .i64 2] from rfl) (Reps.one (show Kd.M (Kd.int .i64) _ _ _ 2 [.int .i64 2] from rfl) (Reps.one (show Kd.M (Kd.int .i64) _ _ _ 3 [.int .i64 3] from rfl) (Reps.one (show Kd.M (Kd.int .i64) _ _ _ 3 [.int .i64 3] from rfl) (Reps.one (show Kd.M (Kd.int .i64) _ _ _ 4 [.int .i64 4] from rfl) (Reps.none _ _)))))))));intro v138 w5 ho6 hb hg_ hnew_;clear hg_ hnew_;(first | rw [← Ny137.out] at ho6 | (simp only [Int.reduceToNat] at ho6;rw [← Ny137.out] at ho6));have n_:=z (Kd.R_lower ho6 (keep_size (w:=w) (g:=g) (row:=none) zgf_))<|z (IsS66.below zgg_ hb)<|z (blk_below (zb BK136.out) hb)<|z (KeepBut.trans zgf_ (KeepBut.of_below hb g none) (.inl rfl))<|z1 (below_step zii_ hb);clear HI0 BK136 HK HB;obtain ⟨HO139,HI0,BK136,HK,HB⟩:=n_;clear hb ho6;obtain ⟨Ao7,co7,eo7⟩:=Kd.R_slice HO139.out;subst eo7)|((with_reducible refine gate_callee (f:=61) rfl ?_);refine goesL_ (some 6) rfl rfl Tryd.func61 (by kernel_rfl) rfl #[.pointer (some ⟨g,0,none⟩),.slice Ao7 y137.length co7] rfl zd_ ?_;(with_reducible refine (spec_l1Cur_among.calls g s0_0 s0_1 s0_2 _ _ y137 t140 t141 t142 w0 _ ?side1 ?side2 ?side3 ?side4 ?side5 A2.out).mono ?_);(case side1=>exact zgg_);(case side2=>exact zii_);(case side3=>repeat (first | exact (Kd.R_reads' HO139.out).2.2 | (with_reducible refine cA ?_ _)|(with_reducible refine cN ?_ _)|(with_reducible refine cD ?_)));(case side4=>exact (Kd.R_reads' HO139.out).2.1);(case side5=>exact far_slice (IsS66.own_ne HI0.out HO139.out (by decide)));rintro e w8 ⟨rfl,hi,hb,hk⟩;refine ⟨_,rfl,?_⟩;have n_:=z (KeepBut.blk hk (zb BK136.out) NB136_0.out (by simp))<|z (Kd.R_mono (Kd.R_keep (IsS66.apart (show IsS66 w0 _ g s0_0 s0_1 s0_2 from zgg_) (zr HO139.out) (by decide)) hk (fun _ h=>h.2)) (fun _ h=>h.1))<|z (KeepBut.trans zgf_ hk (.inl rfl))<|z (hb)<|z1 (hi);clear BK136 HO139 HK HB HI0;obtain ⟨BK136,HO139,HK,HB,HI0⟩:=n_;clear hb hk hi)|((with_reducible refine gate_callee (f:=73) rfl ?_);refine goesL_ (some 7) rfl rfl Tryd.func73 (by kernel_rfl) rfl #[.pointer (some ⟨g,0,none⟩),.int .i64 t140] rfl zd_ ?_;(with_reducible refine (spec_l1Cur_tableOf.calls k g s0_0 t141 t142 t140 t143 t144 t147 t148 w0 _ ?side1 ?side2 A3.out).mono ?_);(case side1=>exact zgg_);(case side2=>exact zii_);rintro e w9 ⟨v145,rfl,ho0,hi,hb,hk⟩;refine ⟨_,rfl,?_⟩;have n_:=z (KeepBut.blk hk (zb BK136.out) NB136_0.out (by simp))<|z (Kd.R_mono (Kd.R_told (Kd.R_oldK (IsS66.apart (show IsS66 w0 _ g s0_0 t141 t142 from zgg_) (zr HO139.out) (by decide)) hk) (Kd.R_base ho0)) (fun _ h_=>h_.1))<|z (Kd.R_lower (Kd.R_new' ho0 (Kd.R_lt (zr HO139.out))) (keep_size (w:=w) (g:=g) (row:=none) zgf_))<|z (KeepBut.trans zgf_ hk (.inl rfl))<|z (hb)<|z1 (hi);clear BK136 HO139 HK HB HI0;obtain ⟨BK136,HO139,HO146,HK,HB,HI0⟩:=n_;clear hb hk hi;(try clear ho0);have hnb10:=NB136_0.out;have hnc10:=NB0_136.out;obtain ⟨hcz11_0,hcz11_1,hfz11_0,hfz11_1⟩:=zk2 BK136.out;obtain ⟨Ao12,co12,eo12⟩:=Kd.R_slice HO146.out;subst eo12))
 refine bodyPost_ret (results_cell_row rfl _ _ gb136 26 #[.int .i64 t143,.slice Ao12 t144.length co12] (0,0) _ rfl (by refine zb ?_;refine blk_put (cs:=#[.int .i64 t143,.slice none 0 0]) ?_ 1 _ rfl;refine zb ?_;refine blk_put (cs:=#[.int .i64 0,.slice none 0 0]) ?_ 0 _ rfl;refine zb ?_;exact BK136.out) Tryd.underlying26 rfl (by kernel_rfl)) rfl ?_
 exact ⟨_,zf_,by refine zr ?_;exact Kd.R_mono (Kd.R_far (p:=⟨gb136,1,none⟩) (Kd.R_far (p:=⟨gb136,0,none⟩) (Kd.R_types HO146.out BK136.out (by decide)) (fun _ hk=>hk.2) (.int .i64 t143)) (fun _ hk=>hk.2) (.slice Ao12 t144.length co12)) (fun _ hk=>trivial),zgg_,zii_,zgf_⟩
end Go.Proofs.YtlnhpkjioppbiaaDoor.QFnDiagrams
