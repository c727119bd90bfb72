/- Functions of FnTables, each as a Lean function, with the proof that the Go code comes to its answers. -/
import Derived.Test.YtlnhpkjioppbiaaDoorProg
import Derived.Below
import Derived.Deep.Draws
import Derived.Deep.AppendLies
import Derived.Maps.AppendAt
import Derived.OwnWalk
import Derived.Laws.BytesArg
import Derived.Laws.MakeOwn
import Derived.Laws.OwnMore
import Derived.Deep.OwnRows
import Derived.Tactics
import Derived.Lib.ConvBytes
import Derived.Laws.Slices
import Derived.WalkKit
import Derived.KernelRfl
import Derived.RowKit3
import Derived.Deep.LoopGhost
import Derived.Deep.QuietTactic
import Derived.BigQuiet
import Derived.WideLaws
import Derived.Deep.DeepCutAuto
import Derived.Deep.CutBlock
import Derived.Deep.RegionHeld3
import Derived.Laws.Rows
import Derived.Lib.AppendStr
import Derived.ArgAppend
import Derived.Laws.IdiomCopy
import Derived.OrdersHeld
import Derived.Laws.BitsLemmas
import Derived.RowKit
import Derived.Test.YtlnhpkjioppbiaaDoorShelf
import Derived.Test.YtlnhpkjioppbiaaDoorVTaSep
import Derived.Test.YtlnhpkjioppbiaaDoorVTaWWords
import Derived.Test.YtlnhpkjioppbiaaDoorVTaWLast
import Derived.Test.YtlnhpkjioppbiaaDoorVTaWTab
import Derived.Test.YtlnhpkjioppbiaaDoorVTaWFour
import Derived.Test.YtlnhpkjioppbiaaDoorVTaWQPut
import Derived.Test.YtlnhpkjioppbiaaDoorVTaWApart
import Derived.Test.YtlnhpkjioppbiaaDoorVTaWArr
import Derived.Test.YtlnhpkjioppbiaaDoorVTaWZeros
import Derived.Test.YtlnhpkjioppbiaaDoorVTaWFoot
import Derived.Test.YtlnhpkjioppbiaaDoorVTaWKept
import Derived.Test.YtlnhpkjioppbiaaDoorVTaWShare
import Derived.Test.YtlnhpkjioppbiaaDoorVTaWN
import Derived.Test.YtlnhpkjioppbiaaDoorVTaWFootNe
import Derived.Test.YtlnhpkjioppbiaaDoorVTaWAt
import Derived.Test.YtlnhpkjioppbiaaDoorVTaWEqStruct
import Derived.Test.YtlnhpkjioppbiaaDoorVTaWRepsOne
import Derived.Test.YtlnhpkjioppbiaaDoorVTaWInv
import Derived.Test.YtlnhpkjioppbiaaDoorVTaWInvWords
import Derived.Test.YtlnhpkjioppbiaaDoorVTaWGuard
import Derived.Test.YtlnhpkjioppbiaaDoorVTaWNEv
import Derived.Test.YtlnhpkjioppbiaaDoorVTaWMore
namespace Go.Proofs.YtlnhpkjioppbiaaDoor.QFnTables
open Go.RowKit Go.Proofs.YtlnhpkjioppbiaaDoorW.PrintWords Go.Proofs.YtlnhpkjioppbiaaDoorW.PrintLast Go.Proofs.YtlnhpkjioppbiaaDoorW.PrintMore
open Go.Proofs.YtlnhpkjioppbiaaDoorW.PrintWords renaming pw_below_drewN→pN,below_drew1→p1,below_alloc→pA
open Go.Proofs.YtlnhpkjioppbiaaDoorW.PrintWords.Kd renaming R_alloc→kA,R_drewN→kN,R_drew→kD,Q_alloc→qA,Q_drewN→qN,Q_drew→qD,C_alloc→cA,C_drewN→cN,C_drew→cD
open List renaming setIfInBounds_toArray→sI,set_cons_zero→s0,set_cons_succ→sS,map_toArray→mT,length_take→lT,length_drop→lD,map_cons→mC,map_nil→mN
attribute [local go_sem] max2_int min2_int max_two min_two max_three min_three max_four min_four
set_option maxHeartbeats 8000000
set_option maxRecDepth 100000
set_option linter.unusedVariables false
set_option linter.unusedSimpArgs false
abbrev ti:Bool:=true
abbrev fi:Bool:=false
theorem z {a b:Prop} (h:a) (k:b):Aside0 a∧b:=⟨⟨h⟩,k⟩
theorem z1 {a:Prop} (h:a):Aside0 a:=⟨h⟩
theorem zb {p q:Prop} (h:q) (f:q→p:=by intro hq;(with_reducible repeat (first | refine blk_drewN ?_ _ | refine blk_drew ?_ | refine blk_alloc ?_ _));exact hq):p:=f h
theorem zr {p q:Prop} (h:q) (f:q→p:=by intro hq;(with_reducible repeat (first | apply kA | apply kN | apply kD));exact hq):p:=f h
theorem zq {p q:Prop} (h:q) (f:q→p:=by intro hq;(with_reducible repeat (first | apply qA | apply qN | apply qD));exact hq):p:=f h
theorem py_ {P:Program} {ops:Array Oper} {Q:Exit→Act→World→Prop} {md:Region.Mode} {S:World→Prop} {ds:List Nat} {T:Bool×List (List Nat×List Nat)} {oi:Oper} {v:Value} {fuel:Nat} {l:Array Bool} {a a':Act} {w:World} (i:Nat) (n:Tmp) (hT:rtab md ops=T)
    (h:wpAnyLast P md ops Q S ds fuel (l.setIfInBounds i true) a' w) (hi:ops[i]?=some oi:=by exact rfl) (hN:oi.dst=some n:=by exact rfl) (hc:anyT T l.toList (l.setIfInBounds i true).toList i=true:=by kernel_rfl)
    (hQ:∀ c a w,Q (.panic c) (a.put oi.dst v) w→Q (.panic c) a w:=by exact fun _ _ _ h=>h) (hd:Region.wanted oi (yielded ops a.tmps)=true:=by rfl) (hy:∀ w,(execOp a.eval oi).run P w = .ok (.value v) w:=by (intro w';go_simp;with_reducible rfl)) (ha:a.put (some n) v=a':=by (simp only [Act.put,sI,s0,sS,i64_w,i32_w];rfl)):wpAnyLast P md ops Q S ds (fuel+1) l a w:=
  pure_ _ hi hN (any_of hT hc) hQ (Or.inl ⟨hd,hy⟩) ha h
theorem oz_ {P:Program} {ops:Array Oper} {Q:Exit→Act→World→Prop} {md:Region.Mode} {S:World→Prop} {ds:List Nat} {oi:Oper} {fuel:Nat} {l:Array Bool} {w:World} {v:Value} {a a':Act} (i:Nat) (n:Tmp) (h:wpAnyLast P md ops Q S ds fuel (l.setIfInBounds i true) a' w) (hi:ops[i]?=some oi:=by exact rfl) (hN:oi.dst=some n:=by exact rfl) (hc:anyB md ops l (l.setIfInBounds i true) i=true:=by kernel_rfl) (hQ:∀ c a w,Q (.panic c) (a.put oi.dst v) w→Q (.panic c) a w:=by exact fun _ _ _ h=>h) (hd:Region.wanted oi (yielded ops a.tmps)=true:=by rfl) (hy:∀ w,(execOp a.eval oi).run P w = .ok (.value v) w:=by (intro w';go_simp;with_reducible rfl)) (ha:a.put (some n) v=a':=by (simp only [Act.put,sI,s0,sS,i64_w,i32_w];rfl)):wpAnyLast P md ops Q S ds (fuel+1) l a w:=pure_ _ hi hN hc hQ (Or.inl ⟨hd,hy⟩) ha h
theorem oo_ {P:Program} {ops:Array Oper} {Q:Exit→Act→World→Prop} {md:Region.Mode} {S:World→Prop} {ds:List Nat} {oi:Oper} {fuel:Nat} {l:Array Bool} {w:World} {a:Act} (i:Nat) (n:Tmp) (h:∀ K:Act→World→Prop,Shut (∀ a' w',S w'→(S w'→wpAnyLast P md ops Q S ds fuel (l.setIfInBounds i true) a' w')→K a' w')→if Region.wanted oi (yielded ops a.tmps)=true then Oper.wp P oi a w K Q else K (a.put (some n) undef) w) (hi:ops[i]?=some oi:=by exact rfl) (hN:oi.dst=some n:=by exact rfl) (hc:readyB md ops l (l.setIfInBounds i true) i=true:=by kernel_rfl) (hd:i∉ds:=by decide):wpAnyLast P md ops Q S ds (fuel+1) l a w:=one_ _ hi hN hc hd h
theorem nz_ {P:Program} {ops:Array Oper} {Q:Exit→Act→World→Prop} {md:Region.Mode} {S:World→Prop} {ds:List Nat} {fuel:Nat} {l:Array Bool} {w:World} {v:Value} {b a':Act} (n:Tmp) (h:wpAnyLast P md ops Q S ds fuel l a' w) (ha:Act.put b (some n) v=a':=by (simp only [Act.put,sI,s0,sS,i64_w,i32_w];rfl)):wpAnyLast P md ops Q S ds fuel l (Act.put b (some n) v) w:=norm_ ha h
theorem tz2_ {P:Program} {ops:Array Oper} {Q:Exit→Act→World→Prop} {md:Region.Mode} {S:World→Prop} {ds:List Nat} {oi:Oper} {fuel:Nat} {l:Array Bool} {w:World} {v:Value} {a a':Act} (i:Nat) (n:Tmp) (hS:S w) (h:wpAnyLast P md ops Q S ds fuel (l.setIfInBounds i true) a' w) (hi:ops[i]?=some oi:=by exact rfl) (hN:oi.dst=some n:=by exact rfl) (hc:takeB md ops ds l (l.setIfInBounds i true) i=true:=by kernel_rfl) (hQ:∀ c a w,Q (.panic c) (a.put oi.dst v) w→Q (.panic c) a w:=by exact fun _ _ _ h=>h) (hd:Region.wanted oi (yielded ops a.tmps)=true:=by rfl) (hy:∀ w,S w→(execOp a.eval oi).run P w = .ok (.value v) w:=by (rintro w' ⟨s0,s1⟩;go_simp;with_reducible rfl)) (ha:a.put (some n) v=a':=by (simp only [Act.put,sI,s0,sS,i64_w,i32_w];rfl)):wpAnyLast P md ops Q S ds (fuel+1) l a w:=take_ _ hi hN hc hQ (Or.inl ⟨hd,hy⟩) hS ha h
theorem tw2_ {P:Program} {ops:Array Oper} {Q:Exit→Act→World→Prop} {md:Region.Mode} {S:World→Prop} {ds:List Nat} {oi:Oper} {fuel:Nat} {l:Array Bool} {w:World} {T:Bool×List (List Nat×List Nat)} {B:List Nat} {v:Value} {a a':Act} (i:Nat) (n:Tmp) (hT:rtab md ops=T) (hB:waitsOk T.2 B=true) (hS:S w) (h:wpAnyLast P md ops Q S ds fuel (l.setIfInBounds i true) a' w) (hi:ops[i]?=some oi:=by exact rfl) (hN:oi.dst=some n:=by exact rfl) (hc:takeW T B ds l.toList (l.setIfInBounds i true).toList i=true:=by kernel_rfl) (hQ:∀ c a w,Q (.panic c) (a.put oi.dst v) w→Q (.panic c) a w:=by exact fun _ _ _ h=>h) (hd:Region.wanted oi (yielded ops a.tmps)=true:=by rfl) (hy:∀ w,S w→(execOp a.eval oi).run P w = .ok (.value v) w:=by (rintro w' ⟨s0,s1⟩;go_simp;with_reducible rfl)) (ha:a.put (some n) v=a':=by (simp only [Act.put,sI,s0,sS,i64_w,i32_w];rfl)):wpAnyLast P md ops Q S ds (fuel+1) l a w:=take_ _ hi hN (take_ofW hT hB hc) hQ (Or.inl ⟨hd,hy⟩) hS ha h
theorem tw3_ {P:Program} {ops:Array Oper} {Q:Exit→Act→World→Prop} {md:Region.Mode} {S:World→Prop} {ds:List Nat} {oi:Oper} {fuel:Nat} {l:Array Bool} {w:World} {T:Bool×List (List Nat×List Nat)} {B:List Nat} {v:Value} {a a':Act} (i:Nat) (n:Tmp) (hT:rtab md ops=T) (hB:waitsOk T.2 B=true) (hS:S w) (h:wpAnyLast P md ops Q S ds fuel (l.setIfInBounds i true) a' w) (hi:ops[i]?=some oi:=by exact rfl) (hN:oi.dst=some n:=by exact rfl) (hc:takeW T B ds l.toList (l.setIfInBounds i true).toList i=true:=by kernel_rfl) (hQ:∀ c a w,Q (.panic c) (a.put oi.dst v) w→Q (.panic c) a w:=by exact fun _ _ _ h=>h) (hd:Region.wanted oi (yielded ops a.tmps)=true:=by rfl) (hy:∀ w,S w→(execOp a.eval oi).run P w = .ok (.value v) w:=by (rintro w' ⟨s0,s1,s2⟩;go_simp;with_reducible rfl)) (ha:a.put (some n) v=a':=by (simp only [Act.put,sI,s0,sS,i64_w,i32_w];rfl)):wpAnyLast P md ops Q S ds (fuel+1) l a w:=take_ _ hi hN (take_ofW hT hB hc) hQ (Or.inl ⟨hd,hy⟩) hS ha h
theorem tz4_ {P:Program} {ops:Array Oper} {Q:Exit→Act→World→Prop} {md:Region.Mode} {S:World→Prop} {ds:List Nat} {oi:Oper} {fuel:Nat} {l:Array Bool} {w:World} {v:Value} {a a':Act} (i:Nat) (n:Tmp) (hS:S w) (h:wpAnyLast P md ops Q S ds fuel (l.setIfInBounds i true) a' w) (hi:ops[i]?=some oi:=by exact rfl) (hN:oi.dst=some n:=by exact rfl) (hc:takeB md ops ds l (l.setIfInBounds i true) i=true:=by kernel_rfl) (hQ:∀ c a w,Q (.panic c) (a.put oi.dst v) w→Q (.panic c) a w:=by exact fun _ _ _ h=>h) (hd:Region.wanted oi (yielded ops a.tmps)=true:=by rfl) (hy:∀ w,S w→(execOp a.eval oi).run P w = .ok (.value v) w:=by (rintro w' ⟨s0,s1,s2,s3⟩;go_simp;with_reducible rfl)) (ha:a.put (some n) v=a':=by (simp only [Act.put,sI,s0,sS,i64_w,i32_w];rfl)):wpAnyLast P md ops Q S ds (fuel+1) l a w:=take_ _ hi hN hc hQ (Or.inl ⟨hd,hy⟩) hS ha h
theorem tw4_ {P:Program} {ops:Array Oper} {Q:Exit→Act→World→Prop} {md:Region.Mode} {S:World→Prop} {ds:List Nat} {oi:Oper} {fuel:Nat} {l:Array Bool} {w:World} {T:Bool×List (List Nat×List Nat)} {B:List Nat} {v:Value} {a a':Act} (i:Nat) (n:Tmp) (hT:rtab md ops=T) (hB:waitsOk T.2 B=true) (hS:S w) (h:wpAnyLast P md ops Q S ds fuel (l.setIfInBounds i true) a' w) (hi:ops[i]?=some oi:=by exact rfl) (hN:oi.dst=some n:=by exact rfl) (hc:takeW T B ds l.toList (l.setIfInBounds i true).toList i=true:=by kernel_rfl) (hQ:∀ c a w,Q (.panic c) (a.put oi.dst v) w→Q (.panic c) a w:=by exact fun _ _ _ h=>h) (hd:Region.wanted oi (yielded ops a.tmps)=true:=by rfl) (hy:∀ w,S w→(execOp a.eval oi).run P w = .ok (.value v) w:=by (rintro w' ⟨s0,s1,s2,s3⟩;go_simp;with_reducible rfl)) (ha:a.put (some n) v=a':=by (simp only [Act.put,sI,s0,sS,i64_w,i32_w];rfl)):wpAnyLast P md ops Q S ds (fuel+1) l a w:=take_ _ hi hN (take_ofW hT hB hc) hQ (Or.inl ⟨hd,hy⟩) hS ha h
theorem tw5_ {P:Program} {ops:Array Oper} {Q:Exit→Act→World→Prop} {md:Region.Mode} {S:World→Prop} {ds:List Nat} {oi:Oper} {fuel:Nat} {l:Array Bool} {w:World} {T:Bool×List (List Nat×List Nat)} {B:List Nat} {v:Value} {a a':Act} (i:Nat) (n:Tmp) (hT:rtab md ops=T) (hB:waitsOk T.2 B=true) (hS:S w) (h:wpAnyLast P md ops Q S ds fuel (l.setIfInBounds i true) a' w) (hi:ops[i]?=some oi:=by exact rfl) (hN:oi.dst=some n:=by exact rfl) (hc:takeW T B ds l.toList (l.setIfInBounds i true).toList i=true:=by kernel_rfl) (hQ:∀ c a w,Q (.panic c) (a.put oi.dst v) w→Q (.panic c) a w:=by exact fun _ _ _ h=>h) (hd:Region.wanted oi (yielded ops a.tmps)=true:=by rfl) (hy:∀ w,S w→(execOp a.eval oi).run P w = .ok (.value v) w:=by (rintro w' ⟨s0,s1,s2,s3,s4⟩;go_simp;with_reducible rfl)) (ha:a.put (some n) v=a':=by (simp only [Act.put,sI,s0,sS,i64_w,i32_w];rfl)):wpAnyLast P md ops Q S ds (fuel+1) l a w:=take_ _ hi hN (take_ofW hT hB hc) hQ (Or.inl ⟨hd,hy⟩) hS ha h
theorem tw6_ {P:Program} {ops:Array Oper} {Q:Exit→Act→World→Prop} {md:Region.Mode} {S:World→Prop} {ds:List Nat} {oi:Oper} {fuel:Nat} {l:Array Bool} {w:World} {T:Bool×List (List Nat×List Nat)} {B:List Nat} {v:Value} {a a':Act} (i:Nat) (n:Tmp) (hT:rtab md ops=T) (hB:waitsOk T.2 B=true) (hS:S w) (h:wpAnyLast P md ops Q S ds fuel (l.setIfInBounds i true) a' w) (hi:ops[i]?=some oi:=by exact rfl) (hN:oi.dst=some n:=by exact rfl) (hc:takeW T B ds l.toList (l.setIfInBounds i true).toList i=true:=by kernel_rfl) (hQ:∀ c a w,Q (.panic c) (a.put oi.dst v) w→Q (.panic c) a w:=by exact fun _ _ _ h=>h) (hd:Region.wanted oi (yielded ops a.tmps)=true:=by rfl) (hy:∀ w,S w→(execOp a.eval oi).run P w = .ok (.value v) w:=by (rintro w' ⟨s0,s1,s2,s3,s4,s5⟩;go_simp;with_reducible rfl)) (ha:a.put (some n) v=a':=by (simp only [Act.put,sI,s0,sS,i64_w,i32_w];rfl)):wpAnyLast P md ops Q S ds (fuel+1) l a w:=take_ _ hi hN (take_ofW hT hB hc) hQ (Or.inl ⟨hd,hy⟩) hS ha h
theorem zk2 {w:World} {g:Nat} {t:TypeId} {a b:Value} (h:w.heap[g]?=some (.cells #[a,b] t (0,0))):w.cell? ⟨g,0,none⟩=some a∧w.cell? ⟨g,1,none⟩=some b∧w.frozen? ⟨g,0,none⟩=false∧w.frozen? ⟨g,1,none⟩=false:=⟨(blk_cell h 0).trans rfl,(blk_cell h 1).trans rfl,blk_frozen h 0,blk_frozen h 1⟩
theorem q3n_ {p q:Prop} (h:p) (k:¬p:=by simp):q:=absurd h k
theorem q3h_ {w w1:World} {a:Addr} {v:Value} (B:Below w.heap.size w w1) (h:w.cell? a=some v):w1.cell? a=some v:=(B.cell (World.block_lt_of_cell? w _ h)).trans h
theorem q3d_ {p:Prop} (h:p:=by first | exact ⟨rfl,_,World.drewN_drewN _ _ _⟩ | exact ⟨rfl,_,Eq.trans (World.drewN_drewN _ _ _) (congrArg (World.drewN _) (Nat.add_assoc _ _ _))⟩):p:=h
theorem q3y_ {α:Type} {a b:α} {p q:Prop} (e:a=b) (h:p) (f:a=b→p→q:=by intro e_ H_;first | (rw [e_];with_reducible exact H_)|(have H2_:=(Option.bind_some _ _).symm.trans H_;rw [e_];with_reducible exact H2_)|(have H2_:=(Option.bind_some _ _).symm.trans H_;with_reducible exact H2_) | with_reducible exact H_ | (rw [e_];exact H_) | exact H_):q:=f e h
theorem za_ {p:Prop} (h:p:=by repeat (first | (with_reducible first | exact HB.out | apply pA | apply pN | apply p1) | exact HB.out)):p:=h
theorem zb_ {p:Prop} (h:p:=by first | (go_simp;done)|(go_simp;rfl)):p:=h
theorem zc_ {p:Prop} (h:p:=by first | rfl | (simp;done)|(simp [*];done)):p:=h
theorem zd_ {p:Prop} (h:p:=by first | (with_reducible assumption) | assumption):p:=h
theorem ze_ {p:Prop} (h:p:=by (try simp only [mT,mC,mN]);first | done | rfl | (simp only [lD,lT];rfl)):p:=h
theorem zf_ {p:Prop} (h:p:=by repeat (first | (with_reducible first | exact HI0.out | apply IsS66.alloc | apply IsS66.drewN | apply IsS66.drew | apply IsS66.set_1 | apply IsS66.set_2) | exact HI0.out)):p:=h
theorem zg_ {p:Prop} (h:p:=by repeat (first | (with_reducible first | exact HK.out | apply KeepBut.set_ | apply keep_drewN | apply keep_drew | apply keep_alloc) | exact HK.out)):p:=h
theorem zh_ {p:Prop} (h:p:=by first | rfl | (simp [errW_none,errW_some] <;> rfl)|(simp [*,errW_none,errW_some] <;> rfl)):p:=h
theorem zi_ {p:Prop} (h:p:=by repeat (first | (with_reducible first | exact HB.out | apply pA | apply pN | apply p1 | refine below_set ?_ (IsS66.ge HI0.out)) | exact HB.out)):p:=h
theorem zj_ {p:Prop} (h:p:=by repeat (first | exact Drawn0.refl _ | apply Drawn0.step)):p:=h
theorem zba_ {p:Prop} (h:p:=by have:=HK1.out;first | omega | exact Nat.le_refl _):p:=h
theorem zbb_ {p:Prop} (h:p:=by repeat (first | (with_reducible first | exact HB.out | apply pA | apply pN | apply p1 | refine below_set ?_ GE452.out | refine below_set ?_ GE462.out | refine below_set ?_ GE468.out | refine below_set ?_ GE474.out | refine below_set ?_ GE490.out | refine below_set ?_ GE491.out) | exact HB.out)):p:=h
theorem zbc_ {p:Prop} (h:p:=by repeat (first | exact (Kd.C_below HR0_1.out HB.out)|(with_reducible refine cA ?_ _)|(with_reducible refine cN ?_ _)|(with_reducible refine cD ?_))):p:=h
theorem zbd_ {p:Prop} (h:p:=by repeat (first | (with_reducible first | exact HI264.out | apply IsS66.alloc | apply IsS66.drewN | apply IsS66.drew | apply IsS66.set_1 | apply IsS66.set_2 | refine IsS66.far ?_ NB264_262.out _ | refine IsS66.far ?_ NB264_263.out _ | refine IsS66.far ?_ NB264_271.out _ | refine IsS66.far ?_ NB264_280.out _) | exact HI264.out)):p:=h
theorem zbe_ {p:Prop} (h:p:=by repeat (first | (with_reducible first | exact HI0.out | apply IsS66.alloc | apply IsS66.drewN | apply IsS66.drew | apply IsS66.set_1 | apply IsS66.set_2 | refine IsS66.far ?_ NB0_152.out _ | refine IsS66.far ?_ NB0_159.out _) | exact HI0.out)):p:=h
theorem zbf_ {p:Prop} (h:p:=by repeat (first | (with_reducible first | exact HK.out | apply KeepBut.set_ | apply keep_drewN | apply keep_drew | apply keep_alloc | refine keep_far ?_ GW152.out _) | exact HK.out)):p:=h
theorem zbg_ {p:Prop} (h:p:=by repeat (first | (with_reducible first | exact HK.out | apply KeepBut.set_ | apply keep_drewN | apply keep_drew | apply keep_alloc | refine keep_far ?_ GW152.out _ | refine keep_far ?_ GW159.out _) | exact HK.out)):p:=h
theorem zbh_ {p:Prop} (h:p:=by repeat (first | (with_reducible first | exact HI403.out | apply IsS66.alloc | apply IsS66.drewN | apply IsS66.drew | apply IsS66.set_1 | apply IsS66.set_2 | refine IsS66.far ?_ NB403_402.out _ | refine IsS66.far ?_ NB403_410.out _) | exact HI403.out)):p:=h
theorem zbi_ {p:Prop} (h:p:=by repeat (first | (with_reducible first | exact HI0.out | apply IsS66.alloc | apply IsS66.drewN | apply IsS66.drew | apply IsS66.set_1 | apply IsS66.set_2 | refine IsS66.far ?_ NB0_152.out _) | exact HI0.out)):p:=h
theorem zbj_ {p:Prop} (h:p:=by repeat (first | (with_reducible first | exact HB.out | apply pA | apply pN | apply p1 | refine below_set ?_ (IsS66.ge HI0.out) | refine below_set ?_ GE152.out | refine below_set ?_ GE159.out) | exact HB.out)):p:=h
theorem zca_ {p:Prop} (h:p:=by first | exact Kd.R_nil _ _ _ _ _ | exact Kd.N_nil _ _ _ _ _ | exact Kd.V_nil _ _ _ _ _ | exact Kd.Q_nil _ _ _ _ _ | exact Kd.S_nil _ _ _ _ _):p:=h
theorem zcb_ {p:Prop} (h:p:=by repeat (first | (with_reducible first | exact HB.out | apply pA | apply pN | apply p1 | refine below_set ?_ (IsS66.ge HI264.out) | refine below_set ?_ GE262.out | refine below_set ?_ GE263.out | refine below_set ?_ GE271.out | refine below_set ?_ GE280.out) | exact HB.out)):p:=h
theorem zcc_ {p:Prop} (h:p:=by have:=HK1.out;omega):p:=h
theorem zcd_ {p:Prop} (h:p:=by repeat (first | (with_reducible first | exact HI0.out | apply IsS66.alloc | apply IsS66.drewN | apply IsS66.drew | apply IsS66.set_1 | apply IsS66.set_2 | refine IsS66.far ?_ NB0_118.out _ | refine IsS66.far ?_ NB0_119.out _) | exact HI0.out)):p:=h
theorem zce_ {p:Prop} (h:p:=by first | omega | exact Nat.le_refl _):p:=h
theorem zcf_ {p:Prop} (h:p:=by repeat (first | (with_reducible first | exact HB.out | apply pA | apply pN | apply p1 | refine below_set ?_ GE431.out) | exact HB.out)):p:=h
theorem zcg_ {p:Prop} (h:p:=by repeat (first | (with_reducible first | exact HB.out | apply pA | apply pN | apply p1 | refine below_set ?_ GE437.out) | exact HB.out)):p:=h
theorem zch_ {p:Prop} (h:p:=by repeat (first | (with_reducible first | exact HK.out | apply KeepBut.set_ | apply keep_drewN | apply keep_drew | apply keep_alloc | refine keep_far ?_ GW118.out _ | refine keep_far ?_ GW119.out _) | exact HK.out)):p:=h
theorem zci_ {p:Prop} (h:p:=by repeat (first | (with_reducible first | exact HB.out | apply pA | apply pN | apply p1 | refine below_set ?_ (IsS66.ge HI403.out) | refine below_set ?_ GE402.out | refine below_set ?_ GE410.out) | exact HB.out)):p:=h
theorem zcj_ {p:Prop} (h:p:=by repeat (first | (with_reducible first | exact HB.out | apply pA | apply pN | apply p1 | refine below_set ?_ (IsS66.ge HI0.out) | refine below_set ?_ GE118.out | refine below_set ?_ GE119.out) | exact HB.out)):p:=h
theorem zda_ {p:Prop} (h:p:=by repeat (first | (with_reducible first | exact HB.out | apply pA | apply pN | apply p1 | refine below_set ?_ GE316.out | refine below_set ?_ GE317.out | refine below_set ?_ GE318.out) | exact HB.out)):p:=h
theorem zdb_ {p:Prop} (h:p:=by repeat (first | (with_reducible first | exact HB.out | apply pA | apply pN | apply p1 | refine below_set ?_ (IsS66.ge HI348.out)) | exact HB.out)):p:=h
theorem zdc_ {p:Prop} (h:p:=by exact (fun _ _=>trivial)):p:=h
theorem zdd_ {p:Prop} (h:p:=by repeat (first | (with_reducible first | exact HB.out | apply pA | apply pN | apply p1 | refine below_set ?_ GE381.out | refine below_set ?_ GE388.out) | exact HB.out)):p:=h
theorem zde_ {p:Prop} (h:p:=by repeat (first | exact (Kd.C_below HR1.out HB.out)|(with_reducible refine cA ?_ _)|(with_reducible refine cN ?_ _)|(with_reducible refine cD ?_))):p:=h
theorem zdf_ {p:Prop} (h:p:=by repeat (first | (with_reducible first | exact HB.out | apply pA | apply pN | apply p1 | refine below_set ?_ GE245.out | refine below_set ?_ GE246.out) | exact HB.out)):p:=h
theorem zdg_ {p:Prop} (h:p:=by repeat (first | (with_reducible first | exact HB.out | apply pA | apply pN | apply p1 | refine below_set ?_ GE452.out | refine below_set ?_ GE462.out | refine below_set ?_ GE468.out | refine below_set ?_ GE474.out) | exact HB.out)):p:=h
theorem zdh_ {p:Prop} (h:p:=by repeat (first | (with_reducible first | exact HB.out | apply pA | apply pN | apply p1 | refine below_set ?_ (IsS66.ge HI0.out) | refine below_set ?_ GE152.out) | exact HB.out)):p:=h
theorem zdi_ {p:Prop} (h:p:=by repeat (first | (with_reducible first | exact HB.out | apply pA | apply pN | apply p1 | refine below_set ?_ (IsS66.ge HI264.out) | refine below_set ?_ GE262.out | refine below_set ?_ GE263.out) | exact HB.out)):p:=h
theorem zdj_ {p:Prop} (h:p:=by repeat (first | (with_reducible first | exact HI264.out | apply IsS66.alloc | apply IsS66.drewN | apply IsS66.drew | apply IsS66.set_1 | apply IsS66.set_2 | refine IsS66.far ?_ NB264_262.out _ | refine IsS66.far ?_ NB264_263.out _ | refine IsS66.far ?_ NB264_271.out _) | exact HI264.out)):p:=h
theorem zea_ {p:Prop} (h:p:=by repeat (first | (with_reducible first | exact HB.out | apply pA | apply pN | apply p1 | refine below_set ?_ (IsS66.ge HI264.out) | refine below_set ?_ GE262.out | refine below_set ?_ GE263.out | refine below_set ?_ GE271.out) | exact HB.out)):p:=h
theorem zeb_ {p:Prop} (h:p:=by repeat (first | (with_reducible first | exact HI348.out | apply IsS66.alloc | apply IsS66.drewN | apply IsS66.drew | apply IsS66.set_1 | apply IsS66.set_2) | exact HI348.out)):p:=h
theorem zec_ {p:Prop} (h:p:=by exact (Reps.one (show Kd.M (Kd.int .u8) _ _ _ (bt a2 t335) [.int .u8 (bt a2 t335)] from rfl) (Reps.none _ _))):p:=h
theorem zed_ {p:Prop} (h:p:=by repeat (first | (with_reducible first | exact HB.out | apply pA | apply pN | apply p1 | refine below_set ?_ GE381.out) | exact HB.out)):p:=h
theorem zee_ {p:Prop} (h:p:=by repeat (first | (with_reducible first | exact HB.out | apply pA | apply pN | apply p1 | refine below_set ?_ GE452.out | refine below_set ?_ GE462.out | refine below_set ?_ GE468.out | refine below_set ?_ GE474.out | refine below_set ?_ GE480.out | refine below_set ?_ GE490.out | refine below_set ?_ GE491.out | refine below_set ?_ GE497.out | refine below_set ?_ GE503.out | refine below_set ?_ GE510.out | refine below_set ?_ GE516.out | refine below_set ?_ GE524.out) | exact HB.out)):p:=h
theorem zef_ {p:Prop} (h:p:=by repeat (first | (with_reducible first | exact HB.out | apply pA | apply pN | apply p1 | refine below_set ?_ GE262.out | refine below_set ?_ GE263.out) | exact HB.out)):p:=h
theorem zeg_ {p:Prop} (h:p:=by repeat (first | (with_reducible first | exact HI264.out | apply IsS66.alloc | apply IsS66.drewN | apply IsS66.drew | apply IsS66.set_1 | apply IsS66.set_2 | refine IsS66.far ?_ NB264_262.out _ | refine IsS66.far ?_ NB264_263.out _) | exact HI264.out)):p:=h
theorem zeh_ {p:Prop} (h:p:=by repeat (first | (with_reducible first | exact HB.out | apply pA | apply pN | apply p1 | refine below_set ?_ GE368.out) | exact HB.out)):p:=h
theorem zei_ {p:Prop} (h:p:=by repeat (first | (with_reducible first | exact HB.out | apply pA | apply pN | apply p1 | refine below_set ?_ GE368.out | refine below_set ?_ GE369.out) | exact HB.out)):p:=h
theorem zej_ {p:Prop} (h:p:=by exact (Kd.Q_reads' HO451.out).2.1):p:=h
theorem zfa_ {p:Prop} (h:p:=by repeat (first | (with_reducible first | exact HB.out | apply pA | apply pN | apply p1 | refine below_set ?_ GE452.out) | exact HB.out)):p:=h
theorem zfb_ {p:Prop} (h:p:=by repeat (first | (with_reducible first | exact HB.out | apply pA | apply pN | apply p1 | refine below_set ?_ GE452.out | refine below_set ?_ GE462.out | refine below_set ?_ GE468.out | refine below_set ?_ GE474.out | refine below_set ?_ GE480.out) | exact HB.out)):p:=h
theorem zfc_ {p:Prop} (h:p:=by repeat (first | (with_reducible first | exact HB.out | apply pA | apply pN | apply p1 | refine below_set ?_ GE452.out | refine below_set ?_ GE462.out | refine below_set ?_ GE468.out | refine below_set ?_ GE474.out | refine below_set ?_ GE480.out | refine below_set ?_ GE490.out | refine below_set ?_ GE491.out | refine below_set ?_ GE497.out | refine below_set ?_ GE503.out) | exact HB.out)):p:=h
theorem zfd_ {p:Prop} (h:p:=by repeat (first | (with_reducible first | exact HB.out | apply pA | apply pN | apply p1 | refine below_set ?_ GE452.out | refine below_set ?_ GE462.out | refine below_set ?_ GE468.out | refine below_set ?_ GE474.out | refine below_set ?_ GE480.out | refine below_set ?_ GE490.out | refine below_set ?_ GE491.out | refine below_set ?_ GE497.out | refine below_set ?_ GE503.out | refine below_set ?_ GE510.out | refine below_set ?_ GE516.out) | exact HB.out)):p:=h
theorem zfe_ {p:Prop} (h:p:=by exact (Kd.Q_reads' HO_453001.out).2.1):p:=h
theorem zff_ {p:Prop} (h:p:=by repeat (first | (with_reducible first | exact HB.out | apply pA | apply pN | apply p1 | refine below_set ?_ GE452.out | refine below_set ?_ GE462.out | refine below_set ?_ GE468.out | refine below_set ?_ GE474.out | refine below_set ?_ GE542.out | refine below_set ?_ GE548.out | refine below_set ?_ GE554.out | refine below_set ?_ GE560.out | refine below_set ?_ GE566.out | refine below_set ?_ GE572.out | refine below_set ?_ GE578.out) | exact HB.out)):p:=h
theorem zfg_ {p:Prop} (h:p:=by repeat (first | (with_reducible first | exact HK.out | apply KeepBut.set_ | apply keep_drewN | apply keep_drew | apply keep_alloc | refine keep_far ?_ GW139.out _) | exact HK.out)):p:=h
theorem zfh_ {p:Prop} (h:p:=by repeat (first | (with_reducible first | exact HI0.out | apply IsS66.alloc | apply IsS66.drewN | apply IsS66.drew | apply IsS66.set_1 | apply IsS66.set_2 | refine IsS66.far ?_ NB0_139.out _) | exact HI0.out)):p:=h
theorem zfi_ {p:Prop} (h:p:=by repeat (first | (with_reducible first | exact HB.out | apply pA | apply pN | apply p1 | refine below_set ?_ GE205.out) | exact HB.out)):p:=h
theorem zfj_ {p:Prop} (h:p:=by repeat (first | (with_reducible first | exact HB.out | apply pA | apply pN | apply p1 | refine below_set ?_ GE229.out) | exact HB.out)):p:=h
theorem zga_ {p:Prop} (h:p:=by repeat (first | (with_reducible first | exact HB.out | apply pA | apply pN | apply p1 | refine below_set ?_ GE229.out | refine below_set ?_ GE230.out) | exact HB.out)):p:=h
theorem zgb_ {p:Prop} (h:p:=by repeat (first | (with_reducible first | exact HB.out | apply pA | apply pN | apply p1 | refine below_set ?_ GE237.out) | exact HB.out)):p:=h
theorem zgc_ {p:Prop} (h:p:=by repeat (first | (with_reducible first | exact HB.out | apply pA | apply pN | apply p1 | refine below_set ?_ GE237.out | refine below_set ?_ GE238.out) | exact HB.out)):p:=h
theorem zgd_ {p:Prop} (h:p:=by repeat (first | (with_reducible first | exact HB.out | apply pA | apply pN | apply p1 | refine below_set ?_ GE245.out) | exact HB.out)):p:=h
theorem zge_ {p:Prop} (h:p:=by repeat (first | (with_reducible first | exact HB.out | apply pA | apply pN | apply p1 | refine below_set ?_ GE245.out | refine below_set ?_ GE246.out | refine below_set ?_ GE251.out) | exact HB.out)):p:=h
theorem zgf_ {p:Prop} (h:p:=by repeat (first | (with_reducible first | exact HB.out | apply pA | apply pN | apply p1 | refine below_set ?_ GE254.out) | exact HB.out)):p:=h
theorem zgg_ {p:Prop} (h:p:=by repeat (first | (with_reducible first | exact HB.out | apply pA | apply pN | apply p1 | refine below_set ?_ GE254.out | refine below_set ?_ GE255.out) | exact HB.out)):p:=h
theorem zgh_ {p:Prop} (h:p:=by repeat (first | (with_reducible first | exact HB.out | apply pA | apply pN | apply p1 | refine below_set ?_ GE262.out) | exact HB.out)):p:=h
theorem zgi_ {p:Prop} (h:p:=by (try simp only [mT,mC,mN]);first | done | rfl):p:=h
theorem zgj_ {p:Prop} (h:p:=by exact (Kd.C_below HR1_1.out HO_3.out.base)):p:=h
theorem zha_ {p:Prop} (h:p:=by repeat (first | (with_reducible first | exact HB.out | apply pA | apply pN | apply p1 | refine below_set ?_ GE444.out) | exact HB.out)):p:=h
theorem zhb_ {p:Prop} (h:p:=by refine zb ?_;refine blk_far ?_ NB152_159.out _;refine zb ?_;refine blk_far ?_ NB152_159.out _;refine zb ?_;exact BK152.out):p:=h
theorem zhc_ {p:Prop} (h:p:=by refine zb ?_;refine blk_put (cs:=#[.int .i64 t153,.slice none 0 0]) ?_ 1 _ rfl;refine zb ?_;refine blk_put (cs:=#[.int .i64 0,.slice none 0 0]) ?_ 0 _ rfl;refine zb ?_;exact BK159.out):p:=h
theorem zhd_ {p:Prop} (h:p:=by repeat (first | (with_reducible first | exact HB.out | apply pA | apply pN | apply p1 | refine below_set ?_ GE222.out) | exact HB.out)):p:=h
theorem zhe_ {p:Prop} (h:p:=by repeat (first | (with_reducible first | exact HB.out | apply pA | apply pN | apply p1 | refine below_set ?_ GE226.out) | exact HB.out)):p:=h
theorem zhf_ {p:Prop} (h:p:=by repeat (first | (with_reducible first | exact HB.out | apply pA | apply pN | apply p1 | refine below_set ?_ GE229.out | refine below_set ?_ GE230.out | refine below_set ?_ GE232.out) | exact HB.out)):p:=h
theorem zhg_ {p:Prop} (h:p:=by repeat (first | (with_reducible first | exact HB.out | apply pA | apply pN | apply p1 | refine below_set ?_ GE237.out | refine below_set ?_ GE238.out | refine below_set ?_ GE240.out) | exact HB.out)):p:=h
theorem zhh_ {p:Prop} (h:p:=by repeat (first | (with_reducible first | exact HB.out | apply pA | apply pN | apply p1 | refine below_set ?_ GE254.out | refine below_set ?_ GE255.out | refine below_set ?_ GE257.out) | exact HB.out)):p:=h
theorem zhi_ {p:Prop} (h:p:=by exact (Kd.C_below HR2_1.out HO_4.out.base)):p:=h
theorem zhj_ {p:Prop} (h:p:=by repeat (first | (with_reducible first | exact HB.out | apply pA | apply pN | apply p1 | refine below_set ?_ GE316.out | refine below_set ?_ GE317.out | refine below_set ?_ GE318.out | refine below_set ?_ GE322.out) | exact HB.out)):p:=h
theorem zia_ {p:Prop} (h:p:=by repeat (first | exact (Kd.R_reads' HO_389001.out).2.2 | (with_reducible refine cA ?_ _)|(with_reducible refine cN ?_ _)|(with_reducible refine cD ?_))):p:=h
theorem zib_ {p:Prop} (h:p:=by exact (Kd.R_reads' HO_389001.out).2.1):p:=h
theorem zic_ {p:Prop} (h:p:=by repeat (first | (with_reducible first | exact HB.out | apply pA | apply pN | apply p1 | refine below_set ?_ (IsS66.ge HI403.out) | refine below_set ?_ GE402.out) | exact HB.out)):p:=h
theorem zid_ {p:Prop} (h:p:=by repeat (first | (with_reducible first | exact HB.out | apply pA | apply pN | apply p1 | refine below_set ?_ GE452.out | refine below_set ?_ GE462.out) | exact HB.out)):p:=h
theorem zie_ {p:Prop} (h:p:=by repeat (first | (with_reducible first | exact HB.out | apply pA | apply pN | apply p1 | refine below_set ?_ GE452.out | refine below_set ?_ GE462.out | refine below_set ?_ GE468.out) | exact HB.out)):p:=h
theorem zif_ {p:Prop} (h:p:=by repeat (first | (with_reducible first | exact HB.out | apply pA | apply pN | apply p1 | refine below_set ?_ GE452.out | refine below_set ?_ GE462.out | refine below_set ?_ GE468.out | refine below_set ?_ GE474.out | refine below_set ?_ GE480.out | refine below_set ?_ GE490.out | refine below_set ?_ GE491.out) | exact HB.out)):p:=h
theorem zig_ {p:Prop} (h:p:=by repeat (first | (with_reducible first | exact HB.out | apply pA | apply pN | apply p1 | refine below_set ?_ GE452.out | refine below_set ?_ GE462.out | refine below_set ?_ GE468.out | refine below_set ?_ GE474.out | refine below_set ?_ GE480.out | refine below_set ?_ GE490.out | refine below_set ?_ GE491.out | refine below_set ?_ GE497.out) | exact HB.out)):p:=h
theorem zih_ {p:Prop} (h:p:=by repeat (first | (with_reducible first | exact HB.out | apply pA | apply pN | apply p1 | refine below_set ?_ GE452.out | refine below_set ?_ GE462.out | refine below_set ?_ GE468.out | refine below_set ?_ GE474.out | refine below_set ?_ GE480.out | refine below_set ?_ GE490.out | refine below_set ?_ GE491.out | refine below_set ?_ GE497.out | refine below_set ?_ GE503.out | refine below_set ?_ GE510.out) | exact HB.out)):p:=h
theorem zii_ {p:Prop} (h:p:=by repeat (first | (with_reducible first | exact HB.out | apply pA | apply pN | apply p1 | refine below_set ?_ GE452.out | refine below_set ?_ GE462.out | refine below_set ?_ GE468.out | refine below_set ?_ GE474.out | refine below_set ?_ GE542.out) | exact HB.out)):p:=h
theorem zij_ {p:Prop} (h:p:=by repeat (first | (with_reducible first | exact HB.out | apply pA | apply pN | apply p1 | refine below_set ?_ GE452.out | refine below_set ?_ GE462.out | refine below_set ?_ GE468.out | refine below_set ?_ GE474.out | refine below_set ?_ GE542.out | refine below_set ?_ GE548.out) | exact HB.out)):p:=h
theorem zja_ {p:Prop} (h:p:=by repeat (first | (with_reducible first | exact HB.out | apply pA | apply pN | apply p1 | refine below_set ?_ GE452.out | refine below_set ?_ GE462.out | refine below_set ?_ GE468.out | refine below_set ?_ GE474.out | refine below_set ?_ GE542.out | refine below_set ?_ GE548.out | refine below_set ?_ GE554.out) | exact HB.out)):p:=h
theorem zjb_ {p:Prop} (h:p:=by repeat (first | (with_reducible first | exact HB.out | apply pA | apply pN | apply p1 | refine below_set ?_ GE452.out | refine below_set ?_ GE462.out | refine below_set ?_ GE468.out | refine below_set ?_ GE474.out | refine below_set ?_ GE542.out | refine below_set ?_ GE548.out | refine below_set ?_ GE554.out | refine below_set ?_ GE560.out) | exact HB.out)):p:=h
theorem zjc_ {p:Prop} (h:p:=by repeat (first | (with_reducible first | exact HB.out | apply pA | apply pN | apply p1 | refine below_set ?_ GE452.out | refine below_set ?_ GE462.out | refine below_set ?_ GE468.out | refine below_set ?_ GE474.out | refine below_set ?_ GE542.out | refine below_set ?_ GE548.out | refine below_set ?_ GE554.out | refine below_set ?_ GE560.out | refine below_set ?_ GE566.out) | exact HB.out)):p:=h
theorem zjd_ {p:Prop} (h:p:=by repeat (first | (with_reducible first | exact HB.out | apply pA | apply pN | apply p1 | refine below_set ?_ GE452.out | refine below_set ?_ GE462.out | refine below_set ?_ GE468.out | refine below_set ?_ GE474.out | refine below_set ?_ GE542.out | refine below_set ?_ GE548.out | refine below_set ?_ GE554.out | refine below_set ?_ GE560.out | refine below_set ?_ GE566.out | refine below_set ?_ GE572.out) | exact HB.out)):p:=h
theorem zje_ {p:Prop} (h:p:=by repeat (first | (with_reducible first | exact HB.out | apply pA | apply pN | apply p1 | refine below_set ?_ GE102.out) | exact HB.out)):p:=h
theorem zjf_ {p:Prop} (h:p:=by repeat (first | (with_reducible first | exact HB.out | apply pA | apply pN | apply p1 | refine below_set ?_ (IsS66.ge HI0.out) | refine below_set ?_ GE139.out) | exact HB.out)):p:=h
theorem zjg_ {p:Prop} (h:p:=by repeat (first | (with_reducible first | exact HB.out | apply pA | apply pN | apply p1 | refine below_set ?_ GE185.out) | exact HB.out)):p:=h
theorem zjh_ {p:Prop} (h:p:=by repeat (first | (with_reducible first | exact HB.out | apply pA | apply pN | apply p1 | refine below_set ?_ GE212.out) | exact HB.out)):p:=h
theorem zji_ {p:Prop} (h:p:=by have h_:=c80_1.out;first | omega | (simp only [List.length_append,List.length_singleton,List.length_nil,List.nil_append] at h_ ⊢;omega)):p:=h
theorem zjj_ {p:Prop} (h:p:=by repeat (first | (with_reducible first | exact HB.out | apply pA | apply pN | apply p1 | refine below_set ?_ GE402.out) | exact HB.out)):p:=h
theorem zbaa_ {p:Prop} (h:p:=by repeat (first | (with_reducible first | exact HI403.out | apply IsS66.alloc | apply IsS66.drewN | apply IsS66.drew | apply IsS66.set_1 | apply IsS66.set_2 | refine IsS66.far ?_ NB403_402.out _) | exact HI403.out)):p:=h
theorem zbab_ {p:Prop} (h:p:=by repeat (first | (with_reducible first | exact HI0.out | apply IsS66.alloc | apply IsS66.drewN | apply IsS66.drew | apply IsS66.set_1 | apply IsS66.set_2 | refine IsS66.far ?_ NB0_118.out _) | exact HI0.out)):p:=h
theorem zbac_ {p:Prop} (h:p:=by repeat (first | (with_reducible first | exact HK.out | apply KeepBut.set_ | apply keep_drewN | apply keep_drew | apply keep_alloc | refine keep_far ?_ GW118.out _) | exact HK.out)):p:=h
theorem zbad_ {p:Prop} (h:p:=by exact (keep_size (w:=w) (g:=g) (row:=none) (by repeat (first | (with_reducible first | exact HK.out | apply KeepBut.set_ | apply keep_drewN | apply keep_drew | apply keep_alloc | refine keep_far ?_ GW118.out _ | refine keep_far ?_ GW119.out _) | exact HK.out)))):p:=h
theorem zbae_ {p:Prop} (h:p:=by refine zb ?_;refine blk_put (cs:=#[.int .i64 a1,u120001]) ?_ 1 _ rfl;refine zb ?_;exact BK119.out):p:=h
theorem zbaf_ {p:Prop} (h:p:=by exact (Reps.one (show Kd.M (Kd.int .i64) _ _ _ (-1) [.int .i64 (-1)] from rfl) (Reps.one (show Kd.M (Kd.int .i64) _ _ _ 2 [.int .i64 2] from rfl) (Reps.none _ _)))):p:=h
theorem zbag_ {p:Prop} (h:p:=by repeat (first | (with_reducible first | exact HB.out | apply pA | apply pN | apply p1 | refine below_set ?_ (IsS66.ge HI186.out) | refine below_set ?_ GE185.out) | exact HB.out)):p:=h
theorem zbah_ {p:Prop} (h:p:=by repeat (first | (with_reducible first | exact HB.out | apply pA | apply pN | apply p1 | refine below_set ?_ GE193.out) | exact HB.out)):p:=h
theorem zbai_ {p:Prop} (h:p:=by exact (by repeat (first | (with_reducible first | exact HB.out | apply pA | apply pN | apply p1) | exact HB.out))):p:=h
theorem zbaj_ {p:Prop} (h:p:=by exact (below_size (by repeat (first | (with_reducible first | exact HB.out | apply pA | apply pN | apply p1) | exact HB.out)))):p:=h
theorem zbba_ {p:Prop} (h:p:=by refine zb ?_;refine blk_far ?_ NB262_280.out _;refine zb ?_;refine blk_far ?_ NB262_280.out _;refine zb ?_;exact BK262.out):p:=h
theorem zbbb_ {p:Prop} (h:p:=by refine zb ?_;refine blk_far ?_ NB263_280.out _;refine zb ?_;refine blk_far ?_ NB263_280.out _;refine zb ?_;exact BK263.out):p:=h
theorem zbbc_ {p:Prop} (h:p:=by refine zb ?_;refine blk_far ?_ NB271_280.out _;refine zb ?_;refine blk_far ?_ NB271_280.out _;refine zb ?_;exact BK271.out):p:=h
theorem zbbd_ {p:Prop} (h:p:=by repeat (first | (with_reducible first | exact HB.out | apply pA | apply pN | apply p1 | refine below_set ?_ GE316.out) | exact HB.out)):p:=h
theorem zbbe_ {p:Prop} (h:p:=by repeat (first | (with_reducible first | exact HB.out | apply pA | apply pN | apply p1 | refine below_set ?_ GE316.out | refine below_set ?_ GE317.out) | exact HB.out)):p:=h
theorem zbbf_ {p:Prop} (h:p:=by repeat (first | exact (Kd.C_below HR1_1.out (by repeat (first | (with_reducible first | exact HB.out | apply pA | apply pN | apply p1 | refine below_set ?_ GE316.out | refine below_set ?_ GE317.out | refine below_set ?_ GE318.out) | exact HB.out)))|(with_reducible refine cA ?_ _)|(with_reducible refine cN ?_ _)|(with_reducible refine cD ?_))):p:=h
theorem zbbg_ {p:Prop} (h:p:=by refine zb ?_;refine blk_put (cs:=#[.int .i64 0,.slice none 0 0]) ?_ 1 _ rfl;refine zb ?_;refine blk_put (cs:=#[.int .i64 0,.slice none 0 0]) ?_ 0 _ rfl;refine zb ?_;exact BK381.out):p:=h
theorem zbbh_ {p:Prop} (h:p:=by repeat (first | (with_reducible first | exact HB.out | apply pA | apply pN | apply p1 | refine below_set ?_ GE396.out) | exact HB.out)):p:=h
theorem zbbi_ {p:Prop} (h:p:=by refine zb ?_;refine blk_put (cs:=#[.int .i64 t404,.slice none 0 0]) ?_ 1 _ rfl;refine zb ?_;refine blk_put (cs:=#[.int .i64 0,.slice none 0 0]) ?_ 0 _ rfl;refine zb ?_;exact BK402.out):p:=h
theorem zbbj_ {p:Prop} (h:p:=by repeat (first | exact (Kd.C_below HR1.out (by repeat (first | (with_reducible first | exact HB.out | apply pA | apply pN | apply p1 | refine below_set ?_ GE431.out) | exact HB.out)))|(with_reducible refine cA ?_ _)|(with_reducible refine cN ?_ _)|(with_reducible refine cD ?_))):p:=h
theorem zbca_ {p:Prop} (h:p:=by repeat (first | exact (Kd.C_below HR1.out (by repeat (first | (with_reducible first | exact HB.out | apply pA | apply pN | apply p1 | refine below_set ?_ GE437.out) | exact HB.out)))|(with_reducible refine cA ?_ _)|(with_reducible refine cN ?_ _)|(with_reducible refine cD ?_))):p:=h
theorem zbcb_ {p:Prop} (h:p:=by repeat (first | exact (Kd.Q_reads' HO451.out).2.2 | (with_reducible refine cA ?_ _)|(with_reducible refine cN ?_ _)|(with_reducible refine cD ?_))):p:=h
theorem zbcc_ {p:Prop} (h:p:=by refine zq ?_;exact (Kd.Q_mono (Kd.Q_far (p:=⟨gb462,1,none⟩) (Kd.Q_far (p:=⟨gb462,0,none⟩) (Kd.Q_types HO451.out BK462.out (by decide)) (fun _ hk=>hk.2) (.int .i64 t457)) (fun _ hk=>hk.2) (.slice Ao53 t458.length co53)) (fun _ h_=>h_.1))):p:=h
theorem zbcd_ {p:Prop} (h:p:=by refine zq ?_;exact (Kd.Q_mono (Kd.Q_far (p:=⟨gb468,1,none⟩) (Kd.Q_far (p:=⟨gb468,0,none⟩) (Kd.Q_types HO451.out BK468.out (by decide)) (fun _ hk=>hk.2) (.int .i64 t463)) (fun _ hk=>hk.2) (.slice Ao60 t464.length co60)) (fun _ h_=>h_.1))):p:=h
theorem zbce_ {p:Prop} (h:p:=by refine zq ?_;exact (Kd.Q_mono (Kd.Q_far (p:=⟨gb474,1,none⟩) (Kd.Q_far (p:=⟨gb474,0,none⟩) (Kd.Q_types HO451.out BK474.out (by decide)) (fun _ hk=>hk.2) (.int .i64 t469)) (fun _ hk=>hk.2) (.slice Ao68 t470.length co68)) (fun _ h_=>h_.1))):p:=h
theorem zbcf_ {p:Prop} (h:p:=by refine zq ?_;exact (Kd.Q_mono (Kd.Q_far (p:=⟨gb480,1,none⟩) (Kd.Q_far (p:=⟨gb480,0,none⟩) (Kd.Q_types HO451.out BK480.out (by decide)) (fun _ hk=>hk.2) (.int .i64 t475)) (fun _ hk=>hk.2) (.slice Ao77 t476.length co77)) (fun _ h_=>h_.1))):p:=h
theorem zbcg_ {p:Prop} (h:p:=by refine zr ?_;exact (Kd.R_mono (Kd.R_far (p:=⟨gb480,1,none⟩) (Kd.R_far (p:=⟨gb480,0,none⟩) (Kd.R_types HO460.out BK480.out (by decide)) (fun _ hk=>hk.2) (.int .i64 t475)) (fun _ hk=>hk.2) (.slice Ao77 t476.length co77)) (fun _ h_=>h_.1))):p:=h
theorem zbch_ {p:Prop} (h:p:=by refine zr ?_;exact (Kd.R_mono (Kd.R_far (p:=⟨gb480,1,none⟩) (Kd.R_far (p:=⟨gb480,0,none⟩) (Kd.R_types HO466.out BK480.out (by decide)) (fun _ hk=>hk.2) (.int .i64 t475)) (fun _ hk=>hk.2) (.slice Ao77 t476.length co77)) (fun _ h_=>h_.1))):p:=h
theorem zbci_ {p:Prop} (h:p:=by refine zr ?_;exact (Kd.R_mono (Kd.R_far (p:=⟨gb480,1,none⟩) (Kd.R_far (p:=⟨gb480,0,none⟩) (Kd.R_types HO472.out BK480.out (by decide)) (fun _ hk=>hk.2) (.int .i64 t475)) (fun _ hk=>hk.2) (.slice Ao77 t476.length co77)) (fun _ h_=>h_.1))):p:=h
theorem zbcj_ {p:Prop} (h:p:=by refine zr ?_;exact (Kd.R_mono (Kd.R_far (p:=⟨gb480,1,none⟩) (Kd.R_far (p:=⟨gb480,0,none⟩) (Kd.R_types HO478.out BK480.out (by decide)) (fun _ hk=>hk.2) (.int .i64 t475)) (fun _ hk=>hk.2) (.slice Ao77 t476.length co77)) (fun _ h_=>h_.1))):p:=h
theorem zbda_ {p:Prop} (h:p:=by repeat (first | (with_reducible first | exact HB.out | apply pA | apply pN | apply p1 | refine below_set ?_ GE452.out | refine below_set ?_ GE462.out | refine below_set ?_ GE468.out | refine below_set ?_ GE474.out | refine below_set ?_ GE480.out | refine below_set ?_ GE490.out) | exact HB.out)):p:=h
theorem zbdb_ {p:Prop} (h:p:=by refine zq ?_;exact (Kd.Q_mono (Kd.Q_mono (Kd.Q_far (p:=⟨gb491,1,none⟩) (Kd.Q_far (p:=⟨gb491,0,none⟩) (Kd.Q_far (p:=⟨gb490,1,none⟩) (Kd.Q_far (p:=⟨gb490,0,none⟩) (Kd.Q_types (Kd.Q_types HO485.out BK490.out (by decide)) BK491.out (by decide)) (fun _ hk=>hk.1.2) (.int .i64 t482)) (fun _ hk=>hk.1.2) (.slice Ao88 t483.length co88)) (fun _ hk=>hk.2) (.int .i64 t486)) (fun _ hk=>hk.2) (.slice Ao95 t487.length co95)) (fun _ h_=>h_.1)) (fun _ h_=>h_.1))):p:=h
theorem zbdc_ {p:Prop} (h:p:=by refine zq ?_;exact (Kd.Q_mono (Kd.Q_mono (Kd.Q_far (p:=⟨gb491,1,none⟩) (Kd.Q_far (p:=⟨gb491,0,none⟩) (Kd.Q_far (p:=⟨gb490,1,none⟩) (Kd.Q_far (p:=⟨gb490,0,none⟩) (Kd.Q_types (Kd.Q_types HO489.out BK490.out (by decide)) BK491.out (by decide)) (fun _ hk=>hk.1.2) (.int .i64 t482)) (fun _ hk=>hk.1.2) (.slice Ao88 t483.length co88)) (fun _ hk=>hk.2) (.int .i64 t486)) (fun _ hk=>hk.2) (.slice Ao95 t487.length co95)) (fun _ h_=>h_.1)) (fun _ h_=>h_.1))):p:=h
theorem zbdd_ {p:Prop} (h:p:=by refine zq ?_;exact (Kd.Q_mono (Kd.Q_far (p:=⟨gb497,1,none⟩) (Kd.Q_far (p:=⟨gb497,0,none⟩) (Kd.Q_types HO485.out BK497.out (by decide)) (fun _ hk=>hk.2) (.int .i64 t492)) (fun _ hk=>hk.2) (.slice Ao106 t493.length co106)) (fun _ h_=>h_.1))):p:=h
theorem zbde_ {p:Prop} (h:p:=by refine zq ?_;exact (Kd.Q_mono (Kd.Q_far (p:=⟨gb497,1,none⟩) (Kd.Q_far (p:=⟨gb497,0,none⟩) (Kd.Q_types HO489.out BK497.out (by decide)) (fun _ hk=>hk.2) (.int .i64 t492)) (fun _ hk=>hk.2) (.slice Ao106 t493.length co106)) (fun _ h_=>h_.1))):p:=h
theorem zbdf_ {p:Prop} (h:p:=by refine zq ?_;exact (Kd.Q_mono (Kd.Q_far (p:=⟨gb516,1,none⟩) (Kd.Q_far (p:=⟨gb516,0,none⟩) (Kd.Q_types HO451.out BK516.out (by decide)) (fun _ hk=>hk.2) (.int .i64 t511)) (fun _ hk=>hk.2) (.slice Ao148 t512.length co148)) (fun _ h_=>h_.1))):p:=h
theorem zbdg_ {p:Prop} (h:p:=by refine zr ?_;exact (Kd.R_mono (Kd.R_far (p:=⟨gb516,1,none⟩) (Kd.R_far (p:=⟨gb516,0,none⟩) (Kd.R_types HO460.out BK516.out (by decide)) (fun _ hk=>hk.2) (.int .i64 t511)) (fun _ hk=>hk.2) (.slice Ao148 t512.length co148)) (fun _ h_=>h_.1))):p:=h
theorem zbdh_ {p:Prop} (h:p:=by refine zr ?_;exact (Kd.R_mono (Kd.R_far (p:=⟨gb516,1,none⟩) (Kd.R_far (p:=⟨gb516,0,none⟩) (Kd.R_types HO466.out BK516.out (by decide)) (fun _ hk=>hk.2) (.int .i64 t511)) (fun _ hk=>hk.2) (.slice Ao148 t512.length co148)) (fun _ h_=>h_.1))):p:=h
theorem zbdi_ {p:Prop} (h:p:=by refine zr ?_;exact (Kd.R_mono (Kd.R_far (p:=⟨gb516,1,none⟩) (Kd.R_far (p:=⟨gb516,0,none⟩) (Kd.R_types HO472.out BK516.out (by decide)) (fun _ hk=>hk.2) (.int .i64 t511)) (fun _ hk=>hk.2) (.slice Ao148 t512.length co148)) (fun _ h_=>h_.1))):p:=h
theorem zbdj_ {p:Prop} (h:p:=by refine zr ?_;exact (Kd.R_mono (Kd.R_far (p:=⟨gb516,1,none⟩) (Kd.R_far (p:=⟨gb516,0,none⟩) (Kd.R_types HO478.out BK516.out (by decide)) (fun _ hk=>hk.2) (.int .i64 t511)) (fun _ hk=>hk.2) (.slice Ao148 t512.length co148)) (fun _ h_=>h_.1))):p:=h
theorem zbea_ {p:Prop} (h:p:=by refine zq ?_;exact (Kd.Q_mono (Kd.Q_far (p:=⟨gb516,1,none⟩) (Kd.Q_far (p:=⟨gb516,0,none⟩) (Kd.Q_types HO485.out BK516.out (by decide)) (fun _ hk=>hk.2) (.int .i64 t511)) (fun _ hk=>hk.2) (.slice Ao148 t512.length co148)) (fun _ h_=>h_.1))):p:=h
theorem zbeb_ {p:Prop} (h:p:=by refine zq ?_;exact (Kd.Q_mono (Kd.Q_far (p:=⟨gb516,1,none⟩) (Kd.Q_far (p:=⟨gb516,0,none⟩) (Kd.Q_types HO489.out BK516.out (by decide)) (fun _ hk=>hk.2) (.int .i64 t511)) (fun _ hk=>hk.2) (.slice Ao148 t512.length co148)) (fun _ h_=>h_.1))):p:=h
theorem zbec_ {p:Prop} (h:p:=by refine zr ?_;exact (Kd.R_mono (Kd.R_far (p:=⟨gb516,1,none⟩) (Kd.R_far (p:=⟨gb516,0,none⟩) (Kd.R_types HO495.out BK516.out (by decide)) (fun _ hk=>hk.2) (.int .i64 t511)) (fun _ hk=>hk.2) (.slice Ao148 t512.length co148)) (fun _ h_=>h_.1))):p:=h
theorem zbed_ {p:Prop} (h:p:=by refine zr ?_;exact (Kd.R_mono (Kd.R_far (p:=⟨gb516,1,none⟩) (Kd.R_far (p:=⟨gb516,0,none⟩) (Kd.R_types HO501.out BK516.out (by decide)) (fun _ hk=>hk.2) (.int .i64 t511)) (fun _ hk=>hk.2) (.slice Ao148 t512.length co148)) (fun _ h_=>h_.1))):p:=h
theorem zbee_ {p:Prop} (h:p:=by refine zr ?_;exact (Kd.R_mono (Kd.R_far (p:=⟨gb516,1,none⟩) (Kd.R_far (p:=⟨gb516,0,none⟩) (Kd.R_types HO508.out BK516.out (by decide)) (fun _ hk=>hk.2) (.int .i64 t511)) (fun _ hk=>hk.2) (.slice Ao148 t512.length co148)) (fun _ h_=>h_.1))):p:=h
theorem zbef_ {p:Prop} (h:p:=by refine zr ?_;exact (Kd.R_mono (Kd.R_far (p:=⟨gb516,1,none⟩) (Kd.R_far (p:=⟨gb516,0,none⟩) (Kd.R_types HO514.out BK516.out (by decide)) (fun _ hk=>hk.2) (.int .i64 t511)) (fun _ hk=>hk.2) (.slice Ao148 t512.length co148)) (fun _ h_=>h_.1))):p:=h
theorem zbeg_ {p:Prop} (h:p:=by refine zq ?_;exact (Kd.Q_mono (Kd.Q_far (p:=⟨gb542,1,none⟩) (Kd.Q_far (p:=⟨gb542,0,none⟩) (Kd.Q_types HO_463001.out BK542.out (by decide)) (fun _ hk=>hk.2) (.int .i64 t537)) (fun _ hk=>hk.2) (.slice Ao292 t538.length co292)) (fun _ h_=>h_.1))):p:=h
theorem zbeh_ {p:Prop} (h:p:=by refine zq ?_;exact (Kd.Q_mono (Kd.Q_far (p:=⟨gb548,1,none⟩) (Kd.Q_far (p:=⟨gb548,0,none⟩) (Kd.Q_types HO_475001.out BK548.out (by decide)) (fun _ hk=>hk.2) (.int .i64 t543)) (fun _ hk=>hk.2) (.slice Ao305 t544.length co305)) (fun _ h_=>h_.1))):p:=h
theorem zbei_ {p:Prop} (h:p:=by refine zq ?_;exact (Kd.Q_mono (Kd.Q_far (p:=⟨gb554,1,none⟩) (Kd.Q_far (p:=⟨gb554,0,none⟩) (Kd.Q_types HO_453001.out BK554.out (by decide)) (fun _ hk=>hk.2) (.int .i64 t549)) (fun _ hk=>hk.2) (.slice Ao318 t550.length co318)) (fun _ h_=>h_.1))):p:=h
theorem zbej_ {p:Prop} (h:p:=by refine zq ?_;exact (Kd.Q_mono (Kd.Q_far (p:=⟨gb554,1,none⟩) (Kd.Q_far (p:=⟨gb554,0,none⟩) (Kd.Q_types HO_463001.out BK554.out (by decide)) (fun _ hk=>hk.2) (.int .i64 t549)) (fun _ hk=>hk.2) (.slice Ao318 t550.length co318)) (fun _ h_=>h_.1))):p:=h
theorem zbfa_ {p:Prop} (h:p:=by refine zq ?_;exact (Kd.Q_mono (Kd.Q_far (p:=⟨gb560,1,none⟩) (Kd.Q_far (p:=⟨gb560,0,none⟩) (Kd.Q_types HO_453001.out BK560.out (by decide)) (fun _ hk=>hk.2) (.int .i64 t555)) (fun _ hk=>hk.2) (.slice Ao332 t556.length co332)) (fun _ h_=>h_.1))):p:=h
theorem zbfb_ {p:Prop} (h:p:=by refine zq ?_;exact (Kd.Q_mono (Kd.Q_far (p:=⟨gb560,1,none⟩) (Kd.Q_far (p:=⟨gb560,0,none⟩) (Kd.Q_types HO_463001.out BK560.out (by decide)) (fun _ hk=>hk.2) (.int .i64 t555)) (fun _ hk=>hk.2) (.slice Ao332 t556.length co332)) (fun _ h_=>h_.1))):p:=h
theorem zbfc_ {p:Prop} (h:p:=by refine zq ?_;exact (Kd.Q_mono (Kd.Q_far (p:=⟨gb566,1,none⟩) (Kd.Q_far (p:=⟨gb566,0,none⟩) (Kd.Q_types HO_453001.out BK566.out (by decide)) (fun _ hk=>hk.2) (.int .i64 t561)) (fun _ hk=>hk.2) (.slice Ao346 t562.length co346)) (fun _ h_=>h_.1))):p:=h
theorem zbfd_ {p:Prop} (h:p:=by refine zq ?_;exact (Kd.Q_mono (Kd.Q_far (p:=⟨gb566,1,none⟩) (Kd.Q_far (p:=⟨gb566,0,none⟩) (Kd.Q_types HO_469001.out BK566.out (by decide)) (fun _ hk=>hk.2) (.int .i64 t561)) (fun _ hk=>hk.2) (.slice Ao346 t562.length co346)) (fun _ h_=>h_.1))):p:=h
theorem zbfe_ {p:Prop} (h:p:=by refine zq ?_;exact (Kd.Q_mono (Kd.Q_far (p:=⟨gb572,1,none⟩) (Kd.Q_far (p:=⟨gb572,0,none⟩) (Kd.Q_types HO_453001.out BK572.out (by decide)) (fun _ hk=>hk.2) (.int .i64 t567)) (fun _ hk=>hk.2) (.slice Ao361 t568.length co361)) (fun _ h_=>h_.1))):p:=h
theorem zbff_ {p:Prop} (h:p:=by refine zq ?_;exact (Kd.Q_mono (Kd.Q_far (p:=⟨gb572,1,none⟩) (Kd.Q_far (p:=⟨gb572,0,none⟩) (Kd.Q_types HO_469001.out BK572.out (by decide)) (fun _ hk=>hk.2) (.int .i64 t567)) (fun _ hk=>hk.2) (.slice Ao361 t568.length co361)) (fun _ h_=>h_.1))):p:=h
theorem zbfg_ {p:Prop} (h:p:=by repeat (first | exact (Kd.Q_reads' HO_453001.out).2.2 | (with_reducible refine cA ?_ _)|(with_reducible refine cN ?_ _)|(with_reducible refine cD ?_))):p:=h
def errW:Option Int→Value
 | none => .nilIface
 | some c => .iface 0 (.int .i64 c)
theorem errW_none:errW none = .nilIface:=rfl
theorem errW_some (c:Int):errW (some c) = .iface 0 (.int .i64 c):=rfl
theorem info3:(Tryd.prog.info? 3).map (fun i=>(i.zero,i.size,i.bytes))=some (some (.int .i64 0),1,8):=by kernel_rfl
theorem info5:(Tryd.prog.info? 5).map (fun i=>(i.zero,i.size,i.bytes))=some (some (.int .u8 0),1,1):=by kernel_rfl
theorem info9:(Tryd.prog.info? 9).map (fun i=>(i.zero,i.size,i.bytes))=some (some (.string ⟨#[]⟩),1,16):=by kernel_rfl
theorem info24:(Tryd.prog.info? 24).map (fun i=>(i.zero,i.size,i.bytes))=some (some (.slice none 0 0),1,24):=by kernel_rfl
theorem info26:(Tryd.prog.info? 26).map (fun i=>(i.zero,i.size,i.bytes))=some (some (.agg #[(.int .i64 0),(.slice none 0 0)]),2,32):=by kernel_rfl
theorem info28:(Tryd.prog.info? 28).map (fun i=>(i.zero,i.size,i.bytes))=some (some (.slice none 0 0),1,24):=by kernel_rfl
theorem info30:(Tryd.prog.info? 30).map (fun i=>(i.zero,i.size,i.bytes))=some (some (.agg #[(.int .i64 0),(.slice none 0 0),(.int .i64 0)]),3,40):=by kernel_rfl
theorem info70:(Tryd.prog.info? 70).map (fun i=>(i.zero,i.size,i.bytes))=some (some (.agg #[(.int .i64 0),(.int .i64 0),(.int .i64 0)]),3,24):=by kernel_rfl
structure S70 where
 f0:Int
 f1:Int
 f2:Int
def z70:S70:=⟨(0:Int),(0:Int),(0:Int)⟩
def k70:Kd S70:=Kd.iso (Kd.pair (Kd.int .i64) (Kd.pair (Kd.int .i64) (Kd.int .i64))) (fun x:S70=>(x.f0,x.f1,x.f2))
theorem k70_open {w:World} {x:S70} {cs:List Value} (h:k70.K w x cs):cs=[.int .i64 x.f0,.int .i64 x.f1,.int .i64 x.f2]:=by
 obtain ⟨_,_,rfl,rfl,⟨_,_,rfl,rfl,rfl⟩⟩:=h
 exact rfl
theorem k70_openM {w:World} {base:Nat} {ok:Nat→Prop} {x:S70} {cs:List Value} (h:k70.M w base ok x cs):cs=[.int .i64 x.f0,.int .i64 x.f1,.int .i64 x.f2]:=by
 obtain ⟨_,_,rfl,rfl,⟨_,_,rfl,rfl,rfl⟩⟩:=h
 exact rfl
theorem k70_mk (w:World) (x:S70)  : k70.K w x [.int .i64 x.f0,.int .i64 x.f1,.int .i64 x.f2]:=⟨[.int .i64 x.f0],[.int .i64 x.f1,.int .i64 x.f2],rfl,rfl,⟨[.int .i64 x.f1],[.int .i64 x.f2],rfl,rfl,rfl⟩⟩
theorem k70_mkM (w:World) (base:Nat) (ok:Nat→Prop) (x:S70)  : k70.M w base ok x [.int .i64 x.f0,.int .i64 x.f1,.int .i64 x.f2]:=⟨[.int .i64 x.f0],[.int .i64 x.f1,.int .i64 x.f2],rfl,rfl,⟨[.int .i64 x.f1],[.int .i64 x.f2],rfl,rfl,rfl⟩⟩
def rd_T70 (xs:List S70) (i:Int):S70:=xs.getD i.toNat z70
theorem at_T70 {w:World} {A:Option Addr} {n:Nat} {xs:List S70} (h:Kd.C k70 w A n xs) (i:Int) (h0:0≤i) (h1:i<n):∃ ad ,A=some ad∧w.cell? (ad.add (i.toNat * 3))=some (.int .i64 (rd_T70 xs i).f0)∧w.cell? ⟨(ad.add (i.toNat * 3)).block,(ad.add (i.toNat * 3)).off+1,none⟩=some (.int .i64 (rd_T70 xs i).f1)∧w.cell? ⟨(ad.add (i.toNat * 3)).block,(ad.add (i.toNat * 3)).off+2,none⟩=some (.int .i64 (rd_T70 xs i).f2):=by
 obtain ⟨ad,c,e,_,hK,hc0⟩:=Kd.C_get h z70 i h0 h1
 have hc:∀ j u,c[j]?=some u→w.cell? (ad.add (i.toNat * 3+j))=some u:=hc0
 obtain rfl:=k70_open hK
 exact ⟨ad,e,hc 0 _ rfl,by rw [← add_field _ _ 1 (by omega)];exact hc 1 _ rfl,by rw [← add_field _ _ 2 (by omega)];exact hc 2 _ rfl⟩
def rd_L5 (xs:List (List Int)) (i:Int):(List Int):=xs.getD i.toNat ([]:List Int)
theorem at_L5 {w:World} {A:Option Addr} {n:Nat} {xs:List (List Int)} (h:Kd.C (Kd.slice 3 (Kd.int .i64)) w A n xs) (i:Int) (h0:0≤i) (h1:i<n):∃ ad A0 c0,A=some ad∧w.cell? (ad.add i.toNat)=some (.slice A0 (rd_L5 xs i).length c0)∧(rd_L5 xs i).length≤c0∧(Kd.int .i64).C w A0 (rd_L5 xs i).length (rd_L5 xs i):=by
 obtain ⟨ad,c,e,_,hK,hc0⟩:=Kd.C_get h ([]:List Int) i h0 h1
 have hc:∀ j u,c[j]?=some u→w.cell? (ad.add (i.toNat * 1+j))=some u:=hc0
 obtain ⟨A0,c0,rfl,l0,g0⟩:=hK
 exact ⟨ad,A0,c0,e,by have hq:=hc 0 _ rfl;rwa [Nat.mul_one,Nat.add_zero] at hq,l0,g0⟩
structure S26 where
 f0:Int
 f1:(List Int)
def z26:S26:=⟨(0:Int),([]:List Int)⟩
def k26:Kd S26:=Kd.iso (Kd.pair (Kd.int .i64) (Kd.slice 3 (Kd.int .i64))) (fun x:S26=>(x.f0,x.f1))
theorem k26_open {w:World} {x:S26} {cs:List Value} (h:k26.K w x cs):∃ A1 c1,cs=[.int .i64 x.f0,.slice A1 x.f1.length c1]∧x.f1.length≤c1∧(Kd.int .i64).C w A1 x.f1.length x.f1:=by
 obtain ⟨_,_,rfl,rfl,⟨A1,c1,rfl,l1,g1⟩⟩:=h
 exact ⟨A1,c1,rfl,l1,g1⟩
theorem k26_openM {w:World} {base:Nat} {ok:Nat→Prop} {x:S26} {cs:List Value} (h:k26.M w base ok x cs):∃ v1,cs=[.int .i64 x.f0,v1]∧(Kd.int .i64).R 3 w base ok v1 x.f1:=by
 obtain ⟨_,_,rfl,rfl,⟨v1,rfl,g1⟩⟩:=h
 exact ⟨v1,rfl,g1⟩
theorem k26_mk (w:World) (x:S26) {A1:Option Addr} {c1:Nat} (l1:x.f1.length≤c1) (g1:(Kd.int .i64).C w A1 x.f1.length x.f1):k26.K w x [.int .i64 x.f0,.slice A1 x.f1.length c1]:=⟨[.int .i64 x.f0],[.slice A1 x.f1.length c1],rfl,rfl,⟨A1,c1,rfl,l1,g1⟩⟩
theorem k26_mkM (w:World) (base:Nat) (ok:Nat→Prop) (x:S26) {v1:Value} (g1:(Kd.int .i64).R 3 w base ok v1 x.f1):k26.M w base ok x [.int .i64 x.f0,v1]:=⟨[.int .i64 x.f0],[v1],rfl,rfl,⟨v1,rfl,g1⟩⟩
def rd_T26 (xs:List S26) (i:Int):S26:=xs.getD i.toNat z26
theorem at_T26 {w:World} {A:Option Addr} {n:Nat} {xs:List S26} (h:Kd.C k26 w A n xs) (i:Int) (h0:0≤i) (h1:i<n):∃ ad A1 c1,A=some ad∧w.cell? (ad.add (i.toNat * 2))=some (.int .i64 (rd_T26 xs i).f0)∧w.cell? ⟨(ad.add (i.toNat * 2)).block,(ad.add (i.toNat * 2)).off+1,none⟩=some (.slice A1 (rd_T26 xs i).f1.length c1)∧(rd_T26 xs i).f1.length≤c1∧(Kd.int .i64).C w A1 (rd_T26 xs i).f1.length (rd_T26 xs i).f1:=by
 obtain ⟨ad,c,e,_,hK,hc0⟩:=Kd.C_get h z26 i h0 h1
 have hc:∀ j u,c[j]?=some u→w.cell? (ad.add (i.toNat * 2+j))=some u:=hc0
 obtain ⟨A1,c1,rfl,l1,g1⟩:=k26_open hK
 exact ⟨ad,A1,c1,e,hc 0 _ rfl,by rw [← add_field _ _ 1 (by omega)];exact hc 1 _ rfl,l1,g1⟩
def rd_L7 (xs:List (List S70)) (i:Int):(List S70):=xs.getD i.toNat ([]:List S70)
theorem at_L7 {w:World} {A:Option Addr} {n:Nat} {xs:List (List S70)} (h:Kd.C (Kd.slice 70 k70) w A n xs) (i:Int) (h0:0≤i) (h1:i<n):∃ ad A0 c0,A=some ad∧w.cell? (ad.add i.toNat)=some (.slice A0 (rd_L7 xs i).length c0)∧(rd_L7 xs i).length≤c0∧k70.C w A0 (rd_L7 xs i).length (rd_L7 xs i):=by
 obtain ⟨ad,c,e,_,hK,hc0⟩:=Kd.C_get h ([]:List S70) i h0 h1
 have hc:∀ j u,c[j]?=some u→w.cell? (ad.add (i.toNat * 1+j))=some u:=hc0
 obtain ⟨A0,c0,rfl,l0,g0⟩:=hK
 exact ⟨ad,A0,c0,e,by have hq:=hc 0 _ rfl;rwa [Nat.mul_one,Nat.add_zero] at hq,l0,g0⟩
structure S30 where
 f0:Int
 f1:(List S70)
 f2:Int
def z30:S30:=⟨(0:Int),([]:List S70),(0:Int)⟩
def k30:Kd S30:=Kd.iso (Kd.pair (Kd.int .i64) (Kd.pair (Kd.slice 70 k70) (Kd.int .i64))) (fun x:S30=>(x.f0,x.f1,x.f2))
theorem k30_open {w:World} {x:S30} {cs:List Value} (h:k30.K w x cs):∃ A1 c1,cs=[.int .i64 x.f0,.slice A1 x.f1.length c1,.int .i64 x.f2]∧x.f1.length≤c1∧k70.C w A1 x.f1.length x.f1:=by
 obtain ⟨_,_,rfl,rfl,⟨_,_,rfl,⟨A1,c1,rfl,l1,g1⟩,rfl⟩⟩:=h
 exact ⟨A1,c1,rfl,l1,g1⟩
theorem k30_openM {w:World} {base:Nat} {ok:Nat→Prop} {x:S30} {cs:List Value} (h:k30.M w base ok x cs):∃ v1,cs=[.int .i64 x.f0,v1,.int .i64 x.f2]∧k70.R 70 w base ok v1 x.f1:=by
 obtain ⟨_,_,rfl,rfl,⟨_,_,rfl,⟨v1,rfl,g1⟩,rfl⟩⟩:=h
 exact ⟨v1,rfl,g1⟩
theorem k30_mk (w:World) (x:S30) {A1:Option Addr} {c1:Nat} (l1:x.f1.length≤c1) (g1:k70.C w A1 x.f1.length x.f1):k30.K w x [.int .i64 x.f0,.slice A1 x.f1.length c1,.int .i64 x.f2]:=⟨[.int .i64 x.f0],[.slice A1 x.f1.length c1,.int .i64 x.f2],rfl,rfl,⟨[.slice A1 x.f1.length c1],[.int .i64 x.f2],rfl,⟨A1,c1,rfl,l1,g1⟩,rfl⟩⟩
theorem k30_mkM (w:World) (base:Nat) (ok:Nat→Prop) (x:S30) {v1:Value} (g1:k70.R 70 w base ok v1 x.f1):k30.M w base ok x [.int .i64 x.f0,v1,.int .i64 x.f2]:=⟨[.int .i64 x.f0],[v1,.int .i64 x.f2],rfl,rfl,⟨[v1],[.int .i64 x.f2],rfl,⟨v1,rfl,g1⟩,rfl⟩⟩
def rd_T30 (xs:List S30) (i:Int):S30:=xs.getD i.toNat z30
theorem at_T30 {w:World} {A:Option Addr} {n:Nat} {xs:List S30} (h:Kd.C k30 w A n xs) (i:Int) (h0:0≤i) (h1:i<n):∃ ad A1 c1,A=some ad∧w.cell? (ad.add (i.toNat * 3))=some (.int .i64 (rd_T30 xs i).f0)∧w.cell? ⟨(ad.add (i.toNat * 3)).block,(ad.add (i.toNat * 3)).off+1,none⟩=some (.slice A1 (rd_T30 xs i).f1.length c1)∧w.cell? ⟨(ad.add (i.toNat * 3)).block,(ad.add (i.toNat * 3)).off+2,none⟩=some (.int .i64 (rd_T30 xs i).f2)∧(rd_T30 xs i).f1.length≤c1∧k70.C w A1 (rd_T30 xs i).f1.length (rd_T30 xs i).f1:=by
 obtain ⟨ad,c,e,_,hK,hc0⟩:=Kd.C_get h z30 i h0 h1
 have hc:∀ j u,c[j]?=some u→w.cell? (ad.add (i.toNat * 3+j))=some u:=hc0
 obtain ⟨A1,c1,rfl,l1,g1⟩:=k30_open hK
 exact ⟨ad,A1,c1,e,hc 0 _ rfl,by rw [← add_field _ _ 1 (by omega)];exact hc 1 _ rfl,by rw [← add_field _ _ 2 (by omega)];exact hc 2 _ rfl,l1,g1⟩
end Go.Proofs.YtlnhpkjioppbiaaDoor.QFnTables
