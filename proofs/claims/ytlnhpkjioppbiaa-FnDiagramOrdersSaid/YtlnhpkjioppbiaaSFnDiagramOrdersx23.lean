/- Functions of FnDiagramOrders, each as a Lean function, with the proof that the Go code comes to its answers. -/
import Derived.Test.YtlnhpkjioppbiaaSFnDiagramOrdersx3
import Derived.Test.YtlnhpkjioppbiaaSFnDiagramOrdersx8
import Derived.Test.YtlnhpkjioppbiaaSFnDiagramOrdersx12
import Derived.Test.YtlnhpkjioppbiaaSFnDiagramOrdersx21
import Derived.Test.YtlnhpkjioppbiaaSFnDiagramOrdersx6
namespace Go.Proofs.Ytlnhpkjioppbiaa.QFnDiagramOrders
open Go.RowKit Go.Proofs.YtlnhpkjioppbiaaW.PrintWords Go.Proofs.YtlnhpkjioppbiaaW.PrintLast Go.Proofs.YtlnhpkjioppbiaaW.PrintMore
open Go.Proofs.YtlnhpkjioppbiaaW.PrintWords renaming pw_below_drewN→pN,below_drew1→p1,below_alloc→pA
open Go.Proofs.YtlnhpkjioppbiaaW.PrintWords.Kd renaming R_alloc→kA,R_drewN→kN,R_drew→kD,Q_alloc→qA,Q_drewN→qN,Q_drew→qD,C_alloc→cA,C_drewN→cN,C_drew→cD
open Go.Proofs.YtlnhpkjioppbiaaW.PrintWords.Aside0 renaming mk→aM
open List renaming setIfInBounds_toArray→sI,set_cons_zero→s0,set_cons_succ→sS,map_toArray→mT,length_take→lT,length_drop→lD,map_cons→mC,map_nil→mN
open Option renaming bind_eq_some_iff→oB,bind_some→oS
attribute [local go_sem] max2_int min2_int max_two min_two max_three min_three max_four min_four
set_option linter.unusedVariables false
set_option linter.unusedSimpArgs false
mutual
def impl_reordered.l0:Nat→List Int→Int→Int→Int→List Int→Int→List Int→Option (Int×List Int)
 | 0,_,_,_,_,_,_,_=>none
 | k+1,x1,x19,x20,x328000,x328001,x333000,x333001=>if x20<x19 then (impl_reordered.l1 k x1 x20 0 x19 x20 x1 (x1.length:Int) 0 x328000 x328001 x333000 x333001) else (some (x333000,x333001))
def impl_reordered.l1:Nat→List Int→Int→Int→Int→Int→List Int→Int→Int→Int→List Int→Int→List Int→Option (Int×List Int)
 | 0,_,_,_,_,_,_,_,_,_,_,_,_=>none
 | k+1,x1,x6,x7,x19,x20,x23,x24,x25,x328000,x328001,x333000,x333001=>if x25<x24 then (if 0≤x25 then (if x25<(x23.length:Int) then (if 0≤(rd x23 x25) then (impl_reordered.l1 k x1 x6 (Go.bits .or .i64 x7 (shl .i64 (Go.bits .and .i64 (shr .i64 x6 x25) 1) (rd x23 x25))) x19 x20 x23 x24 (wrap64 (x25+1)) x328000 x328001 x333000 x333001) else (none)) else (none)) else (none)) else (if 0≤x7 then (if x7<(x328001.length:Int) then (if 0≤x6 then (if x6<(x333001.length:Int) then (impl_reordered.l0 k x1 x19 (wrap64 (x20+1)) x328000 x328001 x333000 (x333001.set (x6:Int).toNat (rd x328001 x7))) else (none)) else (none)) else (none)) else (none))
end
def impl_reordered.f (k:Nat) (a0_0:Int) (l0_1:List Int) (l1:List Int):Option (Int×List Int):=if 0≤(l0_1.length:Int) then (if ((l0_1.length:Int):Int).toNat≤35184372088832 then ((some (List.replicate ((l0_1.length:Int):Int).toNat 0:List Int)).bind fun y329=>(impl_reordered.l0 k l1 (y329.length:Int) 0 a0_0 l0_1 a0_0 y329)) else (none)) else (none)
theorem impl_reordered.mono_l:∀ k,(∀ y0 y1 y2 y3 y4 y5 y6,LeO (impl_reordered.l0 k y0 y1 y2 y3 y4 y5 y6) (impl_reordered.l0 (k+1) y0 y1 y2 y3 y4 y5 y6))∧(∀ y0 y1 y2 y3 y4 y5 y6 y7 y8 y9 y10 y11,LeO (impl_reordered.l1 k y0 y1 y2 y3 y4 y5 y6 y7 y8 y9 y10 y11) (impl_reordered.l1 (k+1) y0 y1 y2 y3 y4 y5 y6 y7 y8 y9 y10 y11))
 | 0=>⟨fun _ _ _ _ _ _ _ r h=>by simp [impl_reordered.l0] at h,fun _ _ _ _ _ _ _ _ _ _ _ _ r h=>by simp [impl_reordered.l1] at h⟩
 | k+1=>by
  obtain ⟨ih0,ih1⟩:=impl_reordered.mono_l k
  refine ⟨?_,?_⟩
  ·intro y0 y1 y2 y3 y4 y5 y6
   unfold impl_reordered.l0
   repeat' first
   | (with_reducible exact ih0 _ _ _ _ _ _ _)
   | (with_reducible exact ih1 _ _ _ _ _ _ _ _ _ _ _ _)
   | (with_reducible exact LeO.refl _)
   | (with_reducible exact LeO.none _)
   | (with_reducible refine LeO.ite ?_ ?_)
   | (with_reducible refine LeO.bind ?_ (fun _=>?_))
   | exact ih0 _ _ _ _ _ _ _
   | exact ih1 _ _ _ _ _ _ _ _ _ _ _ _
   | exact LeO.none _
   | refine LeO.ite ?_ ?_
   | refine LeO.bind ?_ (fun _=>?_)
  ·intro y0 y1 y2 y3 y4 y5 y6 y7 y8 y9 y10 y11
   unfold impl_reordered.l1
   repeat' first
   | (with_reducible exact ih0 _ _ _ _ _ _ _)
   | (with_reducible exact ih1 _ _ _ _ _ _ _ _ _ _ _ _)
   | (with_reducible exact LeO.refl _)
   | (with_reducible exact LeO.none _)
   | (with_reducible refine LeO.ite ?_ ?_)
   | (with_reducible refine LeO.bind ?_ (fun _=>?_))
   | exact ih0 _ _ _ _ _ _ _
   | exact ih1 _ _ _ _ _ _ _ _ _ _ _ _
   | exact LeO.none _
   | refine LeO.ite ?_ ?_
   | refine LeO.bind ?_ (fun _=>?_)
theorem impl_reordered.mono:∀ a0 a1 a2 k,LeO (impl_reordered.f k a0 a1 a2) (impl_reordered.f (k+1) a0 a1 a2):=by
 intro a0 a1 a2 k
 obtain ⟨ih0,ih1⟩:=impl_reordered.mono_l k
 unfold impl_reordered.f
 repeat' first
   | (with_reducible exact ih0 _ _ _ _ _ _ _)
   | (with_reducible exact ih1 _ _ _ _ _ _ _ _ _ _ _ _)
   | (with_reducible exact LeO.refl _)
   | (with_reducible exact LeO.none _)
   | (with_reducible refine LeO.ite ?_ ?_)
   | (with_reducible refine LeO.bind ?_ (fun _=>?_))
   | exact ih0 _ _ _ _ _ _ _
   | exact ih1 _ _ _ _ _ _ _ _ _ _ _ _
   | exact LeO.none _
   | refine LeO.ite ?_ ?_
   | refine LeO.bind ?_ (fun _=>?_)
def impl_reordered.T1:Bool×List (List Nat×List Nat):=(true,[([],[]),([0],[0]),([],[]),([2],[2]),([3],[3]),([4,4],[4]),([1,5],[1,5]),([],[]),([7,6,0,1,2,3,4,5,6,7],[6,7])])
def impl_reordered.B1:List Nat:=[0,1,0,4,12,28,63,0,255]
theorem impl_reordered.tab1:rtab .any (opsOf Try.f75 1)=impl_reordered.T1:=by kernel_rfl
theorem impl_reordered.bits1:waitsOk impl_reordered.T1.2 impl_reordered.B1=true:=by kernel_rfl
def impl_reordered.T11:Bool×List (List Nat×List Nat):=(true,[([],[]),([0],[0]),([],[]),([],[]),([3],[3]),([],[]),([4,5],[4,5]),([6],[6]),([1,2,0,1,2,3,4,5,6,7],[1,2]),([8,7,0,1,2,3,4,5,6,7],[7,8])])
def impl_reordered.B11:List Nat:=[0,1,0,0,8,0,56,120,255,511]
theorem impl_reordered.tab11:rtab .any (opsOf Try.f75 11)=impl_reordered.T11:=by kernel_rfl
theorem impl_reordered.bits11:waitsOk impl_reordered.T11.2 impl_reordered.B11=true:=by kernel_rfl
set_option maxHeartbeats 8000000 in
set_option maxRecDepth 100000 in
theorem impl_reordered.calls (k:Nat) (a0_0:Int) (A0_1:Option Addr) (c0_1:Nat) (l0_1:List Int) (A1:Option Addr) (c1:Nat) (l1:List Int) (r1:Int) (r2:List Int) (w:World) (hr0_1:Kd.C (Kd.int .i64) w A0_1 l0_1.length l0_1) (hc0_1:l0_1.length≤c0_1) (hr1:Kd.C (Kd.int .i64) w A1 l1.length l1) (hc1:l1.length≤c1) (h:impl_reordered.f k a0_0 l0_1 l1=some (r1,r2)) :
  Calls Try.prog 75 #[.agg #[.int .i64 a0_0,.slice A0_1 l0_1.length c0_1],.slice A1 l1.length c1] w fun e w' => ∃ v1_:Value,e = .returned (.agg #[.int .i64 r1,v1_])∧Kd.R (Kd.int .i64) 3 w' w.heap.size (fun _=>True) v1_ r2∧Below w.heap.size w w':=by
 have hu41:=Try.underlying41
 have HR0_1:=aM hr0_1
 have HC0_1:=aM hc0_1
 clear hr0_1 hc0_1
 have HR1:=aM hr1
 have HC1:=aM hc1
 clear hr1 hc1
 have HB:=aM (Below.refl w.heap.size w)
 have H:(if 0≤(l0_1.length:Int) then (if ((l0_1.length:Int):Int).toNat≤35184372088832 then ((some (List.replicate ((l0_1.length:Int):Int).toNat 0:List Int)).bind fun y329=>(impl_reordered.l0 k l1 (y329.length:Int) 0 a0_0 l0_1 a0_0 y329)) else (none)) else (none))=some (r1,r2):=h
 clear h
 by_cases c3:0≤(l0_1.length:Int)
 ·rw [if_pos c3] at H
  have c3b0:=eq_true c3;have c3b1:=decide_eq_true c3;clear c3
  by_cases c4:((l0_1.length:Int):Int).toNat≤35184372088832
  ·rw [if_pos c4] at H
   have c4b0:=eq_true c4;have c4b1:=decide_eq_true c4;clear c4;obtain ⟨y329,hy329⟩:∃ y_:List Int,y_=(List.replicate ((l0_1.length:Int):Int).toNat 0):=⟨_,rfl⟩;replace H:(impl_reordered.l0 k l1 (y329.length:Int) 0 a0_0 l0_1 a0_0 y329)=some (r1,r2):=q3y_ hy329 H
   have Ny329:=aM hy329;clear hy329;have H':=aM H;clear H
   go_enter Try.func75,Try.ntmps75
   (try go_wp2_with (first | ((with_reducible refine gate_dst (N:=2) rfl ?_);refine box_event ?hg (N:=2) ?hd (cs:=#[.int .i64 a0_0,.slice A0_1 l0_1.length c0_1]) (t:=41) ?hr ?_;(case hd=>rfl);(case hg=>rfl);(case hr=>exact za_);intro gb327 hg w5 hbox hb;have n_:=z (below_step zb_ hb)<|z (hbox)<|z ((by rw [hg];exact (below_size zb_):w.heap.size≤gb327))<|z1 ((by rw [hg];exact (below_size zb_):w.heap.size≤gb327));clear HB;obtain ⟨HB,BK327,GW327,GE327⟩:=n_;clear hb hbox hg)|((with_reducible refine gate_dst (N:=4) rfl ?_);refine box_event ?hg (N:=4) ?hd (cs:=#[.int .i64 0,.slice none 0 0]) (t:=41) ?hr ?_;(case hd=>rfl);(case hg=>rfl);(case hr=>exact za_);intro gb328 hg w6 hbox hb;have n_:=z (blk_below (zb BK327.out) hb)<|z (below_step zbah_ hb)<|z (hbox)<|z ((by rw [hg];exact (below_size zbah_):w.heap.size≤gb328))<|z ((by rw [hg];exact (below_size zbah_):w.heap.size≤gb328))<|z ((by rw [hg];exact Nat.ne_of_lt (blk_lt (zb BK327.out)):gb327≠gb328))<|z1 ((by rw [hg];exact Nat.ne_of_gt (blk_lt (zb BK327.out)):gb328≠gb327));clear BK327 HB;obtain ⟨BK327,HB,BK328,GW328,GE328,NB327_328,NB328_327⟩:=n_;clear hb hbox hg)));have n_:=z (blk_drew BK327.out)<|z (blk_drew BK328.out)<|z1 (p1 HB.out)
   clear BK327 BK328 HB;obtain ⟨BK327,BK328,HB⟩:=n_
   refine start_ (n:=9) (S:=fun w'=>w'.cell? ⟨gb327,0,none⟩=some (.int .i64 a0_0)∧w'.cell? ⟨gb327,1,none⟩=some (.slice A0_1 l0_1.length c0_1)) (ds:=[]) #[fi,fi,fi,fi,fi,fi,fi,fi,fi] (by kernel_rfl) rfl rfl ⟨(blk_cell BK327.out 0).trans rfl,(blk_cell BK327.out 1).trans rfl⟩ (fun hHeld=>?_);refine with_tabW impl_reordered.tab1 impl_reordered.bits1 (fun HT_ HW_=>?_)
   generalize w6.drew=w7 at BK327 BK328 HB hHeld ⊢;refine py_ 0 10 HT_.out ?_;refine py_ 2 12 HT_.out ?_
   refine tw2_ 1 11 HT_.out HW_.out hHeld ?_
   refine tw2_ 3 13 HT_.out HW_.out hHeld ?_
   refine py_ 4 14 HT_.out ?_
   refine join_ (σ:=Value×Nat) 1 #[ti,ti,ti,ti,ti,ti,ti,ti,fi] (fun s_ => [(15,s_.1),(5,.pointer (some ⟨s_.2,0,none⟩)),(16,.agg #[.int .i64 a0_0,s_.1])]) (fun s_ w'=>(w'.cell? ⟨gb327,0,none⟩=some (.int .i64 a0_0)∧w'.cell? ⟨gb327,1,none⟩=some (.slice A0_1 l0_1.length c0_1))∧(Kd.R (Kd.int .i64) 3 w' w.heap.size (fun _=>True) s_.1 y329)∧(w'.heap[gb327]?=some (.cells #[.int .i64 a0_0,.slice A0_1 l0_1.length c0_1] 41 (0,0)))∧(w'.heap[gb328]?=some (.cells #[.int .i64 0,.slice none 0 0] 41 (0,0)))∧(w'.heap[s_.2]?=some (.cells #[.int .i64 0,.slice none 0 0] 41 (0,0)))∧(w.heap.size≤s_.2)∧(w.heap.size≤s_.2)∧(gb327≠s_.2)∧(s_.2≠gb327)∧(gb328≠s_.2)∧(s_.2≠gb328)∧(Below w.heap.size w w')) ?_ ?_
   rotate_left
   ·intro hCont
    refine two_ (i:=5) (j:=7) (Ni:=some 15) (Nj:=some 5) #[ti,ti,ti,ti,ti,ti,fi,fi,fi] #[ti,ti,ti,ti,ti,fi,fi,ti,fi] rfl rfl rfl rfl (two_of HT_.out (by kernel_rfl)) (by decide) (by decide) (fun K hK=>?_) (fun K hK=>?_)
    ·skip
     refine Kd.R_make_step (Kd.int .i64) _ 3 (by rfl) (N:=15) rfl 39 _ _ rfl (l0_1.length:Int) rfl rfl Try.underlying39 (.int .i64 0) 8 info3 rfl (by decide) (by omega) 0 (ok:=fun _=>True) (okp:=fun _=>True) rfl (fun _ hk=>hk) trivial (of_decide_eq_true zc_) (Nat.le_trans (Nat.mul_le_mul_right _ (of_decide_eq_true zc_:(l0_1.length:Int).toNat≤35184372088832)) (by omega)) (Below.refl _ _) (Nat.le_refl _) ?_
     intro v330 w8 ho9 hb hg_ hnew_
     clear hg_ hnew_;(first | rw [← Ny329.out] at ho9 | (simp only [Int.reduceToNat] at ho9;rw [← Ny329.out] at ho9));have n_:=z (Kd.R_lower ho9 (below_size zfe_))<|z (blk_below (zb BK327.out) hb)<|z (blk_below (zb BK328.out) hb)<|z1 (below_step zfe_ hb)
     clear BK327 BK328 HB;obtain ⟨HO331,BK327,BK328,HB⟩:=n_;clear hb ho9;obtain ⟨Ao10,co10,eo10⟩:=Kd.R_slice HO331.out;(first | subst eo10 | (injection eo10 with f1_ f2_ f3_;have f4_:=f1_.symm;have f5_:=f3_.symm;clear f1_ f2_ f3_;subst f4_;subst f5_))
     refine hK.out _ _ ⟨(blk_cell BK327.out 0).trans rfl,(blk_cell BK327.out 1).trans rfl⟩ (fun hHeld=>?_)
     clear hK K
     refine nz_ 15 ?_
     refine py_ 6 16 HT_.out ?_
     refine one_ (i:=7) (N:=some 5) #[ti,ti,ti,ti,ti,ti,ti,ti,fi] rfl rfl (one_of HT_.out (by kernel_rfl)) (by decide) (fun K hK=>?_)
     refine box_step ?hg (N:=5) ?hd (cs:=#[.int .i64 0,.slice none 0 0]) (t:=41) ?hr ?_;(case hd=>rfl);(case hg=>rfl);(case hr=>exact za_)
     intro gb332 hg w11 hbox hb
     have n_:=z (Kd.R_below (zr HO331.out) hb)<|z (blk_below (zb BK327.out) hb)<|z (blk_below (zb BK328.out) hb)<|z (below_step zfe_ hb)<|z (hbox)<|z ((by rw [hg];exact (below_size zfe_):w.heap.size≤gb332))<|z ((by rw [hg];exact (below_size zfe_):w.heap.size≤gb332))<|z ((by rw [hg];exact Nat.ne_of_lt (blk_lt (zb BK327.out)):gb327≠gb332))<|z ((by rw [hg];exact Nat.ne_of_gt (blk_lt (zb BK327.out)):gb332≠gb327))<|z ((by rw [hg];exact Nat.ne_of_lt (blk_lt (zb BK328.out)):gb328≠gb332))<|z1 ((by rw [hg];exact Nat.ne_of_gt (blk_lt (zb BK328.out)):gb332≠gb328))
     clear HO331 BK327 BK328 HB;obtain ⟨HO331,BK327,BK328,HB,BK332,GW332,GE332,NB327_332,NB332_327,NB328_332,NB332_328⟩:=n_;clear hb hbox hg
     refine hK.out _ _ ⟨(blk_cell BK327.out 0).trans rfl,(blk_cell BK327.out 1).trans rfl⟩ (fun hHeld=>?_)
     clear hK K
     refine nz_ 5 ?_
     exact norm_ (by simp only [putAll,Act.put,sI,s0,sS]) (hCont (.slice Ao10 y329.length co10,gb332) _ ⟨hHeld,(zr HO331.out),(zb BK327.out),(zb BK328.out),(zb BK332.out),GW332.out,GE332.out,NB327_332.out,NB332_327.out,NB328_332.out,NB332_328.out,zff_⟩)
    ·skip
     refine box_step ?hg (N:=5) ?hd (cs:=#[.int .i64 0,.slice none 0 0]) (t:=41) ?hr ?_;(case hd=>rfl);(case hg=>rfl);(case hr=>exact za_)
     intro gb332 hg w8 hbox hb
     have n_:=z (blk_below (zb BK327.out) hb)<|z (blk_below (zb BK328.out) hb)<|z (below_step zfe_ hb)<|z (hbox)<|z ((by rw [hg];exact (below_size zfe_):w.heap.size≤gb332))<|z ((by rw [hg];exact (below_size zfe_):w.heap.size≤gb332))<|z ((by rw [hg];exact Nat.ne_of_lt (blk_lt (zb BK327.out)):gb327≠gb332))<|z ((by rw [hg];exact Nat.ne_of_gt (blk_lt (zb BK327.out)):gb332≠gb327))<|z ((by rw [hg];exact Nat.ne_of_lt (blk_lt (zb BK328.out)):gb328≠gb332))<|z1 ((by rw [hg];exact Nat.ne_of_gt (blk_lt (zb BK328.out)):gb332≠gb328))
     clear BK327 BK328 HB;obtain ⟨BK327,BK328,HB,BK332,GW332,GE332,NB327_332,NB332_327,NB328_332,NB332_328⟩:=n_;clear hb hbox hg
     refine hK.out _ _ ⟨(blk_cell BK327.out 0).trans rfl,(blk_cell BK327.out 1).trans rfl⟩ (fun hHeld=>?_)
     clear hK K
     refine nz_ 5 ?_
     refine one_ (i:=5) (N:=some 15) #[ti,ti,ti,ti,ti,ti,fi,ti,fi] rfl rfl (one_of HT_.out (by kernel_rfl)) (by decide) (fun K hK=>?_)
     refine Kd.R_make_step (Kd.int .i64) _ 3 (by rfl) (N:=15) rfl 39 _ _ rfl (l0_1.length:Int) rfl rfl Try.underlying39 (.int .i64 0) 8 info3 rfl (by decide) (by omega) 0 (ok:=fun _=>True) (okp:=fun _=>True) rfl (fun _ hk=>hk) trivial (of_decide_eq_true zc_) (Nat.le_trans (Nat.mul_le_mul_right _ (of_decide_eq_true zc_:(l0_1.length:Int).toNat≤35184372088832)) (by omega)) (Below.refl _ _) (Nat.le_refl _) ?_
     intro v330 w9 ho10 hb hg_ hnew_
     clear hg_ hnew_;(first | rw [← Ny329.out] at ho10 | (simp only [Int.reduceToNat] at ho10;rw [← Ny329.out] at ho10));have n_:=z (Kd.R_lower ho10 (below_size zff_))<|z (blk_below (zb BK327.out) hb)<|z (blk_below (zb BK328.out) hb)<|z (blk_below (zb BK332.out) hb)<|z1 (below_step zff_ hb)
     clear BK327 BK328 BK332 HB;obtain ⟨HO331,BK327,BK328,BK332,HB⟩:=n_;clear hb ho10;obtain ⟨Ao11,co11,eo11⟩:=Kd.R_slice HO331.out;(first | subst eo11 | (injection eo11 with f1_ f2_ f3_;have f4_:=f1_.symm;have f5_:=f3_.symm;clear f1_ f2_ f3_;subst f4_;subst f5_))
     refine hK.out _ _ ⟨(blk_cell BK327.out 0).trans rfl,(blk_cell BK327.out 1).trans rfl⟩ (fun hHeld=>?_)
     clear hK K
     refine nz_ 15 ?_
     refine py_ 6 16 HT_.out ?_
     exact norm_ (by simp only [putAll,Act.put,sI,s0,sS]) (hCont (.slice Ao11 y329.length co11,gb332) _ ⟨hHeld,(zr HO331.out),(zb BK327.out),(zb BK328.out),(zb BK332.out),GW332.out,GE332.out,NB327_332.out,NB332_327.out,NB328_332.out,NB332_328.out,zff_⟩)
   rintro ⟨v330,gb332⟩ w12 ⟨hS_,h0_,h1_,h2_,h3_,h4_,h5_,h6_,h7_,h8_,h9_,h10_⟩
   have n0_:Aside0 (Kd.R (Kd.int .i64) 3 w12 w.heap.size (fun _=>True) v330 y329):=⟨h0_⟩;have n1_:Aside0 (w12.heap[gb327]?=some (.cells #[.int .i64 a0_0,.slice A0_1 l0_1.length c0_1] 41 (0,0))):=⟨h1_⟩;have n2_:Aside0 (w12.heap[gb328]?=some (.cells #[.int .i64 0,.slice none 0 0] 41 (0,0))):=⟨h2_⟩;have n3_:Aside0 (w12.heap[gb332]?=some (.cells #[.int .i64 0,.slice none 0 0] 41 (0,0))):=⟨h3_⟩;have n4_:Aside0 (w.heap.size≤gb332):=⟨h4_⟩;have n5_:Aside0 (w.heap.size≤gb332):=⟨h5_⟩;have n6_:Aside0 (gb327≠gb332):=⟨h6_⟩;have n7_:Aside0 (gb332≠gb327):=⟨h7_⟩;have n8_:Aside0 (gb328≠gb332):=⟨h8_⟩;have n9_:Aside0 (gb332≠gb328):=⟨h9_⟩;have n10_:Aside0 (Below w.heap.size w w12):=⟨h10_⟩;clear BK327 BK328 HB h0_ h1_ h2_ h3_ h4_ h5_ h6_ h7_ h8_ h9_ h10_;have HO331:=n0_;have BK327:=n1_;have BK328:=n2_;have BK332:=n3_;have GW332:=n4_;have GE332:=n5_;have NB327_332:=n6_;have NB332_327:=n7_;have NB328_332:=n8_;have NB332_328:=n9_;have HB:=n10_;clear n0_ n1_ n2_ n3_ n4_ n5_ n6_ n7_ n8_ n9_ n10_;have hHeld:w12.cell? ⟨gb327,0,none⟩=some (.int .i64 a0_0)∧w12.cell? ⟨gb327,1,none⟩=some (.slice A0_1 l0_1.length c0_1):=hS_;obtain ⟨Ao13,co13,eo13⟩:=Kd.R_slice HO331.out;(first | subst eo13 | (injection eo13 with f1_ f2_ f3_;have f4_:=f1_.symm;have f5_:=f3_.symm;clear f1_ f2_ f3_;subst f4_;subst f5_))
   refine norm_ (a':=?_) ?_ ?_
   rotate_left
   ·simp only [putAll,Act.put,sI,s0,sS]
    rfl
   refine one_ (i:=8) (N:=none) #[ti,ti,ti,ti,ti,ti,ti,ti,ti] rfl rfl (one_of HT_.out (by kernel_rfl)) (by decide) (fun K hK=>?_)
   have hs14:w12.cell? ⟨gb332,0,none⟩=some (.int .i64 0):=(blk_cell BK332.out 0).trans rfl;have hfs14:=blk_frozen BK332.out 0;have hns14_0:=NB327_332.out;have hns14_1:=NB328_332.out;have hms14_0:=NB332_327.out;have hms14_1:=NB332_328.out;have hs15:w12.cell? ⟨gb332,1,none⟩=some (.slice none 0 0):=(blk_cell BK332.out 1).trans rfl;have hfs15:=blk_frozen BK332.out 1;have hns15_0:=NB327_332.out;have hns15_1:=NB328_332.out;have hms15_0:=NB332_327.out;have hms15_1:=NB332_328.out
   refine skip_ (w1:=?_) (by rfl) rfl ?_ ?_
   rotate_left
   ·go_simp
    rfl
   refine hK.out _ _ ⟨((cell_far (p:=⟨gb332,_,none⟩) NB327_332.out _).trans (((cell_far (p:=⟨gb332,_,none⟩) NB327_332.out _).trans (hHeld.1)))),((cell_far (p:=⟨gb332,_,none⟩) NB327_332.out _).trans (((cell_far (p:=⟨gb332,_,none⟩) NB327_332.out _).trans (hHeld.2))))⟩ (fun hHeld=>?_)
   clear hK K
   refine done_ (done_of HT_.out (by kernel_rfl)) ?_
   have hnb16:=NB332_327.out;have hnc16:=NB327_332.out;have hnb17:=NB332_328.out;have hnc17:=NB328_332.out;obtain ⟨hcz18_0,hcz18_1,hfz18_0,hfz18_1⟩:=zk2 BK332.out;(try go_wp2)
   go_loopg [20] k (fun kq v20 w' => ∃ (x20_1:Int) (x333001_1:List Int) (u333001:Value),v20 = .int .i64 x20_1∧Aside0 (impl_reordered.l0 kq l1 (y329.length:Int) x20_1 a0_0 l0_1 a0_0 x333001_1=some (r1,r2))∧Aside0 (kq≤k)∧Aside0 (Kd.R (Kd.int .i64) 3 w' w.heap.size (fun _=>True) u333001 x333001_1)∧Aside0 (w'.heap[gb327]?=some (.cells #[.int .i64 a0_0,(.slice A0_1 l0_1.length c0_1)] 41 (0,0)))∧Aside0 (w'.heap[gb328]?=some (.cells #[.int .i64 0,(.slice none 0 0)] 41 (0,0)))∧Aside0 (w'.heap[gb332]?=some (.cells #[.int .i64 a0_0,u333001] 41 (0,0)))∧Aside0 (Below w.heap.size w w'))
   case atStart=>exact ⟨(0),(y329),(.slice Ao13 y329.length co13),zd_,H',⟨Nat.le_refl _⟩,⟨by refine zr ?_;exact Kd.R_mono (Kd.R_far (p:=⟨gb332,1,none⟩) (Kd.R_far (p:=⟨gb332,0,none⟩) (Kd.R_types HO331.out BK332.out (by decide)) (fun _ hk=>hk.2) (.int .i64 a0_0)) (fun _ hk=>hk.2) (.slice Ao13 y329.length co13)) (fun _ hk=>trivial)⟩,⟨by refine zb ?_;refine blk_far ?_ NB327_332.out _;refine zb ?_;refine blk_far ?_ NB327_332.out _;refine zb ?_;exact BK327.out⟩,⟨by refine zb ?_;refine blk_far ?_ NB328_332.out _;refine zb ?_;refine blk_far ?_ NB328_332.out _;refine zb ?_;exact BK328.out⟩,⟨by refine zb ?_;refine blk_put (cs:=#[.int .i64 a0_0,.slice none 0 0]) ?_ 1 _ rfl;refine zb ?_;refine blk_put (cs:=#[.int .i64 0,.slice none 0 0]) ?_ 0 _ rfl;refine zb ?_;exact BK332.out⟩,⟨zff_⟩⟩
   case round =>
    clear H';(try clear c3b0);(try clear c3b1);(try clear c4b0);(try clear c4b1);(try clear hcz18_0);(try clear hcz18_1);(try clear hfz18_0);(try clear hfz18_1);obtain ⟨x20_1,x333001_1,u333001,rfl,HA,HK1,HO_333001,BK327,BK328,BK332,HB⟩:=hrel
    cases gk with
    | zero=>exact absurd HA.out (by simp [impl_reordered.l0])
    | succ k1 =>
     have H:=HA.out;clear HA
     simp only [impl_reordered.l0] at H
     by_cases c19:x20_1<(y329.length:Int)
     ·rw [if_pos c19] at H
      have c19b0:=decide_eq_true c19;clear c19;have H':=aM H;clear H
      go_wp2
      go_loopg [7,25] k1 (fun kq v7 v25 w' => ∃ (x7_2:Int) (x25_2:Int),v7 = .int .i64 x7_2∧v25 = .int .i64 x25_2∧Aside0 (impl_reordered.l1 kq l1 x20_1 x7_2 (y329.length:Int) x20_1 l1 (l1.length:Int) x25_2 a0_0 l0_1 a0_0 x333001_1=some (r1,r2))∧Aside0 (kq≤k1)∧Aside0 (Kd.R (Kd.int .i64) 3 w' w.heap.size (fun _=>True) u333001 x333001_1)∧Aside0 (w'.heap[gb327]?=some (.cells #[.int .i64 a0_0,(.slice A0_1 l0_1.length c0_1)] 41 (0,0)))∧Aside0 (w'.heap[gb328]?=some (.cells #[.int .i64 0,(.slice none 0 0)] 41 (0,0)))∧Aside0 (w'.heap[gb332]?=some (.cells #[.int .i64 a0_0,u333001] 41 (0,0)))∧Aside0 (Below w.heap.size w w'))
      case atStart=>exact ⟨(0),(0),zd_,zd_,H',⟨Nat.le_refl _⟩,⟨zr HO_333001.out⟩,⟨zb BK327.out⟩,⟨zb BK328.out⟩,⟨zb BK332.out⟩,⟨zff_⟩⟩
      case round =>
       clear H';(try clear c19b0);obtain ⟨x7_2,x25_2,rfl,rfl,HA,HK2,HO_333001,BK327,BK328,BK332,HB⟩:=hrel
       cases gk with
       | zero=>exact absurd HA.out (by simp [impl_reordered.l1])
       | succ k2 =>
        have H:=HA.out;clear HA
        simp only [impl_reordered.l1] at H
        by_cases c20:x25_2<(l1.length:Int)
        ·rw [if_pos c20] at H
         have c20b0:=decide_eq_true c20;clear c20
         by_cases c21:0≤x25_2
         ·rw [if_pos c21] at H
          have c21b0:=decide_eq_true c21;clear c21
          by_cases c22:x25_2<(l1.length:Int)
          ·rw [if_pos c22] at H
           have c22b0:=decide_eq_true c22;clear c22;have c23b0:=eq_true (of_decide_eq_true zc_:0≤x25_2);obtain ⟨ji24,hji24⟩:∃ j_:Int,(shr .i64 x20_1 x25_2)=j_:=⟨_,rfl⟩;replace H:(if 0≤(rd l1 x25_2) then (impl_reordered.l1 k2 l1 x20_1 (Go.bits .or .i64 x7_2 (shl .i64 (Go.bits .and .i64 (ji24) 1) (rd l1 x25_2))) (y329.length:Int) x20_1 l1 (l1.length:Int) (wrap64 (x25_2+1)) a0_0 l0_1 a0_0 x333001_1) else (none))=some (r1,r2):=by first | (rw [hji24] at H;exact H)|(simp only [hji24] at H ⊢;exact H)
           have hji24_:(x20_1 / 2 ^ min x25_2.toNat 64)=ji24:=hji24;have hji24z:x25_2≤64→(x20_1 / 2 ^ x25_2.toNat)=ji24:=shr_small hji24
           by_cases c25:0≤(rd l1 x25_2)
           ·rw [if_pos c25] at H
            have c25b0:=eq_true c25;have c25b1:=decide_eq_true c25;clear c25;obtain ⟨ji26,hji26⟩:∃ j_:Int,(shl .i64 (Go.bits .and .i64 (ji24) 1) (rd l1 x25_2))=j_:=⟨_,rfl⟩;replace H:(impl_reordered.l1 k2 l1 x20_1 (Go.bits .or .i64 x7_2 (ji26)) (y329.length:Int) x20_1 l1 (l1.length:Int) (wrap64 (x25_2+1)) a0_0 l0_1 a0_0 x333001_1)=some (r1,r2):=by first | (rw [hji26] at H;exact H)|(simp only [hji26] at H ⊢;exact H)
            have hji26_:(IntKind.i64.wrap ((Go.bits .and .i64 (ji24) 1) * 2 ^ min (rd l1 x25_2).toNat 64))=ji26:=hji26;have hji26z:(rd l1 x25_2)≤64→(IntKind.i64.wrap ((Go.bits .and .i64 (ji24) 1) * 2 ^ (rd l1 x25_2).toNat))=ji26:=shl_small hji26;have hji26y:(wrap64 ((Go.bits .and .i64 (ji24) 1) * 2 ^ min (rd l1 x25_2).toNat 64))=ji26:=(i64_w _).symm.trans hji26_;have hji26x:(rd l1 x25_2)≤64→(wrap64 ((Go.bits .and .i64 (ji24) 1) * 2 ^ (rd l1 x25_2).toNat))=ji26:=fun h_=>(i64_w _).symm.trans (hji26z h_)
            have H':=aM H;clear H;have p333:0≤(x25_2:Int):=of_decide_eq_true zc_;have q333:x25_2<(l1.length:Int):=of_decide_eq_true zc_;obtain ⟨ad333,e333,hx333_0⟩:=Kd.at_int HR1.out x25_2 p333 q333
            cases e333
            (try (replace hx333_0:=q3h_ HB.out hx333_0));replace p333:=eq_true p333;replace q333:=eq_true q333
            go_wp2
            go_roundg k2
            case measure=>have:=HK1.out;have:=HK2.out;omega
            case rel=>exact ⟨(Go.bits .or .i64 x7_2 (ji26)),(wrap64 (x25_2+1)),(by first | rfl | (simp;done)|(simp only [← hji26] <;> (first | rfl | simp))|(simp [*];done)),zd_,H',⟨zgd_⟩,⟨zr HO_333001.out⟩,⟨zb BK327.out⟩,⟨zb BK328.out⟩,⟨zb BK332.out⟩,⟨zff_⟩⟩
           ·rw [if_neg c25] at H
            exact q3n_ H
          ·rw [if_neg c22] at H
           exact q3n_ H
         ·rw [if_neg c21] at H
          exact q3n_ H
        ·rw [if_neg c20] at H
         have c20b0:=decide_eq_false c20;clear c20
         by_cases c27:0≤x7_2
         ·rw [if_pos c27] at H
          have c27b0:=decide_eq_true c27;clear c27
          by_cases c28:x7_2<(l0_1.length:Int)
          ·rw [if_pos c28] at H
           have c28b0:=decide_eq_true c28;clear c28
           by_cases c29:0≤x20_1
           ·rw [if_pos c29] at H
            have c29b0:=decide_eq_true c29;clear c29
            by_cases c30:x20_1<(x333001_1.length:Int)
            ·rw [if_pos c30] at H
             have c30b0:=decide_eq_true c30;clear c30;obtain ⟨y335,hy335⟩:∃ y_:List Int,y_=(x333001_1.set (x20_1:Int).toNat (rd l0_1 x7_2)):=⟨_,rfl⟩;replace H:(impl_reordered.l0 k2 l1 (y329.length:Int) (wrap64 (x20_1+1)) a0_0 l0_1 a0_0 y335)=some (r1,r2):=q3y_ hy335 H
             have Ny335:=aM hy335;clear hy335;have H':=aM H;clear H;(try go_wp2);have n_:=z (kD HO_333001.out)<|z (blk_drew BK327.out)<|z (blk_drew BK328.out)<|z (blk_drew BK332.out)<|z1 (p1 HB.out)
             clear HO_333001 BK327 BK328 BK332 HB;obtain ⟨HO_333001,BK327,BK328,BK332,HB⟩:=n_;have p334:0≤(x7_2:Int):=of_decide_eq_true zc_;have q334:x7_2<(l0_1.length:Int):=of_decide_eq_true zc_;obtain ⟨ad334,e334,hx334_0⟩:=Kd.at_int HR0_1.out x7_2 p334 q334;have hw334_0:=hx334_0
             cases e334
             (try (replace hx334_0:=q3h_ HB.out hx334_0));replace p334:=eq_true p334;replace q334:=eq_true q334;have p31:0≤(x20_1:Int):=of_decide_eq_true zc_;have q31:(x20_1:Int)<((x333001_1.length:Int):Int):=of_decide_eq_true zc_;obtain ⟨go31,co31,eo31,gb31,gl31,cl31,HG31⟩:=Kd.R_form HO_333001.out (by omega);(first | cases eo31 | (injection eo31 with ea_ en_ ec_;(first | subst ea_ | (injection ea_ with ea_;subst ea_));subst ec_;clear en_));have GB31:=aM gb31;have GG31:=aM HG31;clear gb31 gl31 HG31;obtain ⟨hx31_0,hf31_0⟩:=Kd.R_celln 0 HO_333001.out (x20_1:Int) p31 q31;replace p31:=eq_true p31;replace q31:=eq_true q31;have HP33:=Kd.R_putn HO_333001.out (x20_1:Int) (rd l0_1 x7_2);rw [← Ny335.out] at HP33;have HQ33:=aM HP33;clear HP33
             refine start_ (n:=10) (S:=fun w'=>w'.cell? ⟨gb332,0,none⟩=some (.int .i64 a0_0)∧w'.cell? ⟨gb332,1,none⟩=some (.slice (some ⟨go31,0,none⟩) x333001_1.length co31)∧w'.cell? ⟨gb327,0,none⟩=some (.int .i64 a0_0)∧w'.cell? ⟨gb327,1,none⟩=some (.slice (some ad334) l0_1.length c0_1)∧w'.cell? (ad334.add (x7_2).toNat)=some (.int .i64 (rd l0_1 x7_2))) (ds:=[9]) #[fi,fi,fi,fi,fi,fi,fi,fi,fi,fi] (by kernel_rfl) rfl rfl ⟨(blk_cell BK332.out 0).trans rfl,(blk_cell BK332.out 1).trans rfl,(blk_cell BK327.out 0).trans rfl,(blk_cell BK327.out 1).trans rfl,((HB.out.cell (World.block_lt_of_cell? w _ hw334_0)).trans hw334_0)⟩ (fun hHeld=>?_);refine with_tabW impl_reordered.tab11 impl_reordered.bits11 (fun HT_ HW_=>?_)
             generalize wr.drew=w32 at HO_333001 BK327 BK328 BK332 HB GG31 HQ33 hf31_0 hx31_0 hx334_0 hHeld ⊢;refine py_ 0 39 HT_.out ?_;refine py_ 2 41 HT_.out ?_;refine py_ 3 42 HT_.out ?_;refine py_ 5 44 HT_.out ?_
             refine tw5_ 1 40 HT_.out HW_.out hHeld ?_
             refine tw5_ 4 43 HT_.out HW_.out hHeld ?_
             refine py_ 6 45 HT_.out ?_
             refine tw5_ 7 46 HT_.out HW_.out hHeld ?_
             refine py_ 8 47 HT_.out ?_
             refine last_ (i:=9) (N:=none) #[ti,ti,ti,ti,ti,ti,ti,ti,ti,ti] rfl rfl (one_of HT_.out (by kernel_rfl)) (by decide) (fun K hK=>?_)
             refine skip_ (w1:=?_) (by rfl) rfl ?_ ?_
             rotate_left
             ·go_simp
              rfl
             refine hK.out _ _ ?_
             clear hK K
             refine done_ (done_of HT_.out (by kernel_rfl)) ?_
             (try go_wp2)
             go_roundg k2
             case measure=>have:=HK1.out;have:=HK2.out;omega
             case rel=>exact ⟨(wrap64 (x20_1+1)),(y335),(.slice (some ⟨go31,0,none⟩) x333001_1.length co31),zd_,H',⟨zgd_⟩,⟨zr HQ33.out⟩,⟨by refine zb ?_;refine blk_far ?_ (by have h_:=Kd.R_ne HO_333001.out BK327.out (by decide);intro e_;exact h_ (by rw [e_];rfl)) _;refine zb ?_;exact BK327.out⟩,⟨by refine zb ?_;refine blk_far ?_ (by have h_:=Kd.R_ne HO_333001.out BK328.out (by decide);intro e_;exact h_ (by rw [e_];rfl)) _;refine zb ?_;exact BK328.out⟩,⟨by refine zb ?_;refine blk_far ?_ (by have h_:=Kd.R_ne HO_333001.out BK332.out (by decide);intro e_;exact h_ (by rw [e_];rfl)) _;refine zb ?_;exact BK332.out⟩,⟨by repeat (first | (with_reducible first | exact HB.out | apply pA | apply pN | apply p1 | refine below_set ?_ GB31.out | refine below_set ?_ GE327.out | refine below_set ?_ GE328.out | refine below_set ?_ GE332.out) | exact HB.out)⟩⟩
            ·rw [if_neg c30] at H
             exact q3n_ H
           ·rw [if_neg c29] at H
            exact q3n_ H
          ·rw [if_neg c28] at H
           exact q3n_ H
         ·rw [if_neg c27] at H
          exact q3n_ H
     ·rw [if_neg c19] at H
      have c19b0:=decide_eq_false c19;clear c19
      simp only [Option.some.injEq,Prod.mk.injEq] at H
      obtain ⟨rfl,rfl⟩:=H;have hnb34:=NB332_327.out;have hnc34:=NB327_332.out;have hnb35:=NB332_328.out;have hnc35:=NB328_332.out;obtain ⟨hcz36_0,hcz36_1,hfz36_0,hfz36_1⟩:=zk2 BK332.out;have hnb37:=NB328_327.out;have hnc37:=NB327_328.out;obtain ⟨hcz38_0,hcz38_1,hfz38_0,hfz38_1⟩:=zk2 BK328.out;obtain ⟨Ao39,co39,eo39⟩:=Kd.R_slice HO_333001.out;subst eo39
      go_wp2
      refine bodyPost_ret (results_cell_row rfl _ _ gb328 41 #[.int .i64 a0_0,.slice Ao39 x333001_1.length co39] (0,0) _ rfl (by refine zb ?_;refine blk_put (cs:=#[.int .i64 a0_0,.slice none 0 0]) ?_ 1 _ rfl;refine zb ?_;refine blk_put (cs:=#[.int .i64 0,.slice none 0 0]) ?_ 0 _ rfl;refine zb ?_;exact BK328.out) Try.underlying41 rfl (by kernel_rfl)) rfl ?_
      exact ⟨_,zg_,by refine zr ?_;exact Kd.R_mono (Kd.R_far (p:=⟨gb328,1,none⟩) (Kd.R_far (p:=⟨gb328,0,none⟩) (Kd.R_types HO_333001.out BK328.out (by decide)) (fun _ hk=>hk.2) (.int .i64 a0_0)) (fun _ hk=>hk.2) (.slice Ao39 x333001_1.length co39)) (fun _ hk=>trivial),zff_⟩
  ·rw [if_neg c4] at H
   exact q3n_ H
 ·rw [if_neg c3] at H
  exact q3n_ H
def impl_BestOrder.cN (k:Nat) (n:Int) (vs o:List Int):Option Int:=(impl_reordered.f k n vs o).bind fun t=>(impl_diagramOf.f k t.1 t.2).bind fun d=>some (d.2.1.length:Int)
def impl_BestOrder.cost (k:Nat) (n:Int) (vs o:List Int):Int:=(impl_BestOrder.cN k n vs o).getD 0
def impl_BestOrder.pick (c:List Int→Int) (st:List Int×Int) (o:List Int):List Int×Int:=if st.2<0∨c o<st.2 then (o,c o) else st
def impl_BestOrder.at (c:List Int→Int) (os:List (List Int)) (j:Nat):List Int×Int:=(os.take j).foldl (impl_BestOrder.pick c) ([],-1)
theorem impl_BestOrder.at_succ (c:List Int→Int) (os:List (List Int)) (j:Int) (h0:0≤j) (h1:j<(os.length:Int)):impl_BestOrder.at c os (j+1).toNat=impl_BestOrder.pick c (impl_BestOrder.at c os j.toNat) (os.getD j.toNat []):=by
 have hl:j.toNat<os.length:=by omega
 unfold impl_BestOrder.at
 rw [show (j+1).toNat=j.toNat+1 by omega,List.take_add_one,List.getElem?_eq_getElem hl,List.foldl_append,List.getD_eq_getElem?_getD,List.getElem?_eq_getElem hl]
 rfl
theorem impl_BestOrder.congr (c d:List Int→Int):∀ (os:List (List Int)) (st:List Int×Int),(∀ o∈os,c o=d o)→os.foldl (impl_BestOrder.pick c) st=os.foldl (impl_BestOrder.pick d) st:=by
 intro os
 induction os with
 | nil=>intro st _;rfl
 | cons o os ih =>
  intro st h
  rw [List.foldl_cons,List.foldl_cons,ih _ (fun y hy=>h y (List.mem_cons_of_mem _ hy))]
  unfold impl_BestOrder.pick
  rw [h o List.mem_cons_self]
def impl_BestOrder.f (k:Nat) (a0_0:Int) (l0_1:List Int):Option (List Int×Int×Bool):=
 (impl_IsTable.f k a0_0 l0_1).bind fun t=>if t=true then (if 0≤a0_0∧a0_0≤8∧100≤k∧(Sep.pm a0_0.toNat a0_0.toNat []).length≤1000000000∧(∀ o∈Sep.pm a0_0.toNat a0_0.toNat [],(impl_BestOrder.cN k a0_0 l0_1 o).isSome=true) then some ((impl_BestOrder.at (impl_BestOrder.cost k a0_0 l0_1) (Sep.pm a0_0.toNat a0_0.toNat []) (Sep.pm a0_0.toNat a0_0.toNat []).length).1,(impl_BestOrder.at (impl_BestOrder.cost k a0_0 l0_1) (Sep.pm a0_0.toNat a0_0.toNat []) (Sep.pm a0_0.toNat a0_0.toNat []).length).2,true) else none) else some ([],0,false)
theorem impl_BestOrder.cmono (k:Nat) (n:Int) (vs o:List Int):LeO (impl_BestOrder.cN k n vs o) (impl_BestOrder.cN (k+1) n vs o):=LeO.bind (impl_reordered.mono n vs o k) (fun t=>LeO.bind (impl_diagramOf.mono t.1 t.2 k) (fun _=>LeO.refl _))
open Go.Proofs.Ytlnhpkjioppbiaa.Sep in
set_option maxHeartbeats 16000000 in
set_option maxRecDepth 100000 in
theorem impl_BestOrder.calls (k:Nat) (a0_0:Int) (A0_1:Option Addr) (c0_1:Nat) (l0_1:List Int) (r1:List Int) (r2:Int) (r3:Bool) (w:World) (hr0_1:Kd.C (Kd.int .i64) w A0_1 l0_1.length l0_1) (hc0_1:l0_1.length≤c0_1) (h:impl_BestOrder.f k a0_0 l0_1=some (r1,r2,r3)) :
  Calls Try.prog 24 #[.agg #[.int .i64 a0_0,.slice A0_1 l0_1.length c0_1]] w fun e w' => ∃ v0_:Value,e = .returned (.tuple #[v0_,.int .i64 r2,.bool r3])∧Kd.R (Kd.int .i64) 3 w' w.heap.size (fun _=>True) v0_ r1∧Below w.heap.size w w':=by
 have HR0:=aM hr0_1
 have HC0:=aM hc0_1
 clear hr0_1 hc0_1
 unfold impl_BestOrder.f at h
 obtain ⟨t,hA,h1⟩:=oB.mp h
 clear h
 have HA:=aM hA
 clear hA
 have hfd28_0:∀ (x0:Int) (A1:Option Addr) (n1 c1:Nat) (x2:Int) (w:World),(Instr.field 28 (.agg #[.int .i64 x0,.slice A1 n1 c1,.int .i64 x2]) 0).run Try.prog w = .ok (.int .i64 x0) w:=fun _ _ _ _ _ _=>by kernel_rfl
 have hfd28_1:∀ (x0:Int) (A1:Option Addr) (n1 c1:Nat) (x2:Int) (w:World),(Instr.field 28 (.agg #[.int .i64 x0,.slice A1 n1 c1,.int .i64 x2]) 1).run Try.prog w = .ok (.slice A1 n1 c1) w:=fun _ _ _ _ _ _=>by kernel_rfl
 have hfd28_2:∀ (x0:Int) (A1:Option Addr) (n1 c1:Nat) (x2:Int) (w:World),(Instr.field 28 (.agg #[.int .i64 x0,.slice A1 n1 c1,.int .i64 x2]) 2).run Try.prog w = .ok (.int .i64 x2) w:=fun _ _ _ _ _ _=>by kernel_rfl
 cases t with
 | false =>
  rw [if_neg (by decide)] at h1;have h2:(([]:List Int),(0:Int),false)=(r1,r2,r3):=Option.some.inj h1;clear h1
  injection h2 with e1 e2
  injection e2 with e2 e3
  subst e1;subst e2;subst e3
  go_enter Try.func24,Try.ntmps24
  go_wp2_with (first | ((with_reducible refine gate_dst (N:=1) rfl ?_);refine box_event ?hg (N:=1) ?hd (cs:=#[.int .i64 a0_0,.slice A0_1 l0_1.length c0_1]) (t:=41) ?hr ?_;(case hd=>rfl);(case hg=>rfl);(case hr=>exact za_);intro gt hg w_1 hbox hb;have HO_1:=aM ((Sep.Own.nil w).add_box (T:=41) (cs:=#[.int .i64 a0_0,.slice A0_1 l0_1.length c0_1]) hg hbox hb);clear hg hbox hb;have z_1:w_1.cell? ⟨gt,0,none⟩=some (.int .i64 a0_0):=(HO_1.out.cell 0 rfl 0 rfl);have z_2:w_1.cell? ⟨gt,1,none⟩=some (.slice A0_1 l0_1.length c0_1):=(HO_1.out.cell 0 rfl 1 rfl))|((with_reducible refine gate_callee (f:=67) rfl ?_);refine goesL_ (some 11) rfl rfl Try.func67 (by kernel_rfl) rfl #[.agg #[.int .i64 a0_0,.slice A0_1 l0_1.length c0_1]] rfl ze_ ?_;(with_reducible refine (impl_IsTable.calls k a0_0 _ _ l0_1 false _ (by exact Kd.C_below HR0.out HO_1.out.base) HC0.out HA.out).mono ?_);rintro e w_2 ⟨rfl,hd⟩;refine ⟨_,rfl,?_⟩;have HO_2:=aM (HO_1.out.below hd);clear hd))
  go_ret3
  exact ⟨_,rfl,Kd.R_nil _ _ _ _ _,HO_2.out.base⟩
 | true =>
  rw [if_pos rfl] at h1
  split at h1
  ·rename_i hc
   obtain ⟨hm0,hm8,hk,hosn,hok⟩:=hc;obtain ⟨m,rfl⟩:=Int.eq_ofNat_of_zero_le hm0;rw [Int.toNat_natCast] at h1 hosn hok;obtain ⟨os,hos⟩:∃ os,os=Sep.pm m m []:=⟨_,rfl⟩;have HQ:=aM (show impl_ordersOf.f k m=some os from by unfold impl_ordersOf.f;rw [if_pos hm0,if_pos hm8,if_pos hk,Int.toNat_natCast,hos]);rw [← hos] at h1 hosn hok;have HOK:=aM hok;have HM:=aM (show m≤8 by omega);clear hok hos hk hm0 hm8;obtain ⟨cf,hcf⟩:∃ cf,cf=impl_BestOrder.cost k (m:Int) l0_1:=⟨_,rfl⟩;rw [← hcf] at h1;have HCF:=aM hcf;clear hcf;replace h1:=Option.some.inj h1
   injection h1 with e1 e2
   injection e2 with e2 e3
   subst e1;subst e2;subst e3
   go_enter Try.func24,Try.ntmps24
   go_wp2_with (first | ((with_reducible refine gate_dst (N:=1) rfl ?_);refine box_event ?hg (N:=1) ?hd (cs:=#[.int .i64 ((m:Int)),.slice A0_1 l0_1.length c0_1]) (t:=41) ?hr ?_;(case hd=>rfl);(case hg=>rfl);(case hr=>exact za_);intro gt hg w_1 hbox hb;have HO_1:=aM ((Sep.Own.nil w).add_box (T:=41) (cs:=#[.int .i64 ((m:Int)),.slice A0_1 l0_1.length c0_1]) hg hbox hb);clear hg hbox hb;have z_1:w_1.cell? ⟨gt,0,none⟩=some (.int .i64 ((m:Int))):=(HO_1.out.cell 0 rfl 0 rfl);have z_2:w_1.cell? ⟨gt,1,none⟩=some (.slice A0_1 l0_1.length c0_1):=(HO_1.out.cell 0 rfl 1 rfl))|((with_reducible refine gate_callee (f:=67) rfl ?_);refine goesL_ (some 11) rfl rfl Try.func67 (by kernel_rfl) rfl #[.agg #[.int .i64 ((m:Int)),.slice A0_1 l0_1.length c0_1]] rfl ze_ ?_;(with_reducible refine (impl_IsTable.calls k (m:Int) _ _ l0_1 true _ (by exact Kd.C_below HR0.out HO_1.out.base) HC0.out HA.out).mono ?_);rintro e w_2 ⟨rfl,hd⟩;refine ⟨_,rfl,?_⟩;have HO_2:=aM (HO_1.out.below hd);clear hd)|((with_reducible refine gate_dst (N:=13) rfl ?_);refine Sep.own_lit0 (Kd.int .i64) HO_2.out 3 ?hg (N:=13) ?hd ?hr ?_;(case hd=>rfl);(case hg=>rfl);(case hr=>exact za_);intro x_13 w_3 ho _;have HO_3:=aM ho;clear ho;have z_3:w_3.cell? ⟨gt,0,none⟩=some (.int .i64 ((m:Int))):=(HO_3.out.cell 1 rfl 0 rfl))|((with_reducible refine gate_callee (f:=74) rfl ?_);refine goesL_ (some 16) rfl rfl Try.func74 (by kernel_rfl) rfl #[.int .i64 ((m:Int))] rfl ze_ ?_;(with_reducible refine (impl_ordersOf.calls k m os _ HQ.out).mono ?_);rintro e w_4 ⟨v_4,rfl,hR,hb⟩;refine ⟨_,rfl,?_⟩;have ho:=HO_3.out.add_rows hR hb;obtain ⟨Ao,co,rfl⟩:=ho.rows_slice 0 rfl;have HO_4:=aM (ho.slack 0 rfl);clear ho hR hb))
   (try simp only [Act.put,sI,s0,sS])
   go_loopw [5,6,18] (fun v5 v6 v18 wr => ∃ (j:Int),0≤j∧j≤(os.length:Int)∧v18 = .int .i64 j∧v6 = .int .i64 (impl_BestOrder.at cf os j.toNat).2∧Aside0 (∃ P_,Kd.R (Kd.int .i64) 3 wr w.heap.size P_ v5 (impl_BestOrder.at cf os j.toNat).1)∧Aside0 (Own w wr [Item.row (Kd.slice 3 (Kd.int .i64)) 39 (.slice Ao os.length co) (os),Item.box gt 41 #[.int .i64 ((m:Int)),.slice A0_1 l0_1.length c0_1]])) (fun _ _ v18 _=>os.length - (intOf v18).toNat)
   case atStart=>exact ⟨0,Int.le_refl _,by omega,rfl,rfl,⟨(HO_4.out.get 1 rfl)⟩,⟨(((HO_4.out.front 2 rfl).front 1 rfl).front 2 rfl).tail⟩⟩
   case round =>
    obtain ⟨j,hj0,hj1,rfl,rfl,HB,HO1⟩:=hrel;clear HO_4;have HO:=HO1;clear HO1
    by_cases c1:j<(os.length:Int)
    ·have c1b:=decide_eq_true c1
     have hwj:wrap64 (j+1)=j+1:=by unfold wrap64;omega
     obtain ⟨ado,Ae,ce,eo,hel,hle,hCe,hRe⟩:=HO.out.elem 0 rfl j hj0 c1
     cases eo
     have hst:=impl_BestOrder.at_succ cf os j hj0 c1;obtain ⟨v_,hv_⟩:=Option.isSome_iff_exists.mp (HOK.out (os.getD j.toNat []) (by rw [List.getD_eq_getElem?_getD,List.getElem?_eq_getElem (show j.toNat<os.length by omega)];exact List.getElem_mem _));obtain ⟨o,hoo⟩:∃ o,o=os.getD j.toNat []:=⟨_,rfl⟩;rw [← hoo] at hel hle hCe hRe hst hv_;have hcf2:cf o=v_:=by rw [HCF.out];unfold impl_BestOrder.cost;rw [hv_];rfl
     obtain ⟨⟨t1,t2⟩,ht,hv2⟩:=oB.mp hv_;obtain ⟨⟨d1,d2,d3⟩,hd,hv3⟩:=oB.mp hv2;have hv4:(d2.length:Int)=v_:=Option.some.inj hv3;have HT:=aM (show impl_reordered.f k (m:Int) l0_1 o=some (t1,t2) from ht);have HD:=aM (show impl_diagramOf.f k t1 t2=some (d1,d2,d3) from hd);have HCO:=aM (hcf2.trans hv4.symm);clear hcf2 hv4 hv3 hv2 hv_ hd ht;have HRE:=aM hRe;have HLE:=aM hle;have HST:=aM hst;have p1:(0≤j)=True:=eq_true hj0;have q1:(j<(os.length:Int))=True:=eq_true c1;clear hCe hle hRe hst hoo
     by_cases c5:(impl_BestOrder.at cf os j.toNat).2<0
     ·have c5b:=decide_eq_true c5
      have hp:=HST.out
      unfold impl_BestOrder.pick at hp
      rw [if_pos (Or.inl c5),HCO.out] at hp;have HP:=aM hp;clear hp HST;have z_4:wr.cell? ⟨gt,0,none⟩=some (.int .i64 ((m:Int))):=(HO.out.cell 1 rfl 0 rfl);have z_5:wr.cell? ⟨gt,1,none⟩=some (.slice A0_1 l0_1.length c0_1):=(HO.out.cell 1 rfl 1 rfl)
      go_wp2_with (first | ((with_reducible refine gate_callee (f:=75) rfl ?_);refine goesL_ (some 24) rfl rfl Try.func75 (by kernel_rfl) rfl #[.agg #[.int .i64 ((m:Int)),.slice A0_1 l0_1.length c0_1],.slice Ae o.length ce] rfl ze_ ?_;obtain ⟨P_,hRe_⟩:=HRE.out;(with_reducible refine (impl_reordered.calls k (m:Int) _ _ l0_1 _ _ o t1 t2 _ zhd_ HC0.out (Kd.R_reads' hRe_).2.2 (Kd.R_reads' hRe_).2.1 HT.out).mono ?_);rintro e w_1 ⟨x_r,rfl,hR,hb⟩;refine ⟨_,rfl,?_⟩;have ho:=HO.out.add_row hR hb;obtain ⟨A_q6,c_q6,rfl⟩:=ho.row_slice 0 rfl;have HO_1:=aM ho;clear hRe_;have HB_:=aM (HB.out.imp (fun _ h=>Kd.R_below h hb));clear HB;have HB:=HB_;clear HB_;have HRE_:=aM (HRE.out.imp (fun _ h=>Kd.R_below h hb));clear HRE;have HRE:=HRE_;clear HRE_ ho hR hb)|((with_reducible refine gate_callee (f:=57) rfl ?_);refine goesL_ (some 25) rfl rfl Try.func57 (by kernel_rfl) rfl #[.agg #[.int .i64 t1,.slice A_q6 t2.length c_q6]] rfl ze_ ?_;(with_reducible refine (impl_diagramOf.calls k t1 _ _ t2 d1 d2 d3 _ (HO_1.out.row_reads 0 rfl).2.2 (HO_1.out.row_reads 0 rfl).2.1 HD.out).mono ?_);rintro e w_2 ⟨x_r,rfl,hR,hb⟩;refine ⟨_,rfl,?_⟩;have ho:=HO_1.out.add_row hR hb;obtain ⟨A_q7,c_q7,rfl⟩:=ho.row_slice 0 rfl;have HO_2:=aM ho;have HB_:=aM (HB.out.imp (fun _ h=>Kd.R_below h hb));clear HB;have HB:=HB_;clear HB_;have HRE_:=aM (HRE.out.imp (fun _ h=>Kd.R_below h hb));clear HRE;have HRE:=HRE_;clear HRE_ ho hR hb))
      go_roundw
      case measure=>simp only [intOf,hwj];omega
      case rel=>exact ⟨j+1,by omega,by omega,zeh_,by rw [HP.out],⟨by rw [HP.out];exact HRE.out⟩,⟨((((HO_2.out.front 3 rfl).front 3 rfl).front 3 rfl).front 3 rfl).tail.tail⟩⟩
     ·have c5b:=decide_eq_false c5
      by_cases c6:(d2.length:Int)<(impl_BestOrder.at cf os j.toNat).2
      ·have c6b:=decide_eq_true c6
       have hp:=HST.out
       unfold impl_BestOrder.pick at hp
       rw [if_pos (Or.inr (by rw [HCO.out];exact c6)),HCO.out] at hp;have HP:=aM hp;clear hp HST;have z_4:wr.cell? ⟨gt,0,none⟩=some (.int .i64 ((m:Int))):=(HO.out.cell 1 rfl 0 rfl);have z_5:wr.cell? ⟨gt,1,none⟩=some (.slice A0_1 l0_1.length c0_1):=(HO.out.cell 1 rfl 1 rfl)
       go_wp2_with (first | ((with_reducible refine gate_callee (f:=75) rfl ?_);refine goesL_ (some 24) rfl rfl Try.func75 (by kernel_rfl) rfl #[.agg #[.int .i64 ((m:Int)),.slice A0_1 l0_1.length c0_1],.slice Ae o.length ce] rfl ze_ ?_;obtain ⟨P_,hRe_⟩:=HRE.out;(with_reducible refine (impl_reordered.calls k (m:Int) _ _ l0_1 _ _ o t1 t2 _ zhd_ HC0.out (Kd.R_reads' hRe_).2.2 (Kd.R_reads' hRe_).2.1 HT.out).mono ?_);rintro e w_1 ⟨x_r,rfl,hR,hb⟩;refine ⟨_,rfl,?_⟩;have ho:=HO.out.add_row hR hb;obtain ⟨A_q6,c_q6,rfl⟩:=ho.row_slice 0 rfl;have HO_1:=aM ho;clear hRe_;have HB_:=aM (HB.out.imp (fun _ h=>Kd.R_below h hb));clear HB;have HB:=HB_;clear HB_;have HRE_:=aM (HRE.out.imp (fun _ h=>Kd.R_below h hb));clear HRE;have HRE:=HRE_;clear HRE_ ho hR hb)|((with_reducible refine gate_callee (f:=57) rfl ?_);refine goesL_ (some 25) rfl rfl Try.func57 (by kernel_rfl) rfl #[.agg #[.int .i64 t1,.slice A_q6 t2.length c_q6]] rfl ze_ ?_;(with_reducible refine (impl_diagramOf.calls k t1 _ _ t2 d1 d2 d3 _ (HO_1.out.row_reads 0 rfl).2.2 (HO_1.out.row_reads 0 rfl).2.1 HD.out).mono ?_);rintro e w_2 ⟨x_r,rfl,hR,hb⟩;refine ⟨_,rfl,?_⟩;have ho:=HO_1.out.add_row hR hb;obtain ⟨A_q7,c_q7,rfl⟩:=ho.row_slice 0 rfl;have HO_2:=aM ho;have HB_:=aM (HB.out.imp (fun _ h=>Kd.R_below h hb));clear HB;have HB:=HB_;clear HB_;have HRE_:=aM (HRE.out.imp (fun _ h=>Kd.R_below h hb));clear HRE;have HRE:=HRE_;clear HRE_ ho hR hb))
       go_roundw
       case measure=>simp only [intOf,hwj];omega
       case rel=>exact ⟨j+1,by omega,by omega,zeh_,by rw [HP.out],⟨by rw [HP.out];exact HRE.out⟩,⟨((((HO_2.out.front 3 rfl).front 3 rfl).front 3 rfl).front 3 rfl).tail.tail⟩⟩
      ·have c6b:=decide_eq_false c6
       have hp:=HST.out
       unfold impl_BestOrder.pick at hp
       rw [if_neg (by rintro (h | h);exact c5 h;rw [HCO.out] at h;exact c6 h)] at hp;have HP:=aM hp;clear hp HST;have z_4:wr.cell? ⟨gt,0,none⟩=some (.int .i64 ((m:Int))):=(HO.out.cell 1 rfl 0 rfl);have z_5:wr.cell? ⟨gt,1,none⟩=some (.slice A0_1 l0_1.length c0_1):=(HO.out.cell 1 rfl 1 rfl)
       go_wp2_with (first | ((with_reducible refine gate_callee (f:=75) rfl ?_);refine goesL_ (some 24) rfl rfl Try.func75 (by kernel_rfl) rfl #[.agg #[.int .i64 ((m:Int)),.slice A0_1 l0_1.length c0_1],.slice Ae o.length ce] rfl ze_ ?_;obtain ⟨P_,hRe_⟩:=HRE.out;(with_reducible refine (impl_reordered.calls k (m:Int) _ _ l0_1 _ _ o t1 t2 _ zhd_ HC0.out (Kd.R_reads' hRe_).2.2 (Kd.R_reads' hRe_).2.1 HT.out).mono ?_);rintro e w_1 ⟨x_r,rfl,hR,hb⟩;refine ⟨_,rfl,?_⟩;have ho:=HO.out.add_row hR hb;obtain ⟨A_q6,c_q6,rfl⟩:=ho.row_slice 0 rfl;have HO_1:=aM ho;clear hRe_;have HB_:=aM (HB.out.imp (fun _ h=>Kd.R_below h hb));clear HB;have HB:=HB_;clear HB_;have HRE_:=aM (HRE.out.imp (fun _ h=>Kd.R_below h hb));clear HRE;have HRE:=HRE_;clear HRE_ ho hR hb)|((with_reducible refine gate_callee (f:=57) rfl ?_);refine goesL_ (some 25) rfl rfl Try.func57 (by kernel_rfl) rfl #[.agg #[.int .i64 t1,.slice A_q6 t2.length c_q6]] rfl ze_ ?_;(with_reducible refine (impl_diagramOf.calls k t1 _ _ t2 d1 d2 d3 _ (HO_1.out.row_reads 0 rfl).2.2 (HO_1.out.row_reads 0 rfl).2.1 HD.out).mono ?_);rintro e w_2 ⟨x_r,rfl,hR,hb⟩;refine ⟨_,rfl,?_⟩;have ho:=HO_1.out.add_row hR hb;obtain ⟨A_q7,c_q7,rfl⟩:=ho.row_slice 0 rfl;have HO_2:=aM ho;have HB_:=aM (HB.out.imp (fun _ h=>Kd.R_below h hb));clear HB;have HB:=HB_;clear HB_;have HRE_:=aM (HRE.out.imp (fun _ h=>Kd.R_below h hb));clear HRE;have HRE:=HRE_;clear HRE_ ho hR hb))
       go_roundw
       case measure=>simp only [intOf,hwj];omega
       case rel=>exact ⟨j+1,by omega,by omega,zeh_,by rw [HP.out],⟨by rw [HP.out];exact HB.out⟩,⟨((((HO_2.out.front 3 rfl).front 3 rfl).front 3 rfl).front 3 rfl).tail.tail⟩⟩
    ·have c1b:=decide_eq_false c1
     obtain rfl:j=(os.length:Int):=by omega
     simp only [Int.toNat_natCast]
     have hb:=HB.out;rw [Int.toNat_natCast] at hb;have HB2:=aM hb;clear hb
     go_wp2
     go_ret3
     obtain ⟨P_,hP⟩:=HB2.out
     exact ⟨_,rfl,Kd.R_mono hP (fun _ _=>trivial),HO.out.base⟩
  ·cases h1
def spec_l1Own.f (l0:List Int):Option (List Int):=(some (([]:List Int):List Int)).bind fun y336=>(if y336.length+l0.length<17592186044416 then (some (y336++l0)) else (none))
set_option maxHeartbeats 8000000 in
set_option maxRecDepth 100000 in
theorem spec_l1Own.calls (A0:Option Addr) (c0:Nat) (l0:List Int) (r:List Int) (w:World) (hr0:Kd.C (Kd.int .i64) w A0 l0.length l0) (hc0:l0.length≤c0) (h:spec_l1Own.f l0=some r) :
  Calls Try.prog 81 #[.slice A0 l0.length c0] w fun e w' => ∃ v0_:Value,e = .returned (v0_)∧Kd.R (Kd.int .i64) 3 w' w.heap.size (fun _=>True) v0_ r∧Below w.heap.size w w':=by
 have HR0:=aM hr0
 have HC0:=aM hc0
 clear hr0 hc0
 have HB:=aM (Below.refl w.heap.size w)
 have H:((some (([]:List Int):List Int)).bind fun y336=>(if y336.length+l0.length<17592186044416 then (some (y336++l0)) else (none)))=some r:=h
 clear h
 obtain ⟨y336,hy336⟩:∃ y_:List Int,y_=(([]:List Int)):=⟨_,rfl⟩
 replace H:(if y336.length+l0.length<17592186044416 then (some (y336++l0)) else (none))=some r:=q3y_ hy336 H
 have Ny336:=aM hy336
 clear hy336
 by_cases c2:y336.length+l0.length<17592186044416
 ·rw [if_pos c2] at H
  have LMc2:=aM c2;clear c2;obtain ⟨y339,hy339⟩:∃ y_:List Int,y_=(y336++l0):=⟨_,rfl⟩;replace H:(some y339)=some r:=q3y_ hy339 H
  have Ny339:=aM hy339;clear hy339;obtain rfl:=Option.some.inj H
  go_enter Try.func81,Try.ntmps81
  go_wp2_with (first | ((with_reducible refine gate_dst (N:=3) rfl ?_);refine Kd.R_lit (Kd.int .i64) _ 3 ?hg (N:=3) ?hd (xs:=([]:List Int)) (inner:=[]) (ok:=fun _=>True) (okp:=fun _=>True) ?hr ?hp (fun _ hk=>hk) trivial (Below.refl _ _) (Nat.le_refl _) (by simp) ?_;(case hd=>rfl);(case hg=>rfl);(case hr=>exact za_);(case hp=>exact (Reps.none _ _));intro v337 w3 ho4 hb hg_ hnew_;clear hg_ hnew_;(first | rw [← Ny336.out] at ho4 | (simp only [Int.reduceToNat] at ho4;rw [← Ny336.out] at ho4));have n_:=z (Kd.R_lower ho4 (below_size zb_))<|z1 (below_step zb_ hb);clear HB;obtain ⟨HO338,HB⟩:=n_;clear hb ho4)|((with_reducible refine gate_builtin (b := .append) (xs:=#[.tmp 3,.tmp 4]) rfl ?_);at_builtin;refine Kd.R_append_rows (Kd.int .i64) (w0:=w) w.heap.size rfl (.tmp 3) (.tmp 4) 39 3 (.int .i64 0) 8 rfl Try.underlying39 info3 rfl (by decide) (by omega) v337 y336 l0 _ _ _ (fun _=>True) (fun _=>False) rfl rfl ?aO ?aR (fun _ _ h=>h) (fun _ h=>h.elim) ?aF ?aB ?aS ?aL ?_;(case aR=>repeat (first | exact (Kd.C_below HR0.out HB.out)|(with_reducible refine cA ?_ _)|(with_reducible refine cN ?_ _)|(with_reducible refine cD ?_)));(case aB=>exact zb_);(case aF=>exact zdi_);(case aO=>exact (zr HO338.out));(case aS=>exact (below_size zb_));(case aL=>have:=LMc2.out;omega);intro v340 w5 ho hb hg hat;rw [← Ny339.out] at ho;have n_:=z (hb)<|z1 (ho);clear HB HO338;obtain ⟨HB,HO341⟩:=n_;clear ho hb hg hat))
  go_ret
  exact ⟨_,zg_,by refine zr ?_;exact HO341.out,zb_⟩
 ·rw [if_neg c2] at H
  exact q3n_ H
def spec_l1Has.l0:Nat→Int→List Int→Int→Int→Option (Bool)
 | 0,_,_,_,_=>none
 | k+1,x1,x7,x8,x9=>if x9<x8 then (if 0≤x9 then (if x9<(x7.length:Int) then (if (rd x7 x9)=x1 then (some true) else (spec_l1Has.l0 k x1 x7 x8 (wrap64 (x9+1)))) else (none)) else (none)) else (some false)
def spec_l1Has.f (k:Nat) (l0:List Int) (a1:Int):Option (Bool):=spec_l1Has.l0 k a1 l0 (l0.length:Int) 0
set_option maxHeartbeats 8000000 in
set_option maxRecDepth 100000 in
theorem spec_l1Has.calls (k:Nat) (A0:Option Addr) (c0:Nat) (l0:List Int) (a1:Int) (r:Bool) (w:World) (hr0:Kd.C (Kd.int .i64) w A0 l0.length l0) (hc0:l0.length≤c0) (h:spec_l1Has.f k l0 a1=some r) :
  Calls Try.prog 120 #[.slice A0 l0.length c0,.int .i64 a1] w fun e w'=>e = .returned (.bool r)∧Drawn0 w w':=by
 have HR0:=aM hr0
 have HC0:=aM hc0
 clear hr0 hc0
 have H:(spec_l1Has.l0 k a1 l0 (l0.length:Int) 0)=some r:=h
 clear h
 have H':=aM H
 clear H
 go_enter Try.func120,Try.ntmps120
 go_wp2
 go_loopg [9] k (fun kq v9 w' => ∃ (x9_1:Int),v9 = .int .i64 x9_1∧Aside0 (spec_l1Has.l0 kq a1 l0 (l0.length:Int) x9_1=some r)∧Aside0 (kq≤k)∧Drawn0 w w')
 case atStart=>exact ⟨(0),zd_,H',⟨Nat.le_refl _⟩,zi_⟩
 case round =>
  clear H';obtain ⟨x9_1,rfl,HA,HK1,⟨m1,rfl⟩⟩:=hrel
  cases gk with
  | zero=>exact absurd HA.out (by simp [spec_l1Has.l0])
  | succ k1 =>
   have H:=HA.out;clear HA
   simp only [spec_l1Has.l0] at H
   by_cases c3:x9_1<(l0.length:Int)
   ·rw [if_pos c3] at H
    have c3b0:=decide_eq_true c3;clear c3
    by_cases c4:0≤x9_1
    ·rw [if_pos c4] at H
     have c4b0:=decide_eq_true c4;clear c4
     by_cases c5:x9_1<(l0.length:Int)
     ·rw [if_pos c5] at H
      have c5b0:=decide_eq_true c5;clear c5
      by_cases c6:(rd l0 x9_1)=a1
      ·rw [if_pos c6] at H
       have c6b0:=beq_iff_eq.mpr c6;have c6b1:=bne_eq_false_iff_eq.mpr c6;clear c6;obtain rfl:=Option.some.inj H;have p342:0≤(x9_1:Int):=of_decide_eq_true zc_;have q342:x9_1<(l0.length:Int):=of_decide_eq_true zc_;obtain ⟨ad342,e342,hx342_0⟩:=Kd.at_int HR0.out x9_1 p342 q342
       cases e342
       replace p342:=eq_true p342;replace q342:=eq_true q342
       go_wp2
       go_ret
       exact ⟨zd_,zi_⟩
      ·rw [if_neg c6] at H
       have c6b0:=beq_eq_false_iff_ne.mpr c6;have c6b1:=bne_iff_ne.mpr c6;have H':=aM H;clear H;have p342:0≤(x9_1:Int):=of_decide_eq_true zc_;have q342:x9_1<(l0.length:Int):=of_decide_eq_true zc_;obtain ⟨ad342,e342,hx342_0⟩:=Kd.at_int HR0.out x9_1 p342 q342
       cases e342
       replace p342:=eq_true p342;replace q342:=eq_true q342
       go_wp2
       go_roundg k1
       case measure=>have:=HK1.out;omega
       case rel=>exact ⟨(wrap64 (x9_1+1)),zd_,H',⟨zci_⟩,zi_⟩
     ·rw [if_neg c5] at H
      exact q3n_ H
    ·rw [if_neg c4] at H
     exact q3n_ H
   ·rw [if_neg c3] at H
    have c3b0:=decide_eq_false c3;clear c3;obtain rfl:=Option.some.inj H
    go_wp2
    go_ret
    exact ⟨zd_,zi_⟩
theorem spec_ddOrders.has (l:List Int) (v:Int):∀ (r p:List Int) (i:Int) (k:Nat),l.length≤1000→i=p.length→l=p++r→r.length<k→spec_l1Has.l0 k v l (l.length:Int) i=some (decide (v∈r)):=by
 intro r
 induction r with
 | nil =>
  intro p i k hl hi he hk
  obtain ⟨k,rfl⟩:∃ m,k=m+1:=⟨k - 1,by simp at hk;omega⟩;rw [spec_l1Has.l0,if_neg (by rw [he,hi];simp)]
  simp
 | cons x r ih =>
  intro p i k hl hi he hk
  obtain ⟨k,rfl⟩:∃ m,k=m+1:=⟨k - 1,by simp at hk;omega⟩;have hlen:l.length=p.length+r.length+1:=by rw [he];simp;omega
  have hx:rd l i=x:=by rw [he,hi];simp [rd,List.getD_eq_getElem?_getD]
  rw [spec_l1Has.l0,if_pos (by omega),if_pos (by omega),if_pos (by omega),hx]
  by_cases h:x=v
  ·rw [if_pos h,h];simp
  ·have h1:=ih (p ++ [x]) (i+1) k hl (by rw [hi];simp) (by rw [he];simp) (by simp at hk;omega)
   rw [if_neg h,show wrap64 (i+1)=i+1 by unfold wrap64;omega,h1]
   simp [show ¬ v=x from fun e=>h e.symm]
theorem spec_ddOrders.has' (l:List Int) (v:Int) (k:Nat) (hk:l.length<k∧l.length≤1000):spec_l1Has.f k l v=some (decide (v∈l)):=by
 unfold spec_l1Has.f
 exact spec_ddOrders.has l v l [] 0 k hk.2 rfl rfl hk.1
open Go.Proofs.Ytlnhpkjioppbiaa.Sep in
set_option maxHeartbeats 8000000 in
set_option maxRecDepth 100000 in
theorem spec_ddOrders.ext (n:Nat) (hn:n≤8) (w0:World):∀ (d:Nat) (list:List Int) (w:World) (vl:Value) (F:List Sep.Item) (_h:Own w0 w (Sep.Item.row (Kd.int .i64) 3 vl list :: F)) (_hl:list.length+d=n),
  Calls Try.prog 77 #[.int .i64 (n:Int),vl] w fun e w' => ∃ v:Value,e = .returned v∧Own w0 w' (Sep.Item.row (Kd.slice 3 (Kd.int .i64)) 39 v (pm n d list) :: F):=by
 intro d
 induction d with
 | zero =>
  intro list w vl F h hl
  obtain ⟨Al,cl,rfl⟩:=h.row_slice 0 rfl;have HO:=aM h;have HL:=aM hl;clear h;have c0b:((list.length:Int) == (n:Int))=true:=beq_iff_eq.mpr (by have:=HL.out;omega)
  go_enter Try.func77,Try.ntmps77
  go_wp2_with (first | ((with_reducible refine gate_dst (N:=12) rfl ?_);refine Sep.own_lit_row (Kd.int .i64) 3 HO.out 0 _ (list) rfl 39 ?hg (N:=12) ?hd ?hr ?_;(case hd=>rfl);(case hg=>rfl);(case hr=>exact za_);intro x_12 w_1 ho;have HO_1:=aM ho;clear ho))
  go_ret
  exact ⟨_,rfl,HO_1.out⟩
 | succ d ih =>
  intro list w vl F h hl
  obtain ⟨Al,cl,rfl⟩:=h.row_slice 0 rfl;have HO:=aM h;have HL:=aM hl;clear h;have c0b:((list.length:Int) == (n:Int))=false:=beq_eq_false_iff_ne.mpr (by have:=HL.out;omega);have IH:=aM ih;clear ih
  go_enter Try.func77,Try.ntmps77
  go_wp2
  go_loopw [5,6] (fun v5 v6 w' => ∃ (i:Int),0≤i∧i≤(n:Int)∧v6 = .int .i64 i∧Aside0 (Own w0 w' (Sep.Item.row (Kd.int .i64) 3 (.slice Al list.length cl) list :: Sep.Item.row (Kd.slice 3 (Kd.int .i64)) 39 v5 (pmTo n d list i.toNat) :: F))) (fun _ v6 _=>n - (intOf v6).toNat)
  case atStart=>exact ⟨0,Int.le_refl _,by omega,rfl,⟨(HO.out.nilrow (Kd.slice 3 (Kd.int .i64)) 39).front 1 rfl⟩⟩
  case round =>
   obtain ⟨i,hi0,hi1,rfl,HO1⟩:=hrel;clear HO;have HO:=HO1;clear HO1
   by_cases c1:i<(n:Int)
   ·have c1b:=decide_eq_true c1
    have hwi:wrap64 (i+1)=i+1:=by have:=hn;unfold wrap64;omega
    have HS:=aM (show Sep.pmTo n d list i.toNat++(if i∈list then [] else Sep.pm n d (list ++ [i]))=Sep.pmTo n d list (i+1).toNat from by rw [show (i+1).toNat=i.toNat+1 by omega,pmTo_succ,Int.toNat_of_nonneg hi0])
    by_cases c2:i∈list
    ·have c2b:=decide_eq_true c2
     have HS2:=HS.out;rw [if_pos c2,List.append_nil] at HS2;have HS3:=aM HS2;clear HS2 HS
     go_wp2_with (first | ((with_reducible refine gate_callee (f:=120) rfl ?_);refine goesL_ (some 20) rfl rfl Try.func120 (by kernel_rfl) rfl #[.slice Al list.length cl,.int .i64 i] rfl ze_ ?_;(with_reducible refine (spec_l1Has.calls 100 Al cl (list) i _ wr (by exact (HO.out.row_reads 0 rfl).2.2) (by exact (HO.out.row_reads 0 rfl).2.1) (spec_ddOrders.has' (list) i 100 (by have:=HL.out;omega))).mono ?_);rintro e w_1 ⟨rfl,hd⟩;refine ⟨_,rfl,?_⟩;have HO_1:=aM (HO.out.below hd.below);clear hd))
     go_roundw
     case measure=>simp only [intOf,hwi];omega
     case rel=>exact ⟨i+1,by omega,by omega,by first | rfl | rw [hwi],⟨by have ho:=HO_1.out;rw [HS3.out] at ho;exact ho⟩⟩
    ·have c2b:=decide_eq_false c2
     have HS2:=HS.out;rw [if_neg c2] at HS2;have HS3:=aM HS2;clear HS2 HS
     go_wp2_with (first | ((with_reducible refine gate_callee (f:=120) rfl ?_);refine goesL_ (some 20) rfl rfl Try.func120 (by kernel_rfl) rfl #[.slice Al list.length cl,.int .i64 i] rfl ze_ ?_;(with_reducible refine (spec_l1Has.calls 100 Al cl (list) i _ wr (by exact (HO.out.row_reads 0 rfl).2.2) (by exact (HO.out.row_reads 0 rfl).2.1) (spec_ddOrders.has' (list) i 100 (by have:=HL.out;omega))).mono ?_);rintro e w_1 ⟨rfl,hd⟩;refine ⟨_,rfl,?_⟩;have HO_1:=aM (HO.out.below hd.below);clear hd)|((with_reducible refine gate_callee (f:=81) rfl ?_);refine goesL_ (some 25) rfl rfl Try.func81 (by kernel_rfl) rfl #[.slice Al list.length cl] rfl ze_ ?_;(with_reducible refine (spec_l1Own.calls Al cl (list) (list) w_1 (by exact (HO_1.out.row_reads 0 rfl).2.2) (by exact (HO_1.out.row_reads 0 rfl).2.1) (by have:=HL.out;simp [spec_l1Own.f];omega)).mono ?_);rintro e w_2 ⟨v_2,rfl,hR,hb⟩;refine ⟨_,rfl,?_⟩;have ho:=(HO_1.out.add_row hR hb);obtain ⟨A_q1,c_q1,rfl⟩:=ho.row_slice 0 rfl;have HO_2:=aM ho;clear ho hR hb)|((with_reducible refine gate_dst (N:=28) rfl ?_);at_builtin;refine Sep.own_append (Kd.int .i64) HO_2.out 0 _ ((list)) 3 rfl rfl (.tmp 25) (.tmp 27) 39 (.int .i64 0) 8 rfl Try.underlying39 info3 rfl (by decide) (by omega) i [.int .i64 i] rfl rfl rfl zfd_ ?_;intro x_28 w_4 ho;obtain ⟨A_28,n_28,c_28,hn_,rfl⟩:=ho.row_seal 0 rfl;have HN_28:=aM hn_;clear hn_;have HO_4:=aM ho;clear ho)|((with_reducible refine gate_callee (f:=77) rfl ?_);refine goesL_ (some 29) rfl rfl Try.func77 (by kernel_rfl) rfl #[.int .i64 ((n:Int)),.slice A_28 n_28 c_28] rfl ze_ ?_;refine (IH.out (list ++ [i]) _ _ (Item.row (Kd.int .i64) 3 (.slice Al list.length cl) (list) :: Item.row (Kd.slice 3 (Kd.int .i64)) 39 (u5) ((Sep.pmTo n d list i.toNat)) :: F) HO_4.out zfd_).mono ?_;rintro e w_5 ⟨x_29,rfl,ho⟩;refine ⟨_,rfl,?_⟩;obtain ⟨A_29,c_29,rfl⟩:=ho.row_slice 0 rfl;have HO_5:=aM ho;clear ho)|((with_reducible refine gate_dst (N:=30) rfl ?_);at_builtin;refine Sep.own_merge (Kd.slice 3 (Kd.int .i64)) HO_5.out 2 0 (by decide) _ ((Sep.pmTo n d list i.toNat)) 39 rfl A_29 ((Sep.pm n d (list ++ [i])).length) c_29 ((Sep.pm n d (list ++ [i]))) rfl rfl (.tmp 22) (.tmp 29) 63 (.slice none 0 0) 24 rfl Try.underlying63 info39 rfl (by decide) (by omega) rfl rfl (by have h1:=Sep.pmTo_length hn d list i.toNat;have h2:=Sep.pm_length hn d (list ++ [i]);have h3:8 ^ d≤8 ^ 8:=Nat.pow_le_pow_right (by decide) (by omega);have h4:i.toNat * 8 ^ d≤8 * 8 ^ d:=Nat.mul_le_mul_right _ (by omega);simp only [Nat.reducePow] at h3;omega) ?_;intro x_30 w_6 ho;have HO_6:=aM ho;clear ho))
     go_roundw
     case measure=>simp only [intOf,hwi];omega
     case rel=>exact ⟨i+1,by omega,by omega,by first | rfl | rw [hwi],⟨by have ho:=(((HO_6.out.front 2 rfl).front 2 rfl).front 2 rfl).tail;rw [HS3.out] at ho;exact ho⟩⟩
   ·have c1b:=decide_eq_false c1
    obtain rfl:i=(n:Int):=by omega
    have ho:=HO.out.tail;rw [Int.toNat_natCast] at ho;have HO1:=aM ho;clear ho
    go_wp2
    go_ret
    exact ⟨_,rfl,HO1.out⟩
mutual
def spec_ddReorder.l0:Nat→List Int→Int→Int→Int→List Int→Int→List Int→Option (Int×List Int)
 | 0,_,_,_,_,_,_,_=>none
 | k+1,x1,x15,x16,x344000,x344001,x346000,x346001=>if x16<x15 then (spec_ddReorder.l1 k x1 x16 0 x15 x16 x1 (x1.length:Int) 0 x344000 x344001 x346000 x346001) else (some (x346000,x346001))
def spec_ddReorder.l1:Nat→List Int→Int→Int→Int→Int→List Int→Int→Int→Int→List Int→Int→List Int→Option (Int×List Int)
 | 0,_,_,_,_,_,_,_,_,_,_,_,_=>none
 | k+1,x1,x6,x7,x15,x16,x19,x20,x21,x344000,x344001,x346000,x346001=>if x21<x20 then (if 0≤x21 then (if x21<(x19.length:Int) then ((spec_ttBit.f x6 x21).bind fun t347=>(if 0≤(IntKind.u64.wrap (rd x19 x21)) then (spec_ddReorder.l1 k x1 x6 (wrap64 (x7+(shl .i64 t347 (IntKind.u64.wrap (rd x19 x21))))) x15 x16 x19 x20 (wrap64 (x21+1)) x344000 x344001 x346000 x346001) else (none))) else (none)) else (none)) else (if 0≤x7 then (if x7<(x344001.length:Int) then (if x346001.length<17592186044416 then (spec_ddReorder.l0 k x1 x15 (wrap64 (x16+1)) x344000 x344001 x346000 (x346001 ++ [rd x344001 x7])) else (none)) else (none)) else (none))
end
def spec_ddReorder.f (k:Nat) (a0_0:Int) (l0_1:List Int) (l1:List Int):Option (Int×List Int):=spec_ddReorder.l0 k l1 (l0_1.length:Int) 0 a0_0 l0_1 a0_0 ([]:List Int)
theorem spec_ddReorder.mono_l:∀ k,(∀ y0 y1 y2 y3 y4 y5 y6,LeO (spec_ddReorder.l0 k y0 y1 y2 y3 y4 y5 y6) (spec_ddReorder.l0 (k+1) y0 y1 y2 y3 y4 y5 y6))∧(∀ y0 y1 y2 y3 y4 y5 y6 y7 y8 y9 y10 y11,LeO (spec_ddReorder.l1 k y0 y1 y2 y3 y4 y5 y6 y7 y8 y9 y10 y11) (spec_ddReorder.l1 (k+1) y0 y1 y2 y3 y4 y5 y6 y7 y8 y9 y10 y11))
 | 0=>⟨fun _ _ _ _ _ _ _ r h=>by simp [spec_ddReorder.l0] at h,fun _ _ _ _ _ _ _ _ _ _ _ _ r h=>by simp [spec_ddReorder.l1] at h⟩
 | k+1=>by
  obtain ⟨ih0,ih1⟩:=spec_ddReorder.mono_l k
  refine ⟨?_,?_⟩
  ·intro y0 y1 y2 y3 y4 y5 y6
   unfold spec_ddReorder.l0
   repeat' first
   | (with_reducible exact ih0 _ _ _ _ _ _ _)
   | (with_reducible exact ih1 _ _ _ _ _ _ _ _ _ _ _ _)
   | (with_reducible exact LeO.refl _)
   | (with_reducible exact LeO.none _)
   | (with_reducible refine LeO.ite ?_ ?_)
   | (with_reducible refine LeO.bind ?_ (fun _=>?_))
   | exact ih0 _ _ _ _ _ _ _
   | exact ih1 _ _ _ _ _ _ _ _ _ _ _ _
   | exact LeO.none _
   | refine LeO.ite ?_ ?_
   | refine LeO.bind ?_ (fun _=>?_)
  ·intro y0 y1 y2 y3 y4 y5 y6 y7 y8 y9 y10 y11
   unfold spec_ddReorder.l1
   repeat' first
   | (with_reducible exact ih0 _ _ _ _ _ _ _)
   | (with_reducible exact ih1 _ _ _ _ _ _ _ _ _ _ _ _)
   | (with_reducible exact LeO.refl _)
   | (with_reducible exact LeO.none _)
   | (with_reducible refine LeO.ite ?_ ?_)
   | (with_reducible refine LeO.bind ?_ (fun _=>?_))
   | exact ih0 _ _ _ _ _ _ _
   | exact ih1 _ _ _ _ _ _ _ _ _ _ _ _
   | exact LeO.none _
   | refine LeO.ite ?_ ?_
   | refine LeO.bind ?_ (fun _=>?_)
theorem spec_ddReorder.mono:∀ a0 a1 a2 k,LeO (spec_ddReorder.f k a0 a1 a2) (spec_ddReorder.f (k+1) a0 a1 a2):=by
 intro a0 a1 a2 k
 obtain ⟨ih0,ih1⟩:=spec_ddReorder.mono_l k
 unfold spec_ddReorder.f
 repeat' first
   | (with_reducible exact ih0 _ _ _ _ _ _ _)
   | (with_reducible exact ih1 _ _ _ _ _ _ _ _ _ _ _ _)
   | (with_reducible exact LeO.refl _)
   | (with_reducible exact LeO.none _)
   | (with_reducible refine LeO.ite ?_ ?_)
   | (with_reducible refine LeO.bind ?_ (fun _=>?_))
   | exact ih0 _ _ _ _ _ _ _
   | exact ih1 _ _ _ _ _ _ _ _ _ _ _ _
   | exact LeO.none _
   | refine LeO.ite ?_ ?_
   | refine LeO.bind ?_ (fun _=>?_)
def spec_ddReorder.T11:Bool×List (List Nat×List Nat):=(true,[([],[]),([0],[0]),([],[]),([2],[2]),([],[]),([3,4],[3,4]),([5],[5]),([6],[6]),([1,7],[1,7]),([0,1,2,3,4,5,6,7,8],[]),([9,8,8,0,1,2,3,4,5,6,7,8],[8,9])])
def spec_ddReorder.B11:List Nat:=[0,1,0,4,0,28,60,124,255,511,1023]
theorem spec_ddReorder.tab11:rtab .any (opsOf Try.f78 11)=spec_ddReorder.T11:=by kernel_rfl
theorem spec_ddReorder.bits11:waitsOk spec_ddReorder.T11.2 spec_ddReorder.B11=true:=by kernel_rfl
set_option maxHeartbeats 8000000 in
set_option maxRecDepth 100000 in
theorem spec_ddReorder.calls (k:Nat) (a0_0:Int) (A0_1:Option Addr) (c0_1:Nat) (l0_1:List Int) (A1:Option Addr) (c1:Nat) (l1:List Int) (r1:Int) (r2:List Int) (w:World) (hr0_1:Kd.C (Kd.int .i64) w A0_1 l0_1.length l0_1) (hc0_1:l0_1.length≤c0_1) (hr1:Kd.C (Kd.int .i64) w A1 l1.length l1) (hc1:l1.length≤c1) (h:spec_ddReorder.f k a0_0 l0_1 l1=some (r1,r2)) :
  Calls Try.prog 78 #[.agg #[.int .i64 a0_0,.slice A0_1 l0_1.length c0_1],.slice A1 l1.length c1] w fun e w' => ∃ v1_:Value,e = .returned (.agg #[.int .i64 r1,v1_])∧Kd.R (Kd.int .i64) 3 w' w.heap.size (fun _=>True) v1_ r2∧Below w.heap.size w w':=by
 have hu41:=Try.underlying41
 have HR0_1:=aM hr0_1
 have HC0_1:=aM hc0_1
 clear hr0_1 hc0_1
 have HR1:=aM hr1
 have HC1:=aM hc1
 clear hr1 hc1
 have HB:=aM (Below.refl w.heap.size w)
 have H:(spec_ddReorder.l0 k l1 (l0_1.length:Int) 0 a0_0 l0_1 a0_0 ([]:List Int))=some (r1,r2):=h
 clear h
 have H':=aM H
 clear H
 go_enter Try.func78,Try.ntmps78
 go_wp2_with (first | ((with_reducible refine gate_dst (N:=2) rfl ?_);refine box_event ?hg (N:=2) ?hd (cs:=#[.int .i64 a0_0,.slice A0_1 l0_1.length c0_1]) (t:=41) ?hr ?_;(case hd=>rfl);(case hg=>rfl);(case hr=>exact za_);intro gb343 hg w3 hbox hb;have n_:=z (below_step zb_ hb)<|z (hbox)<|z ((by rw [hg];exact (below_size zb_):w.heap.size≤gb343))<|z1 ((by rw [hg];exact (below_size zb_):w.heap.size≤gb343));clear HB;obtain ⟨HB,BK343,GW343,GE343⟩:=n_;clear hb hbox hg)|((with_reducible refine gate_dst (N:=4) rfl ?_);refine box_event ?hg (N:=4) ?hd (cs:=#[.int .i64 0,.slice none 0 0]) (t:=41) ?hr ?_;(case hd=>rfl);(case hg=>rfl);(case hr=>exact za_);intro gb344 hg w4 hbox hb;have n_:=z (blk_below (zb BK343.out) hb)<|z (below_step zbai_ hb)<|z (hbox)<|z ((by rw [hg];exact (below_size zbai_):w.heap.size≤gb344))<|z ((by rw [hg];exact (below_size zbai_):w.heap.size≤gb344))<|z ((by rw [hg];exact Nat.ne_of_lt (blk_lt (zb BK343.out)):gb343≠gb344))<|z1 ((by rw [hg];exact Nat.ne_of_gt (blk_lt (zb BK343.out)):gb344≠gb343));clear BK343 HB;obtain ⟨BK343,HB,BK344,GW344,GE344,NB343_344,NB344_343⟩:=n_;clear hb hbox hg;have hnb5:=NB343_344.out;have hnc5:=NB344_343.out;obtain ⟨hcz6_0,hcz6_1,hfz6_0,hfz6_1⟩:=zk2 BK343.out)|((with_reducible refine gate_dst (N:=5) rfl ?_);refine box_event ?hg (N:=5) ?hd (cs:=#[.int .i64 0,.slice none 0 0]) (t:=41) ?hr ?_;(case hd=>rfl);(case hg=>rfl);(case hr=>exact za_);intro gb345 hg w7 hbox hb;have n_:=z (blk_below (zb BK343.out) hb)<|z (blk_below (zb BK344.out) hb)<|z (below_step zbaj_ hb)<|z (hbox)<|z ((by rw [hg];exact (below_size zbaj_):w.heap.size≤gb345))<|z ((by rw [hg];exact (below_size zbaj_):w.heap.size≤gb345))<|z ((by rw [hg];exact Nat.ne_of_lt (blk_lt (zb BK343.out)):gb343≠gb345))<|z ((by rw [hg];exact Nat.ne_of_gt (blk_lt (zb BK343.out)):gb345≠gb343))<|z ((by rw [hg];exact Nat.ne_of_lt (blk_lt (zb BK344.out)):gb344≠gb345))<|z1 ((by rw [hg];exact Nat.ne_of_gt (blk_lt (zb BK344.out)):gb345≠gb344));clear BK343 BK344 HB;obtain ⟨BK343,BK344,HB,BK345,GW345,GE345,NB343_345,NB345_343,NB344_345,NB345_344⟩:=n_;clear hb hbox hg;have hnb8:=NB345_343.out;have hnc8:=NB343_345.out;have hnb9:=NB345_344.out;have hnc9:=NB344_345.out;obtain ⟨hcz10_0,hcz10_1,hfz10_0,hfz10_1⟩:=zk2 BK345.out;obtain ⟨hcz11_0,hcz11_1,hfz11_0,hfz11_1⟩:=zk2 BK343.out))
 go_loopg [16] k (fun kq v16 w' => ∃ (x16_1:Int) (x346001_1:List Int) (u346001:Value),v16 = .int .i64 x16_1∧Aside0 (spec_ddReorder.l0 kq l1 (l0_1.length:Int) x16_1 a0_0 l0_1 a0_0 x346001_1=some (r1,r2))∧Aside0 (kq≤k)∧Aside0 (Kd.R (Kd.int .i64) 3 w' w.heap.size (fun _=>True) u346001 x346001_1)∧Aside0 (w'.heap[gb343]?=some (.cells #[.int .i64 a0_0,(.slice A0_1 l0_1.length c0_1)] 41 (0,0)))∧Aside0 (w'.heap[gb344]?=some (.cells #[.int .i64 0,(.slice none 0 0)] 41 (0,0)))∧Aside0 (w'.heap[gb345]?=some (.cells #[.int .i64 a0_0,u346001] 41 (0,0)))∧Aside0 (Below w.heap.size w w'))
 case atStart=>exact ⟨(0),(([]:List Int)),(.slice none 0 0),zd_,H',⟨Nat.le_refl _⟩,⟨zdd_⟩,⟨by refine zb ?_;refine blk_far ?_ NB343_345.out _;refine zb ?_;refine blk_far ?_ NB343_345.out _;refine zb ?_;exact BK343.out⟩,⟨by refine zb ?_;refine blk_far ?_ NB344_345.out _;refine zb ?_;refine blk_far ?_ NB344_345.out _;refine zb ?_;exact BK344.out⟩,⟨by refine zb ?_;refine blk_put (cs:=#[.int .i64 a0_0,.slice none 0 0]) ?_ 1 _ rfl;refine zb ?_;refine blk_put (cs:=#[.int .i64 0,.slice none 0 0]) ?_ 0 _ rfl;refine zb ?_;exact BK345.out⟩,⟨zfi_⟩⟩
 case round =>
  clear H';(try clear hcz10_0);(try clear hcz10_1);(try clear hcz11_0);(try clear hcz11_1);(try clear hcz6_0);(try clear hcz6_1);(try clear hfz10_0);(try clear hfz10_1);(try clear hfz11_0);(try clear hfz11_1);(try clear hfz6_0);(try clear hfz6_1);obtain ⟨x16_1,x346001_1,u346001,rfl,HA,HK1,HO_346001,BK343,BK344,BK345,HB⟩:=hrel
  cases gk with
  | zero=>exact absurd HA.out (by simp [spec_ddReorder.l0])
  | succ k1 =>
   have H:=HA.out;clear HA
   simp only [spec_ddReorder.l0] at H
   by_cases c12:x16_1<(l0_1.length:Int)
   ·rw [if_pos c12] at H
    have c12b0:=decide_eq_true c12;clear c12;have H':=aM H;clear H
    go_wp2
    go_loopg [7,21] k1 (fun kq v7 v21 w' => ∃ (x7_2:Int) (x21_2:Int),v7 = .int .i64 x7_2∧v21 = .int .i64 x21_2∧Aside0 (spec_ddReorder.l1 kq l1 x16_1 x7_2 (l0_1.length:Int) x16_1 l1 (l1.length:Int) x21_2 a0_0 l0_1 a0_0 x346001_1=some (r1,r2))∧Aside0 (kq≤k1)∧Aside0 (Kd.R (Kd.int .i64) 3 w' w.heap.size (fun _=>True) u346001 x346001_1)∧Aside0 (w'.heap[gb343]?=some (.cells #[.int .i64 a0_0,(.slice A0_1 l0_1.length c0_1)] 41 (0,0)))∧Aside0 (w'.heap[gb344]?=some (.cells #[.int .i64 0,(.slice none 0 0)] 41 (0,0)))∧Aside0 (w'.heap[gb345]?=some (.cells #[.int .i64 a0_0,u346001] 41 (0,0)))∧Aside0 (Below w.heap.size w w'))
    case atStart=>exact ⟨(0),(0),zd_,zd_,H',⟨Nat.le_refl _⟩,⟨zr HO_346001.out⟩,⟨zb BK343.out⟩,⟨zb BK344.out⟩,⟨zb BK345.out⟩,⟨zfi_⟩⟩
    case round =>
     clear H';(try clear c12b0);obtain ⟨x7_2,x21_2,rfl,rfl,HA,HK2,HO_346001,BK343,BK344,BK345,HB⟩:=hrel
     cases gk with
     | zero=>exact absurd HA.out (by simp [spec_ddReorder.l1])
     | succ k2 =>
      have H:=HA.out;clear HA
      simp only [spec_ddReorder.l1] at H
      by_cases c13:x21_2<(l1.length:Int)
      ·rw [if_pos c13] at H
       have c13b0:=decide_eq_true c13;clear c13
       by_cases c14:0≤x21_2
       ·rw [if_pos c14] at H
        have c14b0:=decide_eq_true c14;clear c14
        by_cases c15:x21_2<(l1.length:Int)
        ·rw [if_pos c15] at H
         have c15b0:=decide_eq_true c15;clear c15;replace H:=oB.mp H;obtain ⟨t347,A160,H⟩:=H;replace H:(if 0≤(IntKind.u64.wrap (rd l1 x21_2)) then (spec_ddReorder.l1 k2 l1 x16_1 (wrap64 (x7_2+(shl .i64 t347 (IntKind.u64.wrap (rd l1 x21_2))))) (l0_1.length:Int) x16_1 l1 (l1.length:Int) (wrap64 (x21_2+1)) a0_0 l0_1 a0_0 x346001_1) else (none))=some (r1,r2):=H;have A16:=aM A160;clear A160;obtain ⟨ji17,hji17⟩:∃ j_:Int,(IntKind.u64.wrap (rd l1 x21_2))=j_:=⟨_,rfl⟩;replace H:(if 0≤(ji17) then (spec_ddReorder.l1 k2 l1 x16_1 (wrap64 (x7_2+(shl .i64 t347 (ji17)))) (l0_1.length:Int) x16_1 l1 (l1.length:Int) (wrap64 (x21_2+1)) a0_0 l0_1 a0_0 x346001_1) else (none))=some (r1,r2):=by first | (rw [hji17] at H;exact H)|(simp only [hji17] at H ⊢;exact H)
         (try rw [hji17] at A16)
         by_cases c18:0≤(ji17)
         ·rw [if_pos c18] at H
          have c18b0:=eq_true c18;have c18b1:=decide_eq_true c18;clear c18;obtain ⟨ji19,hji19⟩:∃ j_:Int,(shl .i64 t347 (ji17))=j_:=⟨_,rfl⟩;replace H:(spec_ddReorder.l1 k2 l1 x16_1 (wrap64 (x7_2+(ji19))) (l0_1.length:Int) x16_1 l1 (l1.length:Int) (wrap64 (x21_2+1)) a0_0 l0_1 a0_0 x346001_1)=some (r1,r2):=by first | (rw [hji19] at H;exact H)|(simp only [hji19] at H ⊢;exact H)
          (try rw [hji19] at A16);have hji19_:(IntKind.i64.wrap (t347 * 2 ^ min (ji17).toNat 64))=ji19:=hji19;have hji19z:(ji17)≤64→(IntKind.i64.wrap (t347 * 2 ^ (ji17).toNat))=ji19:=shl_small hji19;have hji19y:(wrap64 (t347 * 2 ^ min (ji17).toNat 64))=ji19:=(i64_w _).symm.trans hji19_;have hji19x:(ji17)≤64→(wrap64 (t347 * 2 ^ (ji17).toNat))=ji19:=fun h_=>(i64_w _).symm.trans (hji19z h_)
          have H':=aM H;clear H;have p346:0≤(x21_2:Int):=of_decide_eq_true zc_;have q346:x21_2<(l1.length:Int):=of_decide_eq_true zc_;obtain ⟨ad346,e346,hx346_0⟩:=Kd.at_int HR1.out x21_2 p346 q346
          cases e346
          (try (replace hx346_0:=q3h_ HB.out hx346_0));replace p346:=eq_true p346;replace q346:=eq_true q346
          go_wp2_with (first | ((with_reducible refine gate_callee (f:=112) rfl ?_);refine goesL_ (some 29) rfl rfl Try.func112 (by kernel_rfl) rfl #[.int .i64 x16_1,.int .i64 x21_2] rfl zf_ ?_;(with_reducible refine (spec_ttBit.calls x16_1 x21_2 t347 _ A16.out).mono ?_);rintro e w' ⟨rfl,⟨nd,rfl⟩⟩;refine ⟨_,rfl,?_⟩))
          go_roundg k2
          case measure=>have:=HK1.out;have:=HK2.out;omega
          case rel=>exact ⟨(wrap64 (x7_2+(ji19))),(wrap64 (x21_2+1)),(by first | rfl | (simp;done)|(simp only [← hji19] <;> (first | rfl | simp))|(simp [*];done)),zd_,H',⟨zgd_⟩,⟨zr HO_346001.out⟩,⟨zb BK343.out⟩,⟨zb BK344.out⟩,⟨zb BK345.out⟩,⟨zfi_⟩⟩
         ·rw [if_neg c18] at H
          exact q3n_ H
        ·rw [if_neg c15] at H
         exact q3n_ H
       ·rw [if_neg c14] at H
        exact q3n_ H
      ·rw [if_neg c13] at H
       have c13b0:=decide_eq_false c13;clear c13
       by_cases c20:0≤x7_2
       ·rw [if_pos c20] at H
        have c20b0:=decide_eq_true c20;clear c20
        by_cases c21:x7_2<(l0_1.length:Int)
        ·rw [if_pos c21] at H
         have c21b0:=decide_eq_true c21;clear c21
         by_cases c22:x346001_1.length<17592186044416
         ·rw [if_pos c22] at H
          have LMc22:=aM c22;clear c22;obtain ⟨y349,hy349⟩:∃ y_:List Int,y_=(x346001_1 ++ [rd l0_1 x7_2]):=⟨_,rfl⟩;replace H:(spec_ddReorder.l0 k2 l1 (l0_1.length:Int) (wrap64 (x16_1+1)) a0_0 l0_1 a0_0 y349)=some (r1,r2):=q3y_ hy349 H
          have Ny349:=aM hy349;clear hy349;have H':=aM H;clear H;(try go_wp2);have n_:=z (kD HO_346001.out)<|z (blk_drew BK343.out)<|z (blk_drew BK344.out)<|z (blk_drew BK345.out)<|z1 (p1 HB.out)
          clear HO_346001 BK343 BK344 BK345 HB;obtain ⟨HO_346001,BK343,BK344,BK345,HB⟩:=n_;have p348:0≤(x7_2:Int):=of_decide_eq_true zc_;have q348:x7_2<(l0_1.length:Int):=of_decide_eq_true zc_;obtain ⟨ad348,e348,hx348_0⟩:=Kd.at_int HR0_1.out x7_2 p348 q348;have hw348_0:=hx348_0
          cases e348
          (try (replace hx348_0:=q3h_ HB.out hx348_0));replace p348:=eq_true p348;replace q348:=eq_true q348
          refine start_ (n:=11) (S:=fun w'=>w'.cell? ⟨gb345,0,none⟩=some (.int .i64 a0_0)∧w'.cell? ⟨gb345,1,none⟩=some (u346001)∧w'.cell? ⟨gb343,0,none⟩=some (.int .i64 a0_0)∧w'.cell? ⟨gb343,1,none⟩=some (.slice (some ad348) l0_1.length c0_1)∧w'.cell? (ad348.add (x7_2).toNat)=some (.int .i64 (rd l0_1 x7_2))) (ds:=[10]) #[fi,fi,fi,fi,fi,fi,fi,fi,fi,fi,fi] (by kernel_rfl) rfl rfl ⟨(blk_cell BK345.out 0).trans rfl,(blk_cell BK345.out 1).trans rfl,(blk_cell BK343.out 0).trans rfl,(blk_cell BK343.out 1).trans rfl,((HB.out.cell (World.block_lt_of_cell? w _ hw348_0)).trans hw348_0)⟩ (fun hHeld=>?_);refine with_tabW spec_ddReorder.tab11 spec_ddReorder.bits11 (fun HT_ HW_=>?_)
          generalize wr.drew=w23 at HO_346001 BK343 BK344 BK345 HB hx348_0 hHeld ⊢;refine py_ 0 35 HT_.out ?_;refine py_ 2 37 HT_.out ?_;refine py_ 4 39 HT_.out ?_
          refine tw5_ 1 36 HT_.out HW_.out hHeld ?_
          refine tw5_ 3 38 HT_.out HW_.out hHeld ?_
          refine py_ 5 40 HT_.out ?_
          refine tw5_ 6 41 HT_.out HW_.out hHeld ?_
          refine one_ (i:=7) (N:=some 42) #[ti,ti,ti,ti,ti,ti,ti,ti,fi,fi,fi] rfl rfl (one_of HT_.out (by kernel_rfl)) (by decide) (fun K hK=>?_)
          refine value_ (w1:=?_) (v:=?_) (by rfl) rfl ?_ ?_
          rotate_left 2
          ·go_simp
           constructor
           ·rfl
           ·rfl
          refine hK.out _ _ ⟨(blk_cell (blk_alloc BK345.out _) 0).trans rfl,(blk_cell (blk_alloc BK345.out _) 1).trans rfl,(blk_cell (blk_alloc BK343.out _) 0).trans rfl,(blk_cell (blk_alloc BK343.out _) 1).trans rfl,(World.cell?_alloc_lt _ _ _ (World.block_lt_of_cell? _ _ (((HB.out.cell (World.block_lt_of_cell? w _ hw348_0)).trans hw348_0)))).trans (((HB.out.cell (World.block_lt_of_cell? w _ hw348_0)).trans hw348_0))⟩ (fun hHeld=>?_)
          clear hK K
          refine nz_ 42 ?_
          refine one_ (i:=8) (N:=some 43) #[ti,ti,ti,ti,ti,ti,ti,ti,ti,fi,fi] rfl rfl (one_of HT_.out (by kernel_rfl)) (by decide) (fun K hK=>?_)
          refine Kd.R_append_step (Kd.int .i64) (w0:=w) w.heap.size (by rfl) (.tmp 36) (.tmp 42) 39 3 (.int .i64 0) 8 rfl Try.underlying39 info3 rfl (by decide) (by omega) u346001 x346001_1 (rd l0_1 x7_2) [.int .i64 (rd l0_1 x7_2)] (fun _=>True) (fun _=>False) rfl rfl ?aP (fun _ hk=>hk.elim) ?aF ?aO ?aB ?aS ?aL ?_
          (case aP=>exact rfl)
          (case aB=>exact zfi_)
          (case aF=>exact zdi_)
          (case aO=>exact (zr HO_346001.out))
          (case aS=>exact (below_size zfi_))
          (case aL=>have:=LMc22.out;omega)
          intro v350 w24 ho hb hg hat
          rw [← Ny349.out] at ho;have n_:=z (blk_grown (g:=gb343) (o := .cells #[.int .i64 a0_0,.slice (some ad348) l0_1.length c0_1] 41 (0,0)) (zb BK343.out) hg (Kd.R_ne HO_346001.out BK343.out (by decide)))<|z (blk_grown (g:=gb344) (o := .cells #[.int .i64 0,.slice none 0 0] 41 (0,0)) (zb BK344.out) hg (Kd.R_ne HO_346001.out BK344.out (by decide)))<|z (blk_grown (g:=gb345) (o := .cells #[.int .i64 a0_0,u346001] 41 (0,0)) (zb BK345.out) hg (Kd.R_ne HO_346001.out BK345.out (by decide)))<|z (hb)<|z1 (ho)
          clear BK343 BK344 BK345 HB HO_346001;obtain ⟨BK343,BK344,BK345,HB,HO351⟩:=n_;clear ho hb hg hat;obtain ⟨Ao25,co25,eo25⟩:=Kd.R_slice HO351.out;(first | subst eo25 | (injection eo25 with f1_ f2_ f3_;have f4_:=f1_.symm;have f5_:=f3_.symm;clear f1_ f2_ f3_;subst f4_;subst f5_))
          refine hK.out _ _ ⟨(blk_cell BK345.out 0).trans rfl,(blk_cell BK345.out 1).trans rfl,(blk_cell BK343.out 0).trans rfl,(blk_cell BK343.out 1).trans rfl,((HB.out.cell (World.block_lt_of_cell? w _ hw348_0)).trans hw348_0)⟩ (fun hHeld=>?_)
          clear hK K
          refine nz_ 43 ?_
          refine py_ 9 44 HT_.out ?_
          refine last_ (i:=10) (N:=none) #[ti,ti,ti,ti,ti,ti,ti,ti,ti,ti,ti] rfl rfl (one_of HT_.out (by kernel_rfl)) (by decide) (fun K hK=>?_)
          have hs26:w24.cell? ⟨gb345,1,none⟩=some (u346001):=(blk_cell BK345.out 1).trans rfl;have hfs26:=blk_frozen BK345.out 1;have hns26_0:=NB343_345.out;have hns26_1:=NB344_345.out;have hms26_0:=NB345_343.out;have hms26_1:=NB345_344.out
          refine skip_ (w1:=?_) (by rfl) rfl ?_ ?_
          rotate_left
          ·go_simp
           rfl
          refine hK.out _ _ ?_
          clear hK K
          refine done_ (done_of HT_.out (by kernel_rfl)) ?_
          (try go_wp2)
          go_roundg k2
          case measure=>have:=HK1.out;have:=HK2.out;omega
          case rel=>exact ⟨(wrap64 (x16_1+1)),(y349),(.slice Ao25 y349.length co25),zd_,H',⟨zgd_⟩,⟨by refine zr ?_;exact Kd.R_mono (Kd.R_far (p:=⟨gb345,1,none⟩) (Kd.R_types HO351.out BK345.out (by decide)) (fun _ hk=>hk.2) (.slice Ao25 y349.length co25)) (fun _ hk=>trivial)⟩,⟨by refine zb ?_;refine blk_far ?_ NB343_345.out _;refine zb ?_;exact BK343.out⟩,⟨by refine zb ?_;refine blk_far ?_ NB344_345.out _;refine zb ?_;exact BK344.out⟩,⟨by refine zb ?_;refine blk_put (cs:=#[.int .i64 a0_0,u346001]) ?_ 1 _ rfl;refine zb ?_;exact BK345.out⟩,⟨zfi_⟩⟩
         ·rw [if_neg c22] at H
          exact q3n_ H
        ·rw [if_neg c21] at H
         exact q3n_ H
       ·rw [if_neg c20] at H
        exact q3n_ H
   ·rw [if_neg c12] at H
    have c12b0:=decide_eq_false c12;clear c12
    simp only [Option.some.injEq,Prod.mk.injEq] at H
    obtain ⟨rfl,rfl⟩:=H;have hnb27:=NB345_343.out;have hnc27:=NB343_345.out;have hnb28:=NB345_344.out;have hnc28:=NB344_345.out;obtain ⟨hcz29_0,hcz29_1,hfz29_0,hfz29_1⟩:=zk2 BK345.out;have hnb30:=NB344_343.out;have hnc30:=NB343_344.out;obtain ⟨hcz31_0,hcz31_1,hfz31_0,hfz31_1⟩:=zk2 BK344.out;obtain ⟨Ao32,co32,eo32⟩:=Kd.R_slice HO_346001.out;subst eo32
    go_wp2
    refine bodyPost_ret (results_cell_row rfl _ _ gb344 41 #[.int .i64 a0_0,.slice Ao32 x346001_1.length co32] (0,0) _ rfl (by refine zb ?_;refine blk_put (cs:=#[.int .i64 a0_0,.slice none 0 0]) ?_ 1 _ rfl;refine zb ?_;refine blk_put (cs:=#[.int .i64 0,.slice none 0 0]) ?_ 0 _ rfl;refine zb ?_;exact BK344.out) Try.underlying41 rfl (by kernel_rfl)) rfl ?_
    exact ⟨_,zg_,by refine zr ?_;exact Kd.R_mono (Kd.R_far (p:=⟨gb344,1,none⟩) (Kd.R_far (p:=⟨gb344,0,none⟩) (Kd.R_types HO_346001.out BK344.out (by decide)) (fun _ hk=>hk.2) (.int .i64 a0_0)) (fun _ hk=>hk.2) (.slice Ao32 x346001_1.length co32)) (fun _ hk=>trivial),zfi_⟩
def spec_BestOrder.cN (k:Nat) (n:Int) (vs o:List Int):Option Int:=(spec_ddReorder.f k n vs o).bind fun t=>(spec_ddMake.f k t.1 t.2).bind fun d=>some (d.2.1.length:Int)
def spec_BestOrder.cost (k:Nat) (n:Int) (vs o:List Int):Int:=(spec_BestOrder.cN k n vs o).getD 0
def spec_BestOrder.pick (c:List Int→Int) (st:List Int×Int) (o:List Int):List Int×Int:=if st.2<0∨c o<st.2 then (o,c o) else st
def spec_BestOrder.at (c:List Int→Int) (os:List (List Int)) (j:Nat):List Int×Int:=(os.take j).foldl (spec_BestOrder.pick c) ([],-1)
theorem spec_BestOrder.at_succ (c:List Int→Int) (os:List (List Int)) (j:Int) (h0:0≤j) (h1:j<(os.length:Int)):spec_BestOrder.at c os (j+1).toNat=spec_BestOrder.pick c (spec_BestOrder.at c os j.toNat) (os.getD j.toNat []):=by
 have hl:j.toNat<os.length:=by omega
 unfold spec_BestOrder.at
 rw [show (j+1).toNat=j.toNat+1 by omega,List.take_add_one,List.getElem?_eq_getElem hl,List.foldl_append,List.getD_eq_getElem?_getD,List.getElem?_eq_getElem hl]
 rfl
theorem spec_BestOrder.congr (c d:List Int→Int):∀ (os:List (List Int)) (st:List Int×Int),(∀ o∈os,c o=d o)→os.foldl (spec_BestOrder.pick c) st=os.foldl (spec_BestOrder.pick d) st:=by
 intro os
 induction os with
 | nil=>intro st _;rfl
 | cons o os ih =>
  intro st h
  rw [List.foldl_cons,List.foldl_cons,ih _ (fun y hy=>h y (List.mem_cons_of_mem _ hy))]
  unfold spec_BestOrder.pick
  rw [h o List.mem_cons_self]
def spec_BestOrder.f (k:Nat) (a0_0:Int) (l0_1:List Int):Option (List Int×Int×Bool):=
 (spec_ttGood.f k a0_0 l0_1).bind fun t=>if t=true then (if 0≤a0_0∧a0_0≤8∧100≤k∧(Sep.pm a0_0.toNat a0_0.toNat []).length≤1000000000∧(∀ o∈Sep.pm a0_0.toNat a0_0.toNat [],(spec_BestOrder.cN k a0_0 l0_1 o).isSome=true) then some ((spec_BestOrder.at (spec_BestOrder.cost k a0_0 l0_1) (Sep.pm a0_0.toNat a0_0.toNat []) (Sep.pm a0_0.toNat a0_0.toNat []).length).1,(spec_BestOrder.at (spec_BestOrder.cost k a0_0 l0_1) (Sep.pm a0_0.toNat a0_0.toNat []) (Sep.pm a0_0.toNat a0_0.toNat []).length).2,true) else none) else some ([],0,false)
theorem spec_BestOrder.cmono (k:Nat) (n:Int) (vs o:List Int):LeO (spec_BestOrder.cN k n vs o) (spec_BestOrder.cN (k+1) n vs o):=LeO.bind (spec_ddReorder.mono n vs o k) (fun t=>LeO.bind (spec_ddMake.mono t.1 t.2 k) (fun _=>LeO.refl _))
open Go.Proofs.Ytlnhpkjioppbiaa.Sep in
set_option maxHeartbeats 16000000 in
set_option maxRecDepth 100000 in
theorem spec_BestOrder.calls (k:Nat) (a0_0:Int) (A0_1:Option Addr) (c0_1:Nat) (l0_1:List Int) (r1:List Int) (r2:Int) (r3:Bool) (w:World) (hr0_1:Kd.C (Kd.int .i64) w A0_1 l0_1.length l0_1) (hc0_1:l0_1.length≤c0_1) (h:spec_BestOrder.f k a0_0 l0_1=some (r1,r2,r3)) :
  Calls Try.prog 25 #[.agg #[.int .i64 a0_0,.slice A0_1 l0_1.length c0_1]] w fun e w' => ∃ v0_:Value,e = .returned (.tuple #[v0_,.int .i64 r2,.bool r3])∧Kd.R (Kd.int .i64) 3 w' w.heap.size (fun _=>True) v0_ r1∧Below w.heap.size w w':=by
 have HR0:=aM hr0_1
 have HC0:=aM hc0_1
 clear hr0_1 hc0_1
 unfold spec_BestOrder.f at h
 obtain ⟨t,hA,h1⟩:=oB.mp h
 clear h
 have HA:=aM hA
 clear hA
 have hfd28_0:∀ (x0:Int) (A1:Option Addr) (n1 c1:Nat) (x2:Int) (w:World),(Instr.field 28 (.agg #[.int .i64 x0,.slice A1 n1 c1,.int .i64 x2]) 0).run Try.prog w = .ok (.int .i64 x0) w:=fun _ _ _ _ _ _=>by kernel_rfl
 have hfd28_1:∀ (x0:Int) (A1:Option Addr) (n1 c1:Nat) (x2:Int) (w:World),(Instr.field 28 (.agg #[.int .i64 x0,.slice A1 n1 c1,.int .i64 x2]) 1).run Try.prog w = .ok (.slice A1 n1 c1) w:=fun _ _ _ _ _ _=>by kernel_rfl
 have hfd28_2:∀ (x0:Int) (A1:Option Addr) (n1 c1:Nat) (x2:Int) (w:World),(Instr.field 28 (.agg #[.int .i64 x0,.slice A1 n1 c1,.int .i64 x2]) 2).run Try.prog w = .ok (.int .i64 x2) w:=fun _ _ _ _ _ _=>by kernel_rfl
 cases t with
 | false =>
  rw [if_neg (by decide)] at h1;have h2:(([]:List Int),(0:Int),false)=(r1,r2,r3):=Option.some.inj h1;clear h1
  injection h2 with e1 e2
  injection e2 with e2 e3
  subst e1;subst e2;subst e3
  go_enter Try.func25,Try.ntmps25
  go_wp2_with (first | ((with_reducible refine gate_dst (N:=1) rfl ?_);refine box_event ?hg (N:=1) ?hd (cs:=#[.int .i64 a0_0,.slice A0_1 l0_1.length c0_1]) (t:=41) ?hr ?_;(case hd=>rfl);(case hg=>rfl);(case hr=>exact za_);intro gt hg w_1 hbox hb;have HO_1:=aM ((Sep.Own.nil w).add_box (T:=41) (cs:=#[.int .i64 a0_0,.slice A0_1 l0_1.length c0_1]) hg hbox hb);clear hg hbox hb;have z_1:w_1.cell? ⟨gt,0,none⟩=some (.int .i64 a0_0):=(HO_1.out.cell 0 rfl 0 rfl);have z_2:w_1.cell? ⟨gt,1,none⟩=some (.slice A0_1 l0_1.length c0_1):=(HO_1.out.cell 0 rfl 1 rfl))|((with_reducible refine gate_callee (f:=76) rfl ?_);refine goesL_ (some 11) rfl rfl Try.func76 (by kernel_rfl) rfl #[.agg #[.int .i64 a0_0,.slice A0_1 l0_1.length c0_1]] rfl ze_ ?_;(with_reducible refine (spec_ttGood.calls k a0_0 _ _ l0_1 false _ (by exact Kd.C_below HR0.out HO_1.out.base) HC0.out HA.out).mono ?_);rintro e w_2 ⟨rfl,hd⟩;refine ⟨_,rfl,?_⟩;have HO_2:=aM (HO_1.out.below hd);clear hd))
  go_ret3
  exact ⟨_,rfl,Kd.R_nil _ _ _ _ _,HO_2.out.base⟩
 | true =>
  rw [if_pos rfl] at h1
  split at h1
  ·rename_i hc
   obtain ⟨hm0,hm8,hk,hosn,hok⟩:=hc;obtain ⟨m,rfl⟩:=Int.eq_ofNat_of_zero_le hm0;rw [Int.toNat_natCast] at h1 hosn hok;obtain ⟨os,hos⟩:∃ os,os=Sep.pm m m []:=⟨_,rfl⟩;have HOS:=aM hos.symm;rw [← hos] at h1 hosn hok;have HOK:=aM hok;have HM:=aM (show m≤8 by omega);clear hok hos hk hm0 hm8;obtain ⟨cf,hcf⟩:∃ cf,cf=spec_BestOrder.cost k (m:Int) l0_1:=⟨_,rfl⟩;rw [← hcf] at h1;have HCF:=aM hcf;clear hcf;replace h1:=Option.some.inj h1
   injection h1 with e1 e2
   injection e2 with e2 e3
   subst e1;subst e2;subst e3
   go_enter Try.func25,Try.ntmps25
   go_wp2_with (first | ((with_reducible refine gate_dst (N:=1) rfl ?_);refine box_event ?hg (N:=1) ?hd (cs:=#[.int .i64 ((m:Int)),.slice A0_1 l0_1.length c0_1]) (t:=41) ?hr ?_;(case hd=>rfl);(case hg=>rfl);(case hr=>exact za_);intro gt hg w_1 hbox hb;have HO_1:=aM ((Sep.Own.nil w).add_box (T:=41) (cs:=#[.int .i64 ((m:Int)),.slice A0_1 l0_1.length c0_1]) hg hbox hb);clear hg hbox hb;have z_1:w_1.cell? ⟨gt,0,none⟩=some (.int .i64 ((m:Int))):=(HO_1.out.cell 0 rfl 0 rfl);have z_2:w_1.cell? ⟨gt,1,none⟩=some (.slice A0_1 l0_1.length c0_1):=(HO_1.out.cell 0 rfl 1 rfl))|((with_reducible refine gate_callee (f:=76) rfl ?_);refine goesL_ (some 11) rfl rfl Try.func76 (by kernel_rfl) rfl #[.agg #[.int .i64 ((m:Int)),.slice A0_1 l0_1.length c0_1]] rfl ze_ ?_;(with_reducible refine (spec_ttGood.calls k (m:Int) _ _ l0_1 true _ (by exact Kd.C_below HR0.out HO_1.out.base) HC0.out HA.out).mono ?_);rintro e w_2 ⟨rfl,hd⟩;refine ⟨_,rfl,?_⟩;have HO_2:=aM (HO_1.out.below hd);clear hd;have z_3:w_2.cell? ⟨gt,0,none⟩=some (.int .i64 ((m:Int))):=(HO_2.out.cell 0 rfl 0 rfl))|((with_reducible refine gate_callee (f:=77) rfl ?_);refine goesL_ (some 15) rfl rfl Try.func77 (by kernel_rfl) rfl #[.int .i64 ((m:Int)),.slice none 0 0] rfl ze_ ?_;(with_reducible refine (spec_ddOrders.ext m HM.out w m [] _ _ [Item.box gt 41 #[.int .i64 ((m:Int)),.slice A0_1 l0_1.length c0_1]] (HO_2.out.nilrow (Kd.int .i64) 3) (by simp)).mono ?_);rintro e w_3 ⟨v_3,rfl,ho⟩;refine ⟨_,rfl,?_⟩;rw [HOS.out] at ho;obtain ⟨Ao,co,rfl⟩:=ho.row_slice 0 rfl;have HO_3:=aM ho;clear ho))
   (try simp only [Act.put,sI,s0,sS])
   go_loopw [5,6,17] (fun v5 v6 v17 wr => ∃ (j:Int),0≤j∧j≤(os.length:Int)∧v17 = .int .i64 j∧v6 = .int .i64 (spec_BestOrder.at cf os j.toNat).2∧Aside0 (∃ P_,Kd.R (Kd.int .i64) 3 wr w.heap.size P_ v5 (spec_BestOrder.at cf os j.toNat).1)∧Aside0 (Own w wr [Item.row (Kd.slice 3 (Kd.int .i64)) 39 (.slice Ao os.length co) (os),Item.box gt 41 #[.int .i64 ((m:Int)),.slice A0_1 l0_1.length c0_1]])) (fun _ _ v17 _=>os.length - (intOf v17).toNat)
   case atStart=>exact ⟨0,Int.le_refl _,by omega,rfl,rfl,⟨⟨fun _=>True,Kd.R_nil _ _ _ _ _⟩⟩,⟨((HO_3.out.front 1 rfl).front 1 rfl)⟩⟩
   case round =>
    obtain ⟨j,hj0,hj1,rfl,rfl,HB,HO1⟩:=hrel;clear HO_3;have HO:=HO1;clear HO1
    by_cases c1:j<(os.length:Int)
    ·have c1b:=decide_eq_true c1
     have hwj:wrap64 (j+1)=j+1:=by unfold wrap64;omega
     obtain ⟨ado,Ae,ce,eo,hel,hle,hCe,hRe⟩:=HO.out.elem 0 rfl j hj0 c1
     cases eo
     have hst:=spec_BestOrder.at_succ cf os j hj0 c1;obtain ⟨v_,hv_⟩:=Option.isSome_iff_exists.mp (HOK.out (os.getD j.toNat []) (by rw [List.getD_eq_getElem?_getD,List.getElem?_eq_getElem (show j.toNat<os.length by omega)];exact List.getElem_mem _));obtain ⟨o,hoo⟩:∃ o,o=os.getD j.toNat []:=⟨_,rfl⟩;rw [← hoo] at hel hle hCe hRe hst hv_;have hcf2:cf o=v_:=by rw [HCF.out];unfold spec_BestOrder.cost;rw [hv_];rfl
     obtain ⟨⟨t1,t2⟩,ht,hv2⟩:=oB.mp hv_;obtain ⟨⟨d1,d2,d3⟩,hd,hv3⟩:=oB.mp hv2;have hv4:(d2.length:Int)=v_:=Option.some.inj hv3;have HT:=aM (show spec_ddReorder.f k (m:Int) l0_1 o=some (t1,t2) from ht);have HD:=aM (show spec_ddMake.f k t1 t2=some (d1,d2,d3) from hd);have HCO:=aM (hcf2.trans hv4.symm);clear hcf2 hv4 hv3 hv2 hv_ hd ht;have HRE:=aM hRe;have HLE:=aM hle;have HST:=aM hst;have p1:(0≤j)=True:=eq_true hj0;have q1:(j<(os.length:Int))=True:=eq_true c1;clear hCe hle hRe hst hoo
     by_cases c5:(spec_BestOrder.at cf os j.toNat).2<0
     ·have c5b:=decide_eq_true c5
      have hp:=HST.out
      unfold spec_BestOrder.pick at hp
      rw [if_pos (Or.inl c5),HCO.out] at hp;have HP:=aM hp;clear hp HST;have z_4:wr.cell? ⟨gt,0,none⟩=some (.int .i64 ((m:Int))):=(HO.out.cell 1 rfl 0 rfl);have z_5:wr.cell? ⟨gt,1,none⟩=some (.slice A0_1 l0_1.length c0_1):=(HO.out.cell 1 rfl 1 rfl)
      go_wp2_with (first | ((with_reducible refine gate_callee (f:=78) rfl ?_);refine goesL_ (some 23) rfl rfl Try.func78 (by kernel_rfl) rfl #[.agg #[.int .i64 ((m:Int)),.slice A0_1 l0_1.length c0_1],.slice Ae o.length ce] rfl ze_ ?_;obtain ⟨P_,hRe_⟩:=HRE.out;(with_reducible refine (spec_ddReorder.calls k (m:Int) _ _ l0_1 _ _ o t1 t2 _ zhd_ HC0.out (Kd.R_reads' hRe_).2.2 (Kd.R_reads' hRe_).2.1 HT.out).mono ?_);rintro e w_1 ⟨x_r,rfl,hR,hb⟩;refine ⟨_,rfl,?_⟩;have ho:=HO.out.add_row hR hb;obtain ⟨A_q6,c_q6,rfl⟩:=ho.row_slice 0 rfl;have HO_1:=aM ho;clear hRe_;have HB_:=aM (HB.out.imp (fun _ h=>Kd.R_below h hb));clear HB;have HB:=HB_;clear HB_;have HRE_:=aM (HRE.out.imp (fun _ h=>Kd.R_below h hb));clear HRE;have HRE:=HRE_;clear HRE_ ho hR hb)|((with_reducible refine gate_callee (f:=54) rfl ?_);refine goesL_ (some 24) rfl rfl Try.func54 (by kernel_rfl) rfl #[.agg #[.int .i64 t1,.slice A_q6 t2.length c_q6]] rfl ze_ ?_;(with_reducible refine (spec_ddMake.calls k t1 _ _ t2 d1 d2 d3 _ (HO_1.out.row_reads 0 rfl).2.2 (HO_1.out.row_reads 0 rfl).2.1 HD.out).mono ?_);rintro e w_2 ⟨x_r,rfl,hR,hb⟩;refine ⟨_,rfl,?_⟩;have ho:=HO_1.out.add_row hR hb;obtain ⟨A_q7,c_q7,rfl⟩:=ho.row_slice 0 rfl;have HO_2:=aM ho;have HB_:=aM (HB.out.imp (fun _ h=>Kd.R_below h hb));clear HB;have HB:=HB_;clear HB_;have HRE_:=aM (HRE.out.imp (fun _ h=>Kd.R_below h hb));clear HRE;have HRE:=HRE_;clear HRE_ ho hR hb))
      go_roundw
      case measure=>simp only [intOf,hwj];omega
      case rel=>exact ⟨j+1,by omega,by omega,zeh_,by rw [HP.out],⟨by rw [HP.out];exact HRE.out⟩,⟨((((HO_2.out.front 3 rfl).front 3 rfl).front 3 rfl).front 3 rfl).tail.tail⟩⟩
     ·have c5b:=decide_eq_false c5
      by_cases c6:(d2.length:Int)<(spec_BestOrder.at cf os j.toNat).2
      ·have c6b:=decide_eq_true c6
       have hp:=HST.out
       unfold spec_BestOrder.pick at hp
       rw [if_pos (Or.inr (by rw [HCO.out];exact c6)),HCO.out] at hp;have HP:=aM hp;clear hp HST;have z_4:wr.cell? ⟨gt,0,none⟩=some (.int .i64 ((m:Int))):=(HO.out.cell 1 rfl 0 rfl);have z_5:wr.cell? ⟨gt,1,none⟩=some (.slice A0_1 l0_1.length c0_1):=(HO.out.cell 1 rfl 1 rfl)
       go_wp2_with (first | ((with_reducible refine gate_callee (f:=78) rfl ?_);refine goesL_ (some 23) rfl rfl Try.func78 (by kernel_rfl) rfl #[.agg #[.int .i64 ((m:Int)),.slice A0_1 l0_1.length c0_1],.slice Ae o.length ce] rfl ze_ ?_;obtain ⟨P_,hRe_⟩:=HRE.out;(with_reducible refine (spec_ddReorder.calls k (m:Int) _ _ l0_1 _ _ o t1 t2 _ zhd_ HC0.out (Kd.R_reads' hRe_).2.2 (Kd.R_reads' hRe_).2.1 HT.out).mono ?_);rintro e w_1 ⟨x_r,rfl,hR,hb⟩;refine ⟨_,rfl,?_⟩;have ho:=HO.out.add_row hR hb;obtain ⟨A_q6,c_q6,rfl⟩:=ho.row_slice 0 rfl;have HO_1:=aM ho;clear hRe_;have HB_:=aM (HB.out.imp (fun _ h=>Kd.R_below h hb));clear HB;have HB:=HB_;clear HB_;have HRE_:=aM (HRE.out.imp (fun _ h=>Kd.R_below h hb));clear HRE;have HRE:=HRE_;clear HRE_ ho hR hb)|((with_reducible refine gate_callee (f:=54) rfl ?_);refine goesL_ (some 24) rfl rfl Try.func54 (by kernel_rfl) rfl #[.agg #[.int .i64 t1,.slice A_q6 t2.length c_q6]] rfl ze_ ?_;(with_reducible refine (spec_ddMake.calls k t1 _ _ t2 d1 d2 d3 _ (HO_1.out.row_reads 0 rfl).2.2 (HO_1.out.row_reads 0 rfl).2.1 HD.out).mono ?_);rintro e w_2 ⟨x_r,rfl,hR,hb⟩;refine ⟨_,rfl,?_⟩;have ho:=HO_1.out.add_row hR hb;obtain ⟨A_q7,c_q7,rfl⟩:=ho.row_slice 0 rfl;have HO_2:=aM ho;have HB_:=aM (HB.out.imp (fun _ h=>Kd.R_below h hb));clear HB;have HB:=HB_;clear HB_;have HRE_:=aM (HRE.out.imp (fun _ h=>Kd.R_below h hb));clear HRE;have HRE:=HRE_;clear HRE_ ho hR hb))
       go_roundw
       case measure=>simp only [intOf,hwj];omega
       case rel=>exact ⟨j+1,by omega,by omega,zeh_,by rw [HP.out],⟨by rw [HP.out];exact HRE.out⟩,⟨((((HO_2.out.front 3 rfl).front 3 rfl).front 3 rfl).front 3 rfl).tail.tail⟩⟩
      ·have c6b:=decide_eq_false c6
       have hp:=HST.out
       unfold spec_BestOrder.pick at hp
       rw [if_neg (by rintro (h | h);exact c5 h;rw [HCO.out] at h;exact c6 h)] at hp;have HP:=aM hp;clear hp HST;have z_4:wr.cell? ⟨gt,0,none⟩=some (.int .i64 ((m:Int))):=(HO.out.cell 1 rfl 0 rfl);have z_5:wr.cell? ⟨gt,1,none⟩=some (.slice A0_1 l0_1.length c0_1):=(HO.out.cell 1 rfl 1 rfl)
       go_wp2_with (first | ((with_reducible refine gate_callee (f:=78) rfl ?_);refine goesL_ (some 23) rfl rfl Try.func78 (by kernel_rfl) rfl #[.agg #[.int .i64 ((m:Int)),.slice A0_1 l0_1.length c0_1],.slice Ae o.length ce] rfl ze_ ?_;obtain ⟨P_,hRe_⟩:=HRE.out;(with_reducible refine (spec_ddReorder.calls k (m:Int) _ _ l0_1 _ _ o t1 t2 _ zhd_ HC0.out (Kd.R_reads' hRe_).2.2 (Kd.R_reads' hRe_).2.1 HT.out).mono ?_);rintro e w_1 ⟨x_r,rfl,hR,hb⟩;refine ⟨_,rfl,?_⟩;have ho:=HO.out.add_row hR hb;obtain ⟨A_q6,c_q6,rfl⟩:=ho.row_slice 0 rfl;have HO_1:=aM ho;clear hRe_;have HB_:=aM (HB.out.imp (fun _ h=>Kd.R_below h hb));clear HB;have HB:=HB_;clear HB_;have HRE_:=aM (HRE.out.imp (fun _ h=>Kd.R_below h hb));clear HRE;have HRE:=HRE_;clear HRE_ ho hR hb)|((with_reducible refine gate_callee (f:=54) rfl ?_);refine goesL_ (some 24) rfl rfl Try.func54 (by kernel_rfl) rfl #[.agg #[.int .i64 t1,.slice A_q6 t2.length c_q6]] rfl ze_ ?_;(with_reducible refine (spec_ddMake.calls k t1 _ _ t2 d1 d2 d3 _ (HO_1.out.row_reads 0 rfl).2.2 (HO_1.out.row_reads 0 rfl).2.1 HD.out).mono ?_);rintro e w_2 ⟨x_r,rfl,hR,hb⟩;refine ⟨_,rfl,?_⟩;have ho:=HO_1.out.add_row hR hb;obtain ⟨A_q7,c_q7,rfl⟩:=ho.row_slice 0 rfl;have HO_2:=aM ho;have HB_:=aM (HB.out.imp (fun _ h=>Kd.R_below h hb));clear HB;have HB:=HB_;clear HB_;have HRE_:=aM (HRE.out.imp (fun _ h=>Kd.R_below h hb));clear HRE;have HRE:=HRE_;clear HRE_ ho hR hb))
       go_roundw
       case measure=>simp only [intOf,hwj];omega
       case rel=>exact ⟨j+1,by omega,by omega,zeh_,by rw [HP.out],⟨by rw [HP.out];exact HB.out⟩,⟨((((HO_2.out.front 3 rfl).front 3 rfl).front 3 rfl).front 3 rfl).tail.tail⟩⟩
    ·have c1b:=decide_eq_false c1
     obtain rfl:j=(os.length:Int):=by omega
     simp only [Int.toNat_natCast]
     have hb:=HB.out;rw [Int.toNat_natCast] at hb;have HB2:=aM hb;clear hb
     go_wp2
     go_ret3
     obtain ⟨P_,hP⟩:=HB2.out
     exact ⟨_,rfl,Kd.R_mono hP (fun _ _=>trivial),HO.out.base⟩
  ·cases h1
end Go.Proofs.Ytlnhpkjioppbiaa.QFnDiagramOrders
