/- Functions of FnDiagrams, each as a Lean function, with the proof that the Go code comes to its answers. -/
import Derived.Test.YtlnhpkjioppbiaaDoorSFnDiagramsx2
import Derived.Test.YtlnhpkjioppbiaaDoorSFnDiagramsx8
import Derived.Test.YtlnhpkjioppbiaaDoorSFnDiagramsx3
namespace Go.Proofs.YtlnhpkjioppbiaaDoor.QFnDiagrams
open Go.RowKit Go.Proofs.YtlnhpkjioppbiaaDoorW.PrintWords Go.Proofs.YtlnhpkjioppbiaaDoorW.PrintLast Go.Proofs.YtlnhpkjioppbiaaDoorW.PrintMore
open Go.Proofs.YtlnhpkjioppbiaaDoorW.PrintWords renaming pw_below_drewN→pN,below_drew1→p1,below_alloc→pA
open Go.Proofs.YtlnhpkjioppbiaaDoorW.PrintWords.Kd renaming R_alloc→kA,R_drewN→kN,R_drew→kD,Q_alloc→qA,Q_drewN→qN,Q_drew→qD,C_alloc→cA,C_drewN→cN,C_drew→cD
open Go.Proofs.YtlnhpkjioppbiaaDoorW.PrintWords.Aside0 renaming mk→aM
open List renaming setIfInBounds_toArray→sI,set_cons_zero→s0,set_cons_succ→sS,map_toArray→mT,length_take→lT,length_drop→lD,map_cons→mC,map_nil→mN
open Option renaming bind_eq_some_iff→oB,bind_some→oS
attribute [local go_sem] max2_int min2_int max_two min_two max_three min_three max_four min_four
set_option maxHeartbeats 8000000
set_option maxRecDepth 100000
set_option linter.unusedVariables false
set_option linter.unusedSimpArgs false
def impl_tableOfDiagram.l0:Nat→Int→Int→Int→List (S70)→Int→Int→List Int→Option (Int×List Int)
 | 0,_,_,_,_,_,_,_=>none
 | k+1,x14,x15,x241000,x241001,x241002,x246000,x246001=>if x15<x14 then ((impl_bitList.f k x15 x241000).bind fun t246=>((impl_diagramValue.f k x241000 x241001 x241002 t246).bind fun t249=>(if 0≤x15 then (if x15<(x246001.length:Int) then (impl_tableOfDiagram.l0 k x14 (wrap64 (x15+1)) x241000 x241001 x241002 x246000 (x246001.set (x15:Int).toNat t249)) else (none)) else (none)))) else (some (x246000,x246001))
def impl_tableOfDiagram.f (k:Nat) (a0_0:Int) (l0_1:List (S70)) (a0_2:Int):Option (Int×List Int):=if 0≤a0_0 then (if 0≤(shl .i64 1 a0_0) then (if (shl .i64 1 a0_0:Int).toNat≤35184372088832 then ((some (List.replicate (shl .i64 1 a0_0:Int).toNat 0:List Int)).bind fun y242=>(impl_tableOfDiagram.l0 k (y242.length:Int) 0 a0_0 l0_1 a0_2 a0_0 y242)) else (none)) else (none)) else (none)
def impl_tableOfDiagram.T1:Bool×List (List Nat×List Nat):=(true,[([],[]),([0],[0]),([],[]),([2],[2]),([3],[3]),([4,4],[4]),([1,5],[1,5]),([],[]),([7,6,0,1,2,3,4,5,6,7],[6,7])])
def impl_tableOfDiagram.B1:List Nat:=[0,1,0,4,12,28,63,0,255]
theorem impl_tableOfDiagram.tab1:rtab .any (opsOf Tryd.f53 1)=impl_tableOfDiagram.T1:=by kernel_rfl
theorem impl_tableOfDiagram.bits1:waitsOk impl_tableOfDiagram.T1.2 impl_tableOfDiagram.B1=true:=by kernel_rfl
def impl_tableOfDiagram.T5:Bool×List (List Nat×List Nat):=(true,[([],[]),([0],[0]),([],[]),([],[]),([],[]),([],[]),([5],[5]),([4,6],[4,6]),([3,7,7],[3,7]),([1,2,0,1,2,3,4,5,6,7,8],[1,2]),([9,8,8,0,1,2,3,4,5,6,7,8],[8,9])])
def impl_tableOfDiagram.B5:List Nat:=[0,1,0,0,0,0,32,112,248,511,1023]
theorem impl_tableOfDiagram.tab5:rtab .any (opsOf Tryd.f53 5)=impl_tableOfDiagram.T5:=by kernel_rfl
theorem impl_tableOfDiagram.bits5:waitsOk impl_tableOfDiagram.T5.2 impl_tableOfDiagram.B5=true:=by kernel_rfl
theorem impl_tableOfDiagram.calls (k:Nat) (a0_0:Int) (A0_1:Option Addr) (c0_1:Nat) (l0_1:List (S70)) (a0_2:Int) (r1:Int) (r2:List Int) (w:World) (hr0_1:Kd.C k70 w A0_1 l0_1.length l0_1) (hc0_1:l0_1.length≤c0_1) (h:impl_tableOfDiagram.f k a0_0 l0_1 a0_2=some (r1,r2)) :
  Calls Tryd.prog 53 #[.agg #[.int .i64 a0_0,.slice A0_1 l0_1.length c0_1,.int .i64 a0_2]] w fun e w' => ∃ v1_:Value,e = .returned (.agg #[.int .i64 r1,v1_])∧Kd.R (Kd.int .i64) 3 w' w.heap.size (fun _=>True) v1_ r2∧Below w.heap.size w w':=by
 have hu30:=Tryd.underlying30
 have hu26:=Tryd.underlying26
 have HR0_1:=aM hr0_1
 have HC0_1:=aM hc0_1
 clear hr0_1 hc0_1
 have HB:=aM (Below.refl w.heap.size w)
 have H:(if 0≤a0_0 then (if 0≤(shl .i64 1 a0_0) then (if (shl .i64 1 a0_0:Int).toNat≤35184372088832 then ((some (List.replicate (shl .i64 1 a0_0:Int).toNat 0:List Int)).bind fun y242=>(impl_tableOfDiagram.l0 k (y242.length:Int) 0 a0_0 l0_1 a0_2 a0_0 y242)) else (none)) else (none)) else (none))=some (r1,r2):=h
 clear h
 by_cases c2:0≤a0_0
 ·rw [if_pos c2] at H
  have c2b0:=eq_true c2;have c2b1:=decide_eq_true c2;clear c2;obtain ⟨ji3,hji3⟩:∃ j_:Int,(shl .i64 1 a0_0)=j_:=⟨_,rfl⟩;replace H:(if 0≤(ji3) then (if (ji3:Int).toNat≤35184372088832 then ((some (List.replicate (ji3:Int).toNat 0:List Int)).bind fun y242=>(impl_tableOfDiagram.l0 k (y242.length:Int) 0 a0_0 l0_1 a0_2 a0_0 y242)) else (none)) else (none))=some (r1,r2):=by first | (rw [hji3] at H;exact H)|(simp only [hji3] at H ⊢;exact H)
  have hji3_:(IntKind.i64.wrap (1 * 2 ^ min a0_0.toNat 64))=ji3:=hji3;have hji3z:a0_0≤64→(IntKind.i64.wrap (1 * 2 ^ a0_0.toNat))=ji3:=shl_small hji3;have hji3u:(IntKind.i64.wrap (2 ^ min a0_0.toNat 64))=ji3:=by have h_:=hji3_;rw [Int.one_mul] at h_;exact h_
  have hji3v:a0_0≤64→(IntKind.i64.wrap (2 ^ a0_0.toNat))=ji3:=fun hle_=>by have h_:=hji3z hle_;rw [Int.one_mul] at h_;exact h_
  have hji3y:(wrap64 (1 * 2 ^ min a0_0.toNat 64))=ji3:=(i64_w _).symm.trans hji3_;have hji3x:a0_0≤64→(wrap64 (1 * 2 ^ a0_0.toNat))=ji3:=fun h_=>(i64_w _).symm.trans (hji3z h_)
  by_cases c4:0≤(ji3)
  ·rw [if_pos c4] at H
   have c4b0:=eq_true c4;have c4b1:=decide_eq_true c4;clear c4
   by_cases c5:(ji3:Int).toNat≤35184372088832
   ·rw [if_pos c5] at H
    have c5b0:=eq_true c5;have c5b1:=decide_eq_true c5;clear c5;obtain ⟨y242,hy242⟩:∃ y_:List Int,y_=(List.replicate (ji3:Int).toNat 0):=⟨_,rfl⟩;replace H:(impl_tableOfDiagram.l0 k (y242.length:Int) 0 a0_0 l0_1 a0_2 a0_0 y242)=some (r1,r2):=q3y_ hy242 H
    have Ny242:=aM hy242;clear hy242;have H':=aM H;clear H
    go_enter Tryd.func53,Tryd.ntmps53
    (try go_wp2_with (first | ((with_reducible refine gate_dst (N:=1) rfl ?_);refine box_event ?hg (N:=1) ?hd (cs:=#[.int .i64 a0_0,.slice A0_1 l0_1.length c0_1,.int .i64 a0_2]) (t:=30) ?hr ?_;(case hd=>rfl);(case hg=>rfl);(case hr=>exact zb_);intro gb240 hg w6 hbox hb;have n_:=z (below_step za_ hb)<|z (hbox)<|z ((by rw [hg];exact (below_size za_):w.heap.size≤gb240))<|z1 ((by rw [hg];exact (below_size za_):w.heap.size≤gb240));clear HB;obtain ⟨HB,BK240,GW240,GE240⟩:=n_;clear hb hbox hg)|((with_reducible refine gate_dst (N:=2) rfl ?_);refine box_event ?hg (N:=2) ?hd (cs:=#[.int .i64 0,.slice none 0 0]) (t:=26) ?hr ?_;(case hd=>rfl);(case hg=>rfl);(case hr=>exact zb_);intro gb241 hg w7 hbox hb;have n_:=z (blk_below (zb BK240.out) hb)<|z (below_step zbbb_ hb)<|z (hbox)<|z ((by rw [hg];exact (below_size zbbb_):w.heap.size≤gb241))<|z ((by rw [hg];exact (below_size zbbb_):w.heap.size≤gb241))<|z ((by rw [hg];exact Nat.ne_of_lt (blk_lt (zb BK240.out)):gb240≠gb241))<|z1 ((by rw [hg];exact Nat.ne_of_gt (blk_lt (zb BK240.out)):gb241≠gb240));clear BK240 HB;obtain ⟨BK240,HB,BK241,GW241,GE241,NB240_241,NB241_240⟩:=n_;clear hb hbox hg)));have n_:=z (blk_drew BK240.out)<|z (blk_drew BK241.out)<|z1 (p1 HB.out)
    clear BK240 BK241 HB;obtain ⟨BK240,BK241,HB⟩:=n_
    refine start_ (n:=9) (S:=fun w'=>w'.cell? ⟨gb240,0,none⟩=some (.int .i64 a0_0)∧w'.cell? ⟨gb240,1,none⟩=some (.slice A0_1 l0_1.length c0_1)∧w'.cell? ⟨gb240,2,none⟩=some (.int .i64 a0_2)) (ds:=[]) #[fi,fi,fi,fi,fi,fi,fi,fi,fi] (by kernel_rfl) rfl rfl ⟨(blk_cell BK240.out 0).trans rfl,(blk_cell BK240.out 1).trans rfl,(blk_cell BK240.out 2).trans rfl⟩ (fun hHeld=>?_);refine with_tabW impl_tableOfDiagram.tab1 impl_tableOfDiagram.bits1 (fun HT_ HW_=>?_)
    generalize w7.drew=w8 at BK240 BK241 HB hHeld ⊢;refine py_ 0 5 HT_.out ?_;refine py_ 2 7 HT_.out ?_
    refine tw3_ 1 6 HT_.out HW_.out hHeld ?_
    refine tw3_ 3 8 HT_.out HW_.out hHeld ?_
    refine py_ 4 9 HT_.out ?_
    refine join_ (σ:=Value×Nat) 1 #[ti,ti,ti,ti,ti,ti,ti,ti,fi] (fun s_ => [(10,s_.1),(3,.pointer (some ⟨s_.2,0,none⟩)),(11,.agg #[.int .i64 a0_0,s_.1])]) (fun s_ w'=>(w'.cell? ⟨gb240,0,none⟩=some (.int .i64 a0_0)∧w'.cell? ⟨gb240,1,none⟩=some (.slice A0_1 l0_1.length c0_1)∧w'.cell? ⟨gb240,2,none⟩=some (.int .i64 a0_2))∧(Kd.R (Kd.int .i64) 3 w' w.heap.size (fun _=>True) s_.1 y242)∧(w'.heap[gb240]?=some (.cells #[.int .i64 a0_0,.slice A0_1 l0_1.length c0_1,.int .i64 a0_2] 30 (0,0)))∧(w'.heap[gb241]?=some (.cells #[.int .i64 0,.slice none 0 0] 26 (0,0)))∧(w'.heap[s_.2]?=some (.cells #[.int .i64 0,.slice none 0 0] 26 (0,0)))∧(w.heap.size≤s_.2)∧(w.heap.size≤s_.2)∧(gb240≠s_.2)∧(s_.2≠gb240)∧(gb241≠s_.2)∧(s_.2≠gb241)∧(Below w.heap.size w w')) ?_ ?_
    rotate_left
    ·intro hCont
     refine two_ (i:=5) (j:=7) (Ni:=some 10) (Nj:=some 3) #[ti,ti,ti,ti,ti,ti,fi,fi,fi] #[ti,ti,ti,ti,ti,fi,fi,ti,fi] rfl rfl rfl rfl (two_of HT_.out (by kernel_rfl)) (by decide) (by decide) (fun K hK=>?_) (fun K hK=>?_)
     ·skip
      refine Kd.R_make_step (Kd.int .i64) _ 3 (by rfl) (N:=10) rfl 24 _ _ rfl ji3 rfl rfl Tryd.underlying24 (.int .i64 0) 8 info3 rfl (by decide) (by omega) 0 (ok:=fun _=>True) (okp:=fun _=>True) rfl (fun _ hk=>hk) trivial (of_decide_eq_true zc_) (Nat.le_trans (Nat.mul_le_mul_right _ (of_decide_eq_true zc_:ji3.toNat≤35184372088832)) (by omega)) (Below.refl _ _) (Nat.le_refl _) ?_
      intro v243 w9 ho10 hb hg_ hnew_
      clear hg_ hnew_;(first | rw [← Ny242.out] at ho10 | (simp only [Int.reduceToNat] at ho10;rw [← Ny242.out] at ho10));have n_:=z (Kd.R_lower ho10 (below_size zfe_))<|z (blk_below (zb BK240.out) hb)<|z (blk_below (zb BK241.out) hb)<|z1 (below_step zfe_ hb)
      clear BK240 BK241 HB;obtain ⟨HO244,BK240,BK241,HB⟩:=n_;clear hb ho10;obtain ⟨Ao11,co11,eo11⟩:=Kd.R_slice HO244.out;(first | subst eo11 | (injection eo11 with f1_ f2_ f3_;have f4_:=f1_.symm;have f5_:=f3_.symm;clear f1_ f2_ f3_;subst f4_;subst f5_))
      refine hK.out _ _ ⟨(blk_cell BK240.out 0).trans rfl,(blk_cell BK240.out 1).trans rfl,(blk_cell BK240.out 2).trans rfl⟩ (fun hHeld=>?_)
      clear hK K
      refine nz_ 10 ?_
      refine py_ 6 11 HT_.out ?_
      refine one_ (i:=7) (N:=some 3) #[ti,ti,ti,ti,ti,ti,ti,ti,fi] rfl rfl (one_of HT_.out (by kernel_rfl)) (by decide) (fun K hK=>?_)
      refine box_step ?hg (N:=3) ?hd (cs:=#[.int .i64 0,.slice none 0 0]) (t:=26) ?hr ?_;(case hd=>rfl);(case hg=>rfl);(case hr=>exact zb_)
      intro gb245 hg w12 hbox hb
      have n_:=z (Kd.R_below (zr HO244.out) hb)<|z (blk_below (zb BK240.out) hb)<|z (blk_below (zb BK241.out) hb)<|z (below_step zfe_ hb)<|z (hbox)<|z ((by rw [hg];exact (below_size zfe_):w.heap.size≤gb245))<|z ((by rw [hg];exact (below_size zfe_):w.heap.size≤gb245))<|z ((by rw [hg];exact Nat.ne_of_lt (blk_lt (zb BK240.out)):gb240≠gb245))<|z ((by rw [hg];exact Nat.ne_of_gt (blk_lt (zb BK240.out)):gb245≠gb240))<|z ((by rw [hg];exact Nat.ne_of_lt (blk_lt (zb BK241.out)):gb241≠gb245))<|z1 ((by rw [hg];exact Nat.ne_of_gt (blk_lt (zb BK241.out)):gb245≠gb241))
      clear HO244 BK240 BK241 HB;obtain ⟨HO244,BK240,BK241,HB,BK245,GW245,GE245,NB240_245,NB245_240,NB241_245,NB245_241⟩:=n_;clear hb hbox hg
      refine hK.out _ _ ⟨(blk_cell BK240.out 0).trans rfl,(blk_cell BK240.out 1).trans rfl,(blk_cell BK240.out 2).trans rfl⟩ (fun hHeld=>?_)
      clear hK K
      refine nz_ 3 ?_
      exact norm_ (by simp only [putAll,Act.put,sI,s0,sS]) (hCont (.slice Ao11 y242.length co11,gb245) _ ⟨hHeld,(zr HO244.out),(zb BK240.out),(zb BK241.out),(zb BK245.out),GW245.out,GE245.out,NB240_245.out,NB245_240.out,NB241_245.out,NB245_241.out,zeh_⟩)
     ·skip
      refine box_step ?hg (N:=3) ?hd (cs:=#[.int .i64 0,.slice none 0 0]) (t:=26) ?hr ?_;(case hd=>rfl);(case hg=>rfl);(case hr=>exact zb_)
      intro gb245 hg w9 hbox hb
      have n_:=z (blk_below (zb BK240.out) hb)<|z (blk_below (zb BK241.out) hb)<|z (below_step zfe_ hb)<|z (hbox)<|z ((by rw [hg];exact (below_size zfe_):w.heap.size≤gb245))<|z ((by rw [hg];exact (below_size zfe_):w.heap.size≤gb245))<|z ((by rw [hg];exact Nat.ne_of_lt (blk_lt (zb BK240.out)):gb240≠gb245))<|z ((by rw [hg];exact Nat.ne_of_gt (blk_lt (zb BK240.out)):gb245≠gb240))<|z ((by rw [hg];exact Nat.ne_of_lt (blk_lt (zb BK241.out)):gb241≠gb245))<|z1 ((by rw [hg];exact Nat.ne_of_gt (blk_lt (zb BK241.out)):gb245≠gb241))
      clear BK240 BK241 HB;obtain ⟨BK240,BK241,HB,BK245,GW245,GE245,NB240_245,NB245_240,NB241_245,NB245_241⟩:=n_;clear hb hbox hg
      refine hK.out _ _ ⟨(blk_cell BK240.out 0).trans rfl,(blk_cell BK240.out 1).trans rfl,(blk_cell BK240.out 2).trans rfl⟩ (fun hHeld=>?_)
      clear hK K
      refine nz_ 3 ?_
      refine one_ (i:=5) (N:=some 10) #[ti,ti,ti,ti,ti,ti,fi,ti,fi] rfl rfl (one_of HT_.out (by kernel_rfl)) (by decide) (fun K hK=>?_)
      refine Kd.R_make_step (Kd.int .i64) _ 3 (by rfl) (N:=10) rfl 24 _ _ rfl ji3 rfl rfl Tryd.underlying24 (.int .i64 0) 8 info3 rfl (by decide) (by omega) 0 (ok:=fun _=>True) (okp:=fun _=>True) rfl (fun _ hk=>hk) trivial (of_decide_eq_true zc_) (Nat.le_trans (Nat.mul_le_mul_right _ (of_decide_eq_true zc_:ji3.toNat≤35184372088832)) (by omega)) (Below.refl _ _) (Nat.le_refl _) ?_
      intro v243 w10 ho11 hb hg_ hnew_
      clear hg_ hnew_;(first | rw [← Ny242.out] at ho11 | (simp only [Int.reduceToNat] at ho11;rw [← Ny242.out] at ho11));have n_:=z (Kd.R_lower ho11 (below_size zeh_))<|z (blk_below (zb BK240.out) hb)<|z (blk_below (zb BK241.out) hb)<|z (blk_below (zb BK245.out) hb)<|z1 (below_step zeh_ hb)
      clear BK240 BK241 BK245 HB;obtain ⟨HO244,BK240,BK241,BK245,HB⟩:=n_;clear hb ho11;obtain ⟨Ao12,co12,eo12⟩:=Kd.R_slice HO244.out;(first | subst eo12 | (injection eo12 with f1_ f2_ f3_;have f4_:=f1_.symm;have f5_:=f3_.symm;clear f1_ f2_ f3_;subst f4_;subst f5_))
      refine hK.out _ _ ⟨(blk_cell BK240.out 0).trans rfl,(blk_cell BK240.out 1).trans rfl,(blk_cell BK240.out 2).trans rfl⟩ (fun hHeld=>?_)
      clear hK K
      refine nz_ 10 ?_
      refine py_ 6 11 HT_.out ?_
      exact norm_ (by simp only [putAll,Act.put,sI,s0,sS]) (hCont (.slice Ao12 y242.length co12,gb245) _ ⟨hHeld,(zr HO244.out),(zb BK240.out),(zb BK241.out),(zb BK245.out),GW245.out,GE245.out,NB240_245.out,NB245_240.out,NB241_245.out,NB245_241.out,zeh_⟩)
    rintro ⟨v243,gb245⟩ w13 ⟨hS_,h0_,h1_,h2_,h3_,h4_,h5_,h6_,h7_,h8_,h9_,h10_⟩
    have n0_:Aside0 (Kd.R (Kd.int .i64) 3 w13 w.heap.size (fun _=>True) v243 y242):=⟨h0_⟩;have n1_:Aside0 (w13.heap[gb240]?=some (.cells #[.int .i64 a0_0,.slice A0_1 l0_1.length c0_1,.int .i64 a0_2] 30 (0,0))):=⟨h1_⟩;have n2_:Aside0 (w13.heap[gb241]?=some (.cells #[.int .i64 0,.slice none 0 0] 26 (0,0))):=⟨h2_⟩;have n3_:Aside0 (w13.heap[gb245]?=some (.cells #[.int .i64 0,.slice none 0 0] 26 (0,0))):=⟨h3_⟩;have n4_:Aside0 (w.heap.size≤gb245):=⟨h4_⟩;have n5_:Aside0 (w.heap.size≤gb245):=⟨h5_⟩;have n6_:Aside0 (gb240≠gb245):=⟨h6_⟩;have n7_:Aside0 (gb245≠gb240):=⟨h7_⟩;have n8_:Aside0 (gb241≠gb245):=⟨h8_⟩;have n9_:Aside0 (gb245≠gb241):=⟨h9_⟩;have n10_:Aside0 (Below w.heap.size w w13):=⟨h10_⟩;clear BK240 BK241 HB h0_ h1_ h2_ h3_ h4_ h5_ h6_ h7_ h8_ h9_ h10_;have HO244:=n0_;have BK240:=n1_;have BK241:=n2_;have BK245:=n3_;have GW245:=n4_;have GE245:=n5_;have NB240_245:=n6_;have NB245_240:=n7_;have NB241_245:=n8_;have NB245_241:=n9_;have HB:=n10_;clear n0_ n1_ n2_ n3_ n4_ n5_ n6_ n7_ n8_ n9_ n10_;have hHeld:w13.cell? ⟨gb240,0,none⟩=some (.int .i64 a0_0)∧w13.cell? ⟨gb240,1,none⟩=some (.slice A0_1 l0_1.length c0_1)∧w13.cell? ⟨gb240,2,none⟩=some (.int .i64 a0_2):=hS_;obtain ⟨Ao14,co14,eo14⟩:=Kd.R_slice HO244.out;(first | subst eo14 | (injection eo14 with f1_ f2_ f3_;have f4_:=f1_.symm;have f5_:=f3_.symm;clear f1_ f2_ f3_;subst f4_;subst f5_))
    refine norm_ (a':=?_) ?_ ?_
    rotate_left
    ·simp only [putAll,Act.put,sI,s0,sS]
     rfl
    refine one_ (i:=8) (N:=none) #[ti,ti,ti,ti,ti,ti,ti,ti,ti] rfl rfl (one_of HT_.out (by kernel_rfl)) (by decide) (fun K hK=>?_)
    have hs15:w13.cell? ⟨gb245,0,none⟩=some (.int .i64 0):=(blk_cell BK245.out 0).trans rfl;have hfs15:=blk_frozen BK245.out 0;have hns15_0:=NB240_245.out;have hns15_1:=NB241_245.out;have hms15_0:=NB245_240.out;have hms15_1:=NB245_241.out;have hs16:w13.cell? ⟨gb245,1,none⟩=some (.slice none 0 0):=(blk_cell BK245.out 1).trans rfl;have hfs16:=blk_frozen BK245.out 1;have hns16_0:=NB240_245.out;have hns16_1:=NB241_245.out;have hms16_0:=NB245_240.out;have hms16_1:=NB245_241.out
    refine skip_ (w1:=?_) (by rfl) rfl ?_ ?_
    rotate_left
    ·go_simp
     rfl
    refine hK.out _ _ ⟨((cell_far (p:=⟨gb245,_,none⟩) NB240_245.out _).trans (((cell_far (p:=⟨gb245,_,none⟩) NB240_245.out _).trans (hHeld.1)))),((cell_far (p:=⟨gb245,_,none⟩) NB240_245.out _).trans (((cell_far (p:=⟨gb245,_,none⟩) NB240_245.out _).trans (hHeld.2.1)))),((cell_far (p:=⟨gb245,_,none⟩) NB240_245.out _).trans (((cell_far (p:=⟨gb245,_,none⟩) NB240_245.out _).trans (hHeld.2.2))))⟩ (fun hHeld=>?_)
    clear hK K
    refine done_ (done_of HT_.out (by kernel_rfl)) ?_
    have hnb17:=NB245_240.out;have hnc17:=NB240_245.out;have hnb18:=NB245_241.out;have hnc18:=NB241_245.out;obtain ⟨hcz19_0,hcz19_1,hfz19_0,hfz19_1⟩:=zk2 BK245.out;(try go_wp2)
    go_loopg [15] k (fun kq v15 w' => ∃ (x15_1:Int) (x246001_1:List Int) (u246001:Value),v15 = .int .i64 x15_1∧Aside0 (impl_tableOfDiagram.l0 kq (y242.length:Int) x15_1 a0_0 l0_1 a0_2 a0_0 x246001_1=some (r1,r2))∧Aside0 (kq≤k)∧Aside0 (Kd.R (Kd.int .i64) 3 w' w.heap.size (fun _=>True) u246001 x246001_1)∧Aside0 (w'.heap[gb240]?=some (.cells #[.int .i64 a0_0,(.slice A0_1 l0_1.length c0_1),.int .i64 a0_2] 30 (0,0)))∧Aside0 (w'.heap[gb241]?=some (.cells #[.int .i64 0,(.slice none 0 0)] 26 (0,0)))∧Aside0 (w'.heap[gb245]?=some (.cells #[.int .i64 a0_0,u246001] 26 (0,0)))∧Aside0 (Below w.heap.size w w'))
    case atStart=>exact ⟨(0),(y242),(.slice Ao14 y242.length co14),ze_,H',⟨Nat.le_refl _⟩,⟨by refine zr ?_;exact Kd.R_mono (Kd.R_far (p:=⟨gb245,1,none⟩) (Kd.R_far (p:=⟨gb245,0,none⟩) (Kd.R_types HO244.out BK245.out (by decide)) (fun _ hk=>hk.2) (.int .i64 a0_0)) (fun _ hk=>hk.2) (.slice Ao14 y242.length co14)) (fun _ hk=>trivial)⟩,⟨by refine zb ?_;refine blk_far ?_ NB240_245.out _;refine zb ?_;refine blk_far ?_ NB240_245.out _;refine zb ?_;exact BK240.out⟩,⟨by refine zb ?_;refine blk_far ?_ NB241_245.out _;refine zb ?_;refine blk_far ?_ NB241_245.out _;refine zb ?_;exact BK241.out⟩,⟨by refine zb ?_;refine blk_put (cs:=#[.int .i64 a0_0,.slice none 0 0]) ?_ 1 _ rfl;refine zb ?_;refine blk_put (cs:=#[.int .i64 0,.slice none 0 0]) ?_ 0 _ rfl;refine zb ?_;exact BK245.out⟩,⟨zeh_⟩⟩
    case round =>
     clear H';(try clear c2b0);(try clear c2b1);(try clear c4b0);(try clear c4b1);(try clear c5b0);(try clear c5b1);(try clear hcz19_0);(try clear hcz19_1);(try clear hfz19_0);(try clear hfz19_1);obtain ⟨x15_1,x246001_1,u246001,rfl,HA,HK1,HO_246001,BK240,BK241,BK245,HB⟩:=hrel
     cases gk with
     | zero=>exact absurd HA.out (by simp [impl_tableOfDiagram.l0])
     | succ k1 =>
      have H:=HA.out;clear HA
      simp only [impl_tableOfDiagram.l0] at H
      by_cases c20:x15_1<(y242.length:Int)
      ·rw [if_pos c20] at H
       have c20b0:=decide_eq_true c20;clear c20;replace H:=oB.mp H;obtain ⟨t246,A210,H⟩:=H;replace H:((impl_diagramValue.f k1 a0_0 l0_1 a0_2 t246).bind fun t249=>(if 0≤x15_1 then (if x15_1<(x246001_1.length:Int) then (impl_tableOfDiagram.l0 k1 (y242.length:Int) (wrap64 (x15_1+1)) a0_0 l0_1 a0_2 a0_0 (x246001_1.set (x15_1:Int).toNat t249)) else (none)) else (none)))=some (r1,r2):=H;have A21:=aM A210;clear A210;replace H:=oB.mp H;obtain ⟨t249,A220,H⟩:=H;replace H:(if 0≤x15_1 then (if x15_1<(x246001_1.length:Int) then (impl_tableOfDiagram.l0 k1 (y242.length:Int) (wrap64 (x15_1+1)) a0_0 l0_1 a0_2 a0_0 (x246001_1.set (x15_1:Int).toNat t249)) else (none)) else (none))=some (r1,r2):=H;have A22:=aM A220;clear A220
       by_cases c23:0≤x15_1
       ·rw [if_pos c23] at H
        have c23b0:=decide_eq_true c23;clear c23
        by_cases c24:x15_1<(x246001_1.length:Int)
        ·rw [if_pos c24] at H
         have c24b0:=decide_eq_true c24;clear c24;obtain ⟨y250,hy250⟩:∃ y_:List Int,y_=(x246001_1.set (x15_1:Int).toNat t249):=⟨_,rfl⟩;replace H:(impl_tableOfDiagram.l0 k1 (y242.length:Int) (wrap64 (x15_1+1)) a0_0 l0_1 a0_2 a0_0 y250)=some (r1,r2):=q3y_ hy250 H
         have Ny250:=aM hy250;clear hy250;have H':=aM H;clear H;(try go_wp2);have n_:=z (kD HO_246001.out)<|z (blk_drew BK240.out)<|z (blk_drew BK241.out)<|z (blk_drew BK245.out)<|z1 (p1 HB.out)
         clear HO_246001 BK240 BK241 BK245 HB;obtain ⟨HO_246001,BK240,BK241,BK245,HB⟩:=n_
         refine start_ (n:=11) (S:=fun w'=>w'.cell? ⟨gb245,0,none⟩=some (.int .i64 a0_0)∧w'.cell? ⟨gb245,1,none⟩=some (u246001)∧w'.cell? ⟨gb240,0,none⟩=some (.int .i64 a0_0)∧w'.cell? ⟨gb240,1,none⟩=some (.slice A0_1 l0_1.length c0_1)∧w'.cell? ⟨gb240,2,none⟩=some (.int .i64 a0_2)) (ds:=[10]) #[fi,fi,fi,fi,fi,fi,fi,fi,fi,fi,fi] (by kernel_rfl) rfl rfl ⟨(blk_cell BK245.out 0).trans rfl,(blk_cell BK245.out 1).trans rfl,(blk_cell BK240.out 0).trans rfl,(blk_cell BK240.out 1).trans rfl,(blk_cell BK240.out 2).trans rfl⟩ (fun hHeld=>?_);refine with_tabW impl_tableOfDiagram.tab5 impl_tableOfDiagram.bits5 (fun HT_ HW_=>?_)
         generalize wr.drew=w26 at HO_246001 BK240 BK241 BK245 HB hHeld ⊢;refine py_ 0 18 HT_.out ?_;refine py_ 2 20 HT_.out ?_;refine py_ 4 22 HT_.out ?_;refine py_ 5 23 HT_.out ?_
         refine tw5_ 1 19 HT_.out HW_.out hHeld ?_
         refine tw5_ 3 21 HT_.out HW_.out hHeld ?_
         refine tw5_ 6 24 HT_.out HW_.out hHeld ?_
         refine one_ (i:=7) (N:=some 25) #[ti,ti,ti,ti,ti,ti,ti,ti,fi,fi,fi] rfl rfl (one_of HT_.out (by kernel_rfl)) (by decide) (fun K hK=>?_)
         refine goes_ Tryd.func87 (by kernel_rfl) rfl #[.int .i64 x15_1,.int .i64 a0_0] (by rfl) rfl rfl zd_ ?_
         with_reducible refine (impl_bitList.calls k1 x15_1 a0_0 t246 _ A21.out).mono ?_
         rintro e w27 ⟨v247,rfl,ho0,hb⟩
         refine ⟨_,rfl,?_⟩
         have n_:=z (Kd.R_elder' (zr HO_246001.out) (Kd.R_base ho0) hb)<|z (Kd.R_lower (Kd.R_new' ho0 (Kd.R_lt (zr HO_246001.out))) (below_size zeh_))<|z (blk_below (zb BK240.out) hb)<|z (blk_below (zb BK241.out) hb)<|z (blk_below (zb BK245.out) hb)<|z1 (below_step zeh_ hb)
         clear HO_246001 BK240 BK241 BK245 HB;obtain ⟨HO_246001,HO248,BK240,BK241,BK245,HB⟩:=n_;(try clear hb);(try clear hb2);(try clear hk);(try clear hi);(try clear ho0);obtain ⟨Ao28,co28,eo28⟩:=Kd.R_slice HO248.out;(first | subst eo28 | (injection eo28 with f1_ f2_ f3_;have f4_:=f1_.symm;have f5_:=f3_.symm;clear f1_ f2_ f3_;subst f4_;subst f5_))
         refine hK.out _ _ ⟨(blk_cell BK245.out 0).trans rfl,(blk_cell BK245.out 1).trans rfl,(blk_cell BK240.out 0).trans rfl,(blk_cell BK240.out 1).trans rfl,(blk_cell BK240.out 2).trans rfl⟩ (fun hHeld=>?_)
         clear hK K
         refine nz_ 25 ?_
         refine one_ (i:=8) (N:=some 26) #[ti,ti,ti,ti,ti,ti,ti,ti,ti,fi,fi] rfl rfl (one_of HT_.out (by kernel_rfl)) (by decide) (fun K hK=>?_)
         refine goes_ Tryd.func57 (by kernel_rfl) rfl #[.agg #[.int .i64 a0_0,.slice A0_1 l0_1.length c0_1,.int .i64 a0_2],.slice Ao28 t246.length co28] (by rfl) rfl rfl zd_ ?_
         with_reducible refine (impl_diagramValue.calls k1 a0_0 _ _ l0_1 a0_2 _ _ t246 t249 _ ?side1 ?side2 ?side3 ?side4 A22.out).mono ?_
         (case side1=>exact zg_)
         (case side2=>exact HC0_1.out)
         (case side3=>repeat (first | exact (Kd.R_reads' HO248.out).2.2 | (with_reducible refine cA ?_ _)|(with_reducible refine cN ?_ _)|(with_reducible refine cD ?_)))
         (case side4=>exact (Kd.R_reads' HO248.out).2.1)
         rintro e w29 ⟨rfl,hb⟩
         refine ⟨_,rfl,?_⟩
         have n_:=z (Kd.R_below (zr HO_246001.out) hb)<|z (Kd.R_below (zr HO248.out) hb)<|z (blk_below (zb BK240.out) hb)<|z (blk_below (zb BK241.out) hb)<|z (blk_below (zb BK245.out) hb)<|z1 (below_step zeh_ hb)
         clear HO_246001 HO248 BK240 BK241 BK245 HB;obtain ⟨HO_246001,HO248,BK240,BK241,BK245,HB⟩:=n_;(try clear hb);(try clear hb2);(try clear hk);(try clear hi);have p25:0≤(x15_1:Int):=of_decide_eq_true zc_;have q25:(x15_1:Int)<((x246001_1.length:Int):Int):=of_decide_eq_true zc_;obtain ⟨go25,co25,eo25,gb25,gl25,cl25,HG25⟩:=Kd.R_form HO_246001.out (by omega);(first | cases eo25 | (injection eo25 with ea_ en_ ec_;(first | subst ea_ | (injection ea_ with ea_;subst ea_));subst ec_;clear en_));have GB25:=aM gb25;have GG25:=aM HG25;clear gb25 gl25 HG25;obtain ⟨hx25_0,hf25_0⟩:=Kd.R_celln 0 HO_246001.out (x15_1:Int) p25 q25;replace p25:=eq_true p25;replace q25:=eq_true q25;have HP30:=Kd.R_putn HO_246001.out (x15_1:Int) t249;rw [← Ny250.out] at HP30;have HQ30:=aM HP30;clear HP30
         refine hK.out _ _ ⟨(blk_cell BK245.out 0).trans rfl,(blk_cell BK245.out 1).trans rfl,(blk_cell BK240.out 0).trans rfl,(blk_cell BK240.out 1).trans rfl,(blk_cell BK240.out 2).trans rfl⟩ (fun hHeld=>?_)
         clear hK K
         refine nz_ 26 ?_
         refine py_ 9 27 HT_.out ?_
         refine last_ (i:=10) (N:=none) #[ti,ti,ti,ti,ti,ti,ti,ti,ti,ti,ti] rfl rfl (one_of HT_.out (by kernel_rfl)) (by decide) (fun K hK=>?_)
         refine skip_ (w1:=?_) (by rfl) rfl ?_ ?_
         rotate_left
         ·go_simp
          rfl
         refine hK.out _ _ ?_
         clear hK K
         refine done_ (done_of HT_.out (by kernel_rfl)) ?_
         (try go_wp2)
         go_roundg k1
         case measure=>have:=HK1.out;omega
         case rel=>exact ⟨(wrap64 (x15_1+1)),(y250),(.slice (some ⟨go25,0,none⟩) x246001_1.length co25),ze_,H',⟨zbd_⟩,⟨by refine zr ?_;exact Kd.R_mono HQ30.out (fun _ hk=>trivial)⟩,⟨by refine zb ?_;refine blk_far ?_ (by have h_:=Kd.R_ne HO_246001.out BK240.out (by decide);intro e_;exact h_ (by rw [e_];rfl)) _;refine zb ?_;exact BK240.out⟩,⟨by refine zb ?_;refine blk_far ?_ (by have h_:=Kd.R_ne HO_246001.out BK241.out (by decide);intro e_;exact h_ (by rw [e_];rfl)) _;refine zb ?_;exact BK241.out⟩,⟨by refine zb ?_;refine blk_far ?_ (by have h_:=Kd.R_ne HO_246001.out BK245.out (by decide);intro e_;exact h_ (by rw [e_];rfl)) _;refine zb ?_;exact BK245.out⟩,⟨by repeat (first | (with_reducible first | exact HB.out | apply pA | apply pN | apply p1 | refine below_set ?_ GB25.out | refine below_set ?_ GE240.out | refine below_set ?_ GE241.out | refine below_set ?_ GE245.out) | exact HB.out)⟩⟩
        ·rw [if_neg c24] at H
         exact q3n_ H
       ·rw [if_neg c23] at H
        exact q3n_ H
      ·rw [if_neg c20] at H
       have c20b0:=decide_eq_false c20;clear c20
       simp only [Option.some.injEq,Prod.mk.injEq] at H
       obtain ⟨rfl,rfl⟩:=H;have hnb31:=NB245_240.out;have hnc31:=NB240_245.out;have hnb32:=NB245_241.out;have hnc32:=NB241_245.out;obtain ⟨hcz33_0,hcz33_1,hfz33_0,hfz33_1⟩:=zk2 BK245.out;have hnb34:=NB241_240.out;have hnc34:=NB240_241.out;obtain ⟨hcz35_0,hcz35_1,hfz35_0,hfz35_1⟩:=zk2 BK241.out;obtain ⟨Ao36,co36,eo36⟩:=Kd.R_slice HO_246001.out;subst eo36
       go_wp2
       refine bodyPost_ret (results_cell_row rfl _ _ gb241 26 #[.int .i64 a0_0,.slice Ao36 x246001_1.length co36] (0,0) _ rfl (by refine zb ?_;refine blk_put (cs:=#[.int .i64 a0_0,.slice none 0 0]) ?_ 1 _ rfl;refine zb ?_;refine blk_put (cs:=#[.int .i64 0,.slice none 0 0]) ?_ 0 _ rfl;refine zb ?_;exact BK241.out) Tryd.underlying26 rfl (by kernel_rfl)) rfl ?_
       exact ⟨_,by first | rfl | (simp [errW_none,errW_some] <;> rfl)|(simp only [← hji3];first | rfl | (simp [errW_none,errW_some] <;> rfl))|(simp [*,errW_none,errW_some] <;> rfl),by refine zr ?_;exact Kd.R_mono (Kd.R_far (p:=⟨gb241,1,none⟩) (Kd.R_far (p:=⟨gb241,0,none⟩) (Kd.R_types HO_246001.out BK241.out (by decide)) (fun _ hk=>hk.2) (.int .i64 a0_0)) (fun _ hk=>hk.2) (.slice Ao36 x246001_1.length co36)) (fun _ hk=>trivial),zeh_⟩
   ·rw [if_neg c5] at H
    exact q3n_ H
  ·rw [if_neg c4] at H
   exact q3n_ H
 ·rw [if_neg c2] at H
  exact q3n_ H
def impl_TableOf.f (k:Nat) (a0_0:Int) (l0_1:List (S70)) (a0_2:Int):Option (Int×List Int×Bool):=(impl_IsDiagram.f k a0_0 l0_1 a0_2).bind fun t253=>(if t253=true then ((impl_tableOfDiagram.f k a0_0 l0_1 a0_2).bind fun bt254=>(some (bt254.1,bt254.2,true))) else (some (0,([]:List Int),false)))
theorem impl_TableOf.calls (k:Nat) (a0_0:Int) (A0_1:Option Addr) (c0_1:Nat) (l0_1:List (S70)) (a0_2:Int) (r1:Int) (r2:List Int) (r3:Bool) (w:World) (hr0_1:Kd.C k70 w A0_1 l0_1.length l0_1) (hc0_1:l0_1.length≤c0_1) (h:impl_TableOf.f k a0_0 l0_1 a0_2=some (r1,r2,r3)) :
  Calls Tryd.prog 11 #[.agg #[.int .i64 a0_0,.slice A0_1 l0_1.length c0_1,.int .i64 a0_2]] w fun e w' => ∃ v1_:Value,e = .returned (.tuple #[.agg #[.int .i64 r1,v1_],.bool r3])∧Kd.R (Kd.int .i64) 3 w' w.heap.size (fun _=>True) v1_ r2∧Below w.heap.size w w':=by
 have hu30:=Tryd.underlying30
 have hu26:=Tryd.underlying26
 have HR0_1:=aM hr0_1
 have HC0_1:=aM hc0_1
 clear hr0_1 hc0_1
 have HB:=aM (Below.refl w.heap.size w)
 have H:((impl_IsDiagram.f k a0_0 l0_1 a0_2).bind fun t253=>(if t253=true then ((impl_tableOfDiagram.f k a0_0 l0_1 a0_2).bind fun bt254=>(some (bt254.1,bt254.2,true))) else (some (0,([]:List Int),false))))=some (r1,r2,r3):=h
 clear h
 replace H:=oB.mp H
 obtain ⟨t253,A20,H⟩:=H
 replace H:(if t253=true then ((impl_tableOfDiagram.f k a0_0 l0_1 a0_2).bind fun bt254=>(some (bt254.1,bt254.2,true))) else (some (0,([]:List Int),false)))=some (r1,r2,r3):=H
 have A2:=aM A20
 clear A20
 by_cases c3:t253=true
 ·subst c3
  have H1:((impl_tableOfDiagram.f k a0_0 l0_1 a0_2).bind fun bt254=>(some (bt254.1,bt254.2,true)))=some (r1,r2,r3):=by rw [if_pos rfl] at H;exact H
  clear H;have H:=H1;clear H1;replace H:=oB.mp H;obtain ⟨⟨t254,t255⟩,A40,H⟩:=H;replace H:(some (t254,t255,true))=some (r1,r2,r3):=H;have A4:=aM A40;clear A40
  simp only [Option.some.injEq,Prod.mk.injEq] at H
  obtain ⟨rfl,rfl,rfl⟩:=H
  go_enter Tryd.func11,Tryd.ntmps11
  go_wp2_with (first | ((with_reducible refine gate_dst (N:=1) rfl ?_);refine box_event ?hg (N:=1) ?hd (cs:=#[.int .i64 a0_0,.slice A0_1 l0_1.length c0_1,.int .i64 a0_2]) (t:=30) ?hr ?_;(case hd=>rfl);(case hg=>rfl);(case hr=>exact zb_);intro gb251 hg w5 hbox hb;have n_:=z (below_step za_ hb)<|z (hbox)<|z ((by rw [hg];exact (below_size za_):w.heap.size≤gb251))<|z1 ((by rw [hg];exact (below_size za_):w.heap.size≤gb251));clear HB;obtain ⟨HB,BK251,GW251,GE251⟩:=n_;clear hb hbox hg)|((with_reducible refine gate_dst (N:=2) rfl ?_);refine box_event ?hg (N:=2) ?hd (cs:=#[.int .i64 0,.slice none 0 0]) (t:=26) ?hr ?_;(case hd=>rfl);(case hg=>rfl);(case hr=>exact zb_);intro gb252 hg w6 hbox hb;have n_:=z (blk_below (zb BK251.out) hb)<|z (below_step zhd_ hb)<|z (hbox)<|z ((by rw [hg];exact (below_size zhd_):w.heap.size≤gb252))<|z ((by rw [hg];exact (below_size zhd_):w.heap.size≤gb252))<|z ((by rw [hg];exact Nat.ne_of_lt (blk_lt (zb BK251.out)):gb251≠gb252))<|z1 ((by rw [hg];exact Nat.ne_of_gt (blk_lt (zb BK251.out)):gb252≠gb251));clear BK251 HB;obtain ⟨BK251,HB,BK252,GW252,GE252,NB251_252,NB252_251⟩:=n_;clear hb hbox hg;have hnb7:=NB251_252.out;have hnc7:=NB252_251.out;obtain ⟨hcz8_0,hcz8_1,hcz8_2,hfz8_0,hfz8_1,hfz8_2⟩:=zk3 BK251.out)|((with_reducible refine gate_callee (f:=15) rfl ?_);refine goesL_ (some 5) rfl rfl Tryd.func15 (by kernel_rfl) rfl #[.agg #[.int .i64 a0_0,.slice A0_1 l0_1.length c0_1,.int .i64 a0_2]] rfl zd_ ?_;(with_reducible refine (impl_IsDiagram.calls k a0_0 _ _ l0_1 a0_2 true _ ?side1 ?side2 A2.out).mono ?_);(case side1=>exact zg_);(case side2=>exact HC0_1.out);rintro e w9 ⟨rfl,hb⟩;refine ⟨_,rfl,?_⟩;have n_:=z (blk_below (zb BK251.out) hb)<|z (blk_below (zb BK252.out) hb)<|z1 (below_step zhe_ hb);clear BK251 BK252 HB;obtain ⟨BK251,BK252,HB⟩:=n_;clear hb;obtain ⟨hcz10_0,hcz10_1,hcz10_2,hfz10_0,hfz10_1,hfz10_2⟩:=zk3 BK251.out)|((with_reducible refine gate_callee (f:=53) rfl ?_);refine goesL_ (some 9) rfl rfl Tryd.func53 (by kernel_rfl) rfl #[.agg #[.int .i64 a0_0,.slice A0_1 l0_1.length c0_1,.int .i64 a0_2]] rfl zd_ ?_;(with_reducible refine (impl_tableOfDiagram.calls k a0_0 _ _ l0_1 a0_2 t254 t255 _ ?side1 ?side2 A4.out).mono ?_);(case side1=>exact zg_);(case side2=>exact HC0_1.out);rintro e w11 ⟨v256,rfl,ho0,hb⟩;refine ⟨_,rfl,?_⟩;have n_:=z (Kd.R_lower ho0 (below_size zhe_))<|z (blk_below (zb BK251.out) hb)<|z (blk_below (zb BK252.out) hb)<|z1 (below_step zhe_ hb);clear BK251 BK252 HB;obtain ⟨HO257,BK251,BK252,HB⟩:=n_;clear hb;(try clear ho0);obtain ⟨hcz12_0,hcz12_1,hfz12_0,hfz12_1⟩:=zk2 BK252.out;obtain ⟨Ao13,co13,eo13⟩:=Kd.R_slice HO257.out;subst eo13))
  refine bodyPost_ret (results_ct rfl _ _ gb252 26 #[.int .i64 t254,.slice Ao13 t255.length co13] (0,0) _ rfl (by refine zb ?_;refine blk_put (cs:=#[.int .i64 t254,.slice none 0 0]) ?_ 1 _ rfl;refine zb ?_;refine blk_put (cs:=#[.int .i64 0,.slice none 0 0]) ?_ 0 _ rfl;refine zb ?_;exact BK252.out) Tryd.underlying26 rfl (by kernel_rfl)) rfl ?_
  exact ⟨_,zf_,by refine zr ?_;exact Kd.R_mono (Kd.R_far (p:=⟨gb252,1,none⟩) (Kd.R_far (p:=⟨gb252,0,none⟩) (Kd.R_types HO257.out BK252.out (by decide)) (fun _ hk=>hk.2) (.int .i64 t254)) (fun _ hk=>hk.2) (.slice Ao13 t255.length co13)) (fun _ hk=>trivial),zhe_⟩
 ·replace c3:=Bool.eq_false_iff.mpr c3
  subst c3;have H1:(some (0,([]:List Int),false))=some (r1,r2,r3):=by rw [if_neg (show ¬ (false=true) by decide)] at H;exact H
  clear H;have H:=H1;clear H1
  simp only [Option.some.injEq,Prod.mk.injEq] at H
  obtain ⟨rfl,rfl,rfl⟩:=H
  go_enter Tryd.func11,Tryd.ntmps11
  go_wp2_with (first | ((with_reducible refine gate_dst (N:=1) rfl ?_);refine box_event ?hg (N:=1) ?hd (cs:=#[.int .i64 a0_0,.slice A0_1 l0_1.length c0_1,.int .i64 a0_2]) (t:=30) ?hr ?_;(case hd=>rfl);(case hg=>rfl);(case hr=>exact zb_);intro gb251 hg w14 hbox hb;have n_:=z (below_step za_ hb)<|z (hbox)<|z ((by rw [hg];exact (below_size za_):w.heap.size≤gb251))<|z1 ((by rw [hg];exact (below_size za_):w.heap.size≤gb251));clear HB;obtain ⟨HB,BK251,GW251,GE251⟩:=n_;clear hb hbox hg)|((with_reducible refine gate_dst (N:=2) rfl ?_);refine box_event ?hg (N:=2) ?hd (cs:=#[.int .i64 0,.slice none 0 0]) (t:=26) ?hr ?_;(case hd=>rfl);(case hg=>rfl);(case hr=>exact zb_);intro gb252 hg w15 hbox hb;have n_:=z (blk_below (zb BK251.out) hb)<|z (below_step zhd_ hb)<|z (hbox)<|z ((by rw [hg];exact (below_size zhd_):w.heap.size≤gb252))<|z ((by rw [hg];exact (below_size zhd_):w.heap.size≤gb252))<|z ((by rw [hg];exact Nat.ne_of_lt (blk_lt (zb BK251.out)):gb251≠gb252))<|z1 ((by rw [hg];exact Nat.ne_of_gt (blk_lt (zb BK251.out)):gb252≠gb251));clear BK251 HB;obtain ⟨BK251,HB,BK252,GW252,GE252,NB251_252,NB252_251⟩:=n_;clear hb hbox hg;have hnb16:=NB251_252.out;have hnc16:=NB252_251.out;obtain ⟨hcz17_0,hcz17_1,hcz17_2,hfz17_0,hfz17_1,hfz17_2⟩:=zk3 BK251.out)|((with_reducible refine gate_callee (f:=15) rfl ?_);refine goesL_ (some 5) rfl rfl Tryd.func15 (by kernel_rfl) rfl #[.agg #[.int .i64 a0_0,.slice A0_1 l0_1.length c0_1,.int .i64 a0_2]] rfl zd_ ?_;(with_reducible refine (impl_IsDiagram.calls k a0_0 _ _ l0_1 a0_2 false _ ?side1 ?side2 A2.out).mono ?_);(case side1=>exact zg_);(case side2=>exact HC0_1.out);rintro e w18 ⟨rfl,hb⟩;refine ⟨_,rfl,?_⟩;have n_:=z (blk_below (zb BK251.out) hb)<|z (blk_below (zb BK252.out) hb)<|z1 (below_step zhe_ hb);clear BK251 BK252 HB;obtain ⟨BK251,BK252,HB⟩:=n_;clear hb;obtain ⟨hcz19_0,hcz19_1,hfz19_0,hfz19_1⟩:=zk2 BK252.out))
  refine bodyPost_ret (results_ct rfl _ _ gb252 26 #[.int .i64 0,.slice none 0 0] (0,0) _ rfl (by refine zb ?_;refine blk_put (cs:=#[.int .i64 0,.slice none 0 0]) ?_ 1 _ rfl;refine zb ?_;refine blk_put (cs:=#[.int .i64 0,.slice none 0 0]) ?_ 0 _ rfl;refine zb ?_;exact BK252.out) Tryd.underlying26 rfl (by kernel_rfl)) rfl ?_
  exact ⟨_,zf_,zdi_,zhe_⟩
mutual
def impl_InputsUsed.l0:Nat→Int→Bool→Bool→Bool→Bool→(List (S70))→Option (List Int×Bool)
 | 0,_,_,_,_,_,_=>none
 | k+1,x1_17,x1_g4_0,x1_g4_1,x1_g4_2,x1_g4_3,l0_1=>if x1_17<((l0_1.length:Int)) then (if 0≤x1_17∧x1_17<(l0_1.length:Int) then (if ((rd_T70 l0_1 x1_17).f0)=0 then (impl_InputsUsed.l0 k (wrap64 (x1_17+1)) true x1_g4_1 x1_g4_2 x1_g4_3 l0_1) else (if ((rd_T70 l0_1 x1_17).f0)=1 then (impl_InputsUsed.l0 k (wrap64 (x1_17+1)) x1_g4_0 true x1_g4_2 x1_g4_3 l0_1) else (if ((rd_T70 l0_1 x1_17).f0)=2 then (impl_InputsUsed.l0 k (wrap64 (x1_17+1)) x1_g4_0 x1_g4_1 true x1_g4_3 l0_1) else (if ((rd_T70 l0_1 x1_17).f0)=3 then (impl_InputsUsed.l0 k (wrap64 (x1_17+1)) x1_g4_0 x1_g4_1 x1_g4_2 true l0_1) else (none))))) else (none)) else (impl_InputsUsed.l1 k ([]) 0 x1_g4_0 x1_g4_1 x1_g4_2 x1_g4_3)
def impl_InputsUsed.l1:Nat→(List Int)→Int→Bool→Bool→Bool→Bool→Option (List Int×Bool)
 | 0,_,_,_,_,_,_=>none
 | k+1,l3_0,x3_27,x1_g4_0,x1_g4_1,x1_g4_2,x1_g4_3=>if x3_27<4 then (if x3_27=0 then (if (x1_g4_0)=true then (if l3_0.length+1≤17592186044416 then (impl_InputsUsed.l1 k (l3_0 ++ [0]) (wrap64 (0+1)) x1_g4_0 x1_g4_1 x1_g4_2 x1_g4_3) else (none)) else (impl_InputsUsed.l1 k l3_0 (wrap64 (0+1)) x1_g4_0 x1_g4_1 x1_g4_2 x1_g4_3)) else (if x3_27=1 then (if (x1_g4_1)=true then (if l3_0.length+1≤17592186044416 then (impl_InputsUsed.l1 k (l3_0 ++ [1]) (wrap64 (1+1)) x1_g4_0 x1_g4_1 x1_g4_2 x1_g4_3) else (none)) else (impl_InputsUsed.l1 k l3_0 (wrap64 (1+1)) x1_g4_0 x1_g4_1 x1_g4_2 x1_g4_3)) else (if x3_27=2 then (if (x1_g4_2)=true then (if l3_0.length+1≤17592186044416 then (impl_InputsUsed.l1 k (l3_0 ++ [2]) (wrap64 (2+1)) x1_g4_0 x1_g4_1 x1_g4_2 x1_g4_3) else (none)) else (impl_InputsUsed.l1 k l3_0 (wrap64 (2+1)) x1_g4_0 x1_g4_1 x1_g4_2 x1_g4_3)) else (if x3_27=3 then (if (x1_g4_3)=true then (if l3_0.length+1≤17592186044416 then (impl_InputsUsed.l1 k (l3_0 ++ [3]) (wrap64 (3+1)) x1_g4_0 x1_g4_1 x1_g4_2 x1_g4_3) else (none)) else (impl_InputsUsed.l1 k l3_0 (wrap64 (3+1)) x1_g4_0 x1_g4_1 x1_g4_2 x1_g4_3)) else (none))))) else (some (l3_0,true))
end
def impl_InputsUsed.f (k:Nat) (a0_0:Int) (l0_1:List (S70)) (a0_2:Int):Option (List Int×Bool):=(impl_IsDiagram.f k a0_0 l0_1 a0_2).bind fun b11=>if b11=true then (impl_InputsUsed.l0 k 0 false false false false l0_1) else (some ([],false))
theorem ow12_ix73_0 (w:World) (x0 x1 x2 x3:Bool):(Instr.index 73 (.agg #[.bool x0,.bool x1,.bool x2,.bool x3]) (.int .i64 0)).run Tryd.prog w = .ok (.bool x0) w:=by kernel_rfl
theorem ow12_ix73_1 (w:World) (x0 x1 x2 x3:Bool):(Instr.index 73 (.agg #[.bool x0,.bool x1,.bool x2,.bool x3]) (.int .i64 1)).run Tryd.prog w = .ok (.bool x1) w:=by kernel_rfl
theorem ow12_ix73_2 (w:World) (x0 x1 x2 x3:Bool):(Instr.index 73 (.agg #[.bool x0,.bool x1,.bool x2,.bool x3]) (.int .i64 2)).run Tryd.prog w = .ok (.bool x2) w:=by kernel_rfl
theorem ow12_ix73_3 (w:World) (x0 x1 x2 x3:Bool):(Instr.index 73 (.agg #[.bool x0,.bool x1,.bool x2,.bool x3]) (.int .i64 3)).run Tryd.prog w = .ok (.bool x3) w:=by kernel_rfl
section
attribute [local go_sem high] ow12_ix73_0 ow12_ix73_1 ow12_ix73_2 ow12_ix73_3
open Go.Proofs.YtlnhpkjioppbiaaDoor.Sep in
set_option maxHeartbeats 32000000 in
set_option maxRecDepth 100000 in
theorem impl_InputsUsed.calls (k:Nat) (a0_0:Int) (A0_1:Option Addr) (c0_1:Nat) (l0_1:List (S70)) (a0_2:Int) (r1:List Int) (r2:Bool) (w:World) (hr0_1:Kd.C k70 w A0_1 l0_1.length l0_1) (hc0_1:l0_1.length≤c0_1) (h:impl_InputsUsed.f k a0_0 l0_1 a0_2=some (r1,r2)) :
  Calls Tryd.prog 12 #[.agg #[.int .i64 a0_0,.slice A0_1 l0_1.length c0_1,.int .i64 a0_2]] w fun e w' => ∃ v0_:Value,e = .returned (.tuple #[v0_,.bool r2])∧Kd.R (Kd.int .i64) 3 w' w.heap.size (fun _=>True) v0_ r1∧Below w.heap.size w w':=by
 have HR0_1:=aM hr0_1
 have HC0_1:=aM hc0_1
 clear hr0_1 hc0_1
 unfold impl_InputsUsed.f at h
 have H:=h
 clear h
 obtain ⟨t11,A_,H_⟩:=oB.mp H
 clear H
 have H:=H_
 clear H_
 (try dsimp only at H)
 have A11:=aM A_
 clear A_
 go_enter Tryd.func12,Tryd.ntmps12
 go_upto_region 1 with (first | ((with_reducible refine gate_dst (N:=1) rfl ?_);refine box_event ?hg (N:=1) ?hd (cs:=#[.int .i64 a0_0,.slice A0_1 l0_1.length c0_1,.int .i64 a0_2]) (t:=30) ?hr ?_;(case hd=>rfl);(case hg=>rfl);(case hr=>exact zb_);intro g1 hg w_1 hbox hb;have HO_1:=aM ((Sep.Own.nil w).add_box (T:=30) (cs:=#[.int .i64 a0_0,.slice A0_1 l0_1.length c0_1,.int .i64 a0_2]) hg hbox hb);clear hg hbox hb))
 by_cases c11_0_:t11=true
 ·subst c11_0_
  rw [if_pos rfl] at H;have z_1:w_1.cell? ⟨g1,0,none⟩=some (.int .i64 a0_0):=(HO_1.out.cell 0 rfl 0 rfl);have z_2:w_1.cell? ⟨g1,1,none⟩=some (.slice A0_1 l0_1.length c0_1):=(HO_1.out.cell 0 rfl 1 rfl);have z_3:w_1.cell? ⟨g1,2,none⟩=some (.int .i64 a0_2):=(HO_1.out.cell 0 rfl 2 rfl)
  go_wp2_with (first | ((with_reducible refine gate_callee (f:=15) rfl ?_);refine goesL_ (some 11) rfl rfl Tryd.func15 (by kernel_rfl) rfl #[.agg #[.int .i64 a0_0,.slice A0_1 l0_1.length c0_1,.int .i64 a0_2]] rfl zbc_ ?_;(with_reducible refine (impl_IsDiagram.calls k a0_0 A0_1 c0_1 l0_1 a0_2 true _ (by exact (Kd.C_below HR0_1.out HO_1.out.base)) HC0_1.out A11.out).mono ?_);rintro e w_2 ⟨rfl,hb⟩;refine ⟨_,rfl,?_⟩;have ho:=HO_1.out.below hb;clear hb;have HO_2:=aM ho;clear ho)|((with_reducible refine gate_dst (N:=4) rfl ?_);refine box_event ?hg (N:=4) ?hd (cs:=#[.bool false,.bool false,.bool false,.bool false]) (t:=73) ?hr ?_;(case hd=>rfl);(case hg=>rfl);(case hr=>exact zb_);intro g4 hg w_3 hbox hb;have HO_3:=aM (HO_2.out.add_box (T:=73) (cs:=#[.bool false,.bool false,.bool false,.bool false]) hg hbox hb);clear hg hbox hb)|((with_reducible refine gate_store (t:=73) (p:=4) (v := .tmp 13) rfl ?_);refine Sep.own_store HO_3.out 0 g4 73 _ #[.bool false,.bool false,.bool false,.bool false] rfl rfl rfl 73 (.tmp 4) (.tmp 13) rfl rfl _ rfl rfl rfl (by kernel_rfl) (by simp [Value.oneCell']) ?_;intro w_4 ho;have HO_4:=aM ho;clear ho;have z_4:w_4.cell? ⟨g1,1,none⟩=some (.slice A0_1 l0_1.length c0_1):=(HO_4.out.cell 1 rfl 1 rfl)))
  (try simp only [Act.put,sI,s0,sS]);have HC_1:=aM H;clear H
  go_loopg [17] k (fun kq v17 wr1 => ∃ (x1_17:Int) (x1_g4_0:Bool) (x1_g4_1:Bool) (x1_g4_2:Bool) (x1_g4_3:Bool),v17 = .int .i64 x1_17∧Aside0 (impl_InputsUsed.l0 kq x1_17 x1_g4_0 x1_g4_1 x1_g4_2 x1_g4_3 l0_1=some (r1,r2))∧Aside0 (kq≤k)∧Aside0 (Own w wr1 [Item.box g4 73 #[.bool x1_g4_0,.bool x1_g4_1,.bool x1_g4_2,.bool x1_g4_3]]))
  case atStart=>exact ⟨0,false,false,false,false,zbh_,⟨HC_1.out⟩,⟨by omega⟩,⟨((HO_4.out.front 0 rfl).front 1 rfl).tail⟩⟩
  case round =>
   rename World=>wr1
   clear HC_1
   (repeat clear HO_1)
   (repeat clear HO_2)
   (repeat clear HO_3)
   (repeat clear HO_4)
   obtain ⟨x1_17,x1_g4_0,x1_g4_1,x1_g4_2,x1_g4_3,rfl,HL_1,HK_1,HO_1⟩:=hrel
   cases gk with
   | zero=>exact absurd HL_1.out (by simp only [impl_InputsUsed.l0];exact fun h_=>by cases h_)
   | succ k1 =>
    have H:=HL_1.out;clear HL_1
    simp only [impl_InputsUsed.l0] at H
    by_cases c18_1:x1_17<((l0_1.length:Int))
    ·rw [if_pos c18_1] at H
     have c18_1b0:decide (x1_17<((l0_1.length:Int)))=true:=(by simpa using c18_1);clear c18_1
     go_upto_region 6 with (fail)
     by_cases c19_1z:0≤x1_17∧x1_17<(l0_1.length:Int)
     ·rw [if_pos c19_1z] at H
      have c19_1:=aM c19_1z;clear c19_1z;have p19:(0≤x1_17)=True:=eq_true c19_1.out.1;have q19:(x1_17<(l0_1.length:Int))=True:=eq_true c19_1.out.2;have r19:(x1_17.toNat<l0_1.length)=True:=eq_true (by have h_:=c19_1.out;omega);obtain ⟨ad19,e_,_⟩:=at_T70 (Kd.C_below HR0_1.out HO_1.out.base) x1_17 c19_1.out.1 c19_1.out.2;subst e_;have z_5:wr1.cell? (ad19.add (x1_17.toNat * 3))=some (.int .i64 ((rd_T70 l0_1 x1_17).f0)):=(by obtain ⟨b_,e_,h0_,h1_,h2_⟩:=at_T70 (Kd.C_below HR0_1.out HO_1.out.base) x1_17 c19_1.out.1 c19_1.out.2;cases e_;exact h0_);have z_6:wr1.cell? ⟨(ad19.add (x1_17.toNat * 3)).block,(ad19.add (x1_17.toNat * 3)).off+1,none⟩=some (.int .i64 ((rd_T70 l0_1 x1_17).f1)):=(by obtain ⟨b_,e_,h0_,h1_,h2_⟩:=at_T70 (Kd.C_below HR0_1.out HO_1.out.base) x1_17 c19_1.out.1 c19_1.out.2;cases e_;exact h1_);have z_7:wr1.cell? ⟨(ad19.add (x1_17.toNat * 3)).block,(ad19.add (x1_17.toNat * 3)).off+2,none⟩=some (.int .i64 ((rd_T70 l0_1 x1_17).f2)):=(by obtain ⟨b_,e_,h0_,h1_,h2_⟩:=at_T70 (Kd.C_below HR0_1.out HO_1.out.base) x1_17 c19_1.out.1 c19_1.out.2;cases e_;exact h2_)
      go_upto_region 7 with (first | ((with_reducible refine gate_dst (N:=6) rfl ?_);refine box_event ?hg (N:=6) ?hd (cs:=#[.int .i64 0,.int .i64 0,.int .i64 0]) (t:=70) ?hr ?_;(case hd=>rfl);(case hg=>rfl);(case hr=>exact zb_);intro g6 hg w_1 hbox hb;have HO_1:=aM (HO_1.out.add_box (T:=70) (cs:=#[.int .i64 0,.int .i64 0,.int .i64 0]) hg hbox hb);clear hg hbox hb)|((with_reducible refine gate_store (t:=70) (p:=6) (v := .tmp 20) rfl ?_);refine Sep.own_store HO_1.out 0 g6 70 _ #[.int .i64 ((rd_T70 l0_1 x1_17).f0),.int .i64 ((rd_T70 l0_1 x1_17).f1),.int .i64 ((rd_T70 l0_1 x1_17).f2)] rfl rfl rfl 70 (.tmp 6) (.tmp 20) rfl rfl _ rfl rfl rfl (by kernel_rfl) (by simp [Value.oneCell']) ?_;intro w_2 ho;have HO_2:=aM ho;clear ho))
      by_cases c23_1_0:((rd_T70 l0_1 x1_17).f0)=0
      ·rw [if_pos c23_1_0] at H
       have c23_1_0b0:(((rd_T70 l0_1 x1_17).f0) == 0)=true:=(by simpa using c23_1_0);have c23_1_0b1:(((rd_T70 l0_1 x1_17).f0) != 0)=false:=(by simpa using c23_1_0);have c23_1_0b2:decide (((rd_T70 l0_1 x1_17).f0)=0)=true:=(by simpa using c23_1_0);(try rw [c23_1_0]);have z_8:w_2.cell? ⟨g6,0,none⟩=some (.int .i64 ((rd_T70 l0_1 x1_17).f0)):=(HO_2.out.cell 0 rfl 0 rfl)
       go_wp2_with (first | ((with_reducible refine gate_store (t:=4) (p:=23) (v := .const (.bool true)) rfl ?_);refine Sep.own_store_at HO_2.out 1 g4 73 _ rfl rfl rfl 4 (.tmp 23) (.const (.bool true)) rfl 0 rfl (.bool true) rfl rfl (by kernel_rfl) rfl (by simp) ?_;intro w_3 ho;have HO_3:=aM ho;clear ho))
       go_roundg k1
       case measure=>have h1_:=HK_1.out;omega
       case rel=>exact ⟨(wrap64 (x1_17+1)),true,x1_g4_1,x1_g4_2,x1_g4_3,zbh_,⟨H⟩,⟨by have h1_:=HK_1.out;omega⟩,⟨((HO_3.out.front 1 rfl).front 1 rfl).tail⟩⟩
      ·rw [if_neg c23_1_0] at H
       have c23_1_0b0:(((rd_T70 l0_1 x1_17).f0) == 0)=false:=(by simpa using c23_1_0);have c23_1_0b1:(((rd_T70 l0_1 x1_17).f0) != 0)=true:=(by simpa using c23_1_0);have c23_1_0b2:decide (((rd_T70 l0_1 x1_17).f0)=0)=false:=(by simpa using c23_1_0);clear c23_1_0
       by_cases c23_1_1:((rd_T70 l0_1 x1_17).f0)=1
       ·rw [if_pos c23_1_1] at H
        have c23_1_1b0:(((rd_T70 l0_1 x1_17).f0) == 1)=true:=(by simpa using c23_1_1);have c23_1_1b1:(((rd_T70 l0_1 x1_17).f0) != 1)=false:=(by simpa using c23_1_1);have c23_1_1b2:decide (((rd_T70 l0_1 x1_17).f0)=1)=true:=(by simpa using c23_1_1);(try rw [c23_1_1]);have z_8:w_2.cell? ⟨g6,0,none⟩=some (.int .i64 ((rd_T70 l0_1 x1_17).f0)):=(HO_2.out.cell 0 rfl 0 rfl)
        go_wp2_with (first | ((with_reducible refine gate_store (t:=4) (p:=23) (v := .const (.bool true)) rfl ?_);refine Sep.own_store_at HO_2.out 1 g4 73 _ rfl rfl rfl 4 (.tmp 23) (.const (.bool true)) rfl 1 rfl (.bool true) rfl rfl (by kernel_rfl) rfl (by simp) ?_;intro w_3 ho;have HO_3:=aM ho;clear ho))
        go_roundg k1
        case measure=>have h1_:=HK_1.out;omega
        case rel=>exact ⟨(wrap64 (x1_17+1)),x1_g4_0,true,x1_g4_2,x1_g4_3,zbh_,⟨H⟩,⟨by have h1_:=HK_1.out;omega⟩,⟨((HO_3.out.front 1 rfl).front 1 rfl).tail⟩⟩
       ·rw [if_neg c23_1_1] at H
        have c23_1_1b0:(((rd_T70 l0_1 x1_17).f0) == 1)=false:=(by simpa using c23_1_1);have c23_1_1b1:(((rd_T70 l0_1 x1_17).f0) != 1)=true:=(by simpa using c23_1_1);have c23_1_1b2:decide (((rd_T70 l0_1 x1_17).f0)=1)=false:=(by simpa using c23_1_1);clear c23_1_1
        by_cases c23_1_2:((rd_T70 l0_1 x1_17).f0)=2
        ·rw [if_pos c23_1_2] at H
         have c23_1_2b0:(((rd_T70 l0_1 x1_17).f0) == 2)=true:=(by simpa using c23_1_2);have c23_1_2b1:(((rd_T70 l0_1 x1_17).f0) != 2)=false:=(by simpa using c23_1_2);have c23_1_2b2:decide (((rd_T70 l0_1 x1_17).f0)=2)=true:=(by simpa using c23_1_2);(try rw [c23_1_2]);have z_8:w_2.cell? ⟨g6,0,none⟩=some (.int .i64 ((rd_T70 l0_1 x1_17).f0)):=(HO_2.out.cell 0 rfl 0 rfl)
         go_wp2_with (first | ((with_reducible refine gate_store (t:=4) (p:=23) (v := .const (.bool true)) rfl ?_);refine Sep.own_store_at HO_2.out 1 g4 73 _ rfl rfl rfl 4 (.tmp 23) (.const (.bool true)) rfl 2 rfl (.bool true) rfl rfl (by kernel_rfl) rfl (by simp) ?_;intro w_3 ho;have HO_3:=aM ho;clear ho))
         go_roundg k1
         case measure=>have h1_:=HK_1.out;omega
         case rel=>exact ⟨(wrap64 (x1_17+1)),x1_g4_0,x1_g4_1,true,x1_g4_3,zbh_,⟨H⟩,⟨by have h1_:=HK_1.out;omega⟩,⟨((HO_3.out.front 1 rfl).front 1 rfl).tail⟩⟩
        ·rw [if_neg c23_1_2] at H
         have c23_1_2b0:(((rd_T70 l0_1 x1_17).f0) == 2)=false:=(by simpa using c23_1_2);have c23_1_2b1:(((rd_T70 l0_1 x1_17).f0) != 2)=true:=(by simpa using c23_1_2);have c23_1_2b2:decide (((rd_T70 l0_1 x1_17).f0)=2)=false:=(by simpa using c23_1_2);clear c23_1_2
         by_cases c23_1_3:((rd_T70 l0_1 x1_17).f0)=3
         ·rw [if_pos c23_1_3] at H
          have c23_1_3b0:(((rd_T70 l0_1 x1_17).f0) == 3)=true:=(by simpa using c23_1_3);have c23_1_3b1:(((rd_T70 l0_1 x1_17).f0) != 3)=false:=(by simpa using c23_1_3);have c23_1_3b2:decide (((rd_T70 l0_1 x1_17).f0)=3)=true:=(by simpa using c23_1_3);(try rw [c23_1_3]);have z_8:w_2.cell? ⟨g6,0,none⟩=some (.int .i64 ((rd_T70 l0_1 x1_17).f0)):=(HO_2.out.cell 0 rfl 0 rfl)
          go_wp2_with (first | ((with_reducible refine gate_store (t:=4) (p:=23) (v := .const (.bool true)) rfl ?_);refine Sep.own_store_at HO_2.out 1 g4 73 _ rfl rfl rfl 4 (.tmp 23) (.const (.bool true)) rfl 3 rfl (.bool true) rfl rfl (by kernel_rfl) rfl (by simp) ?_;intro w_3 ho;have HO_3:=aM ho;clear ho))
          go_roundg k1
          case measure=>have h1_:=HK_1.out;omega
          case rel=>exact ⟨(wrap64 (x1_17+1)),x1_g4_0,x1_g4_1,x1_g4_2,true,zbh_,⟨H⟩,⟨by have h1_:=HK_1.out;omega⟩,⟨((HO_3.out.front 1 rfl).front 1 rfl).tail⟩⟩
         ·rw [if_neg c23_1_3] at H
          have c23_1_3b0:(((rd_T70 l0_1 x1_17).f0) == 3)=false:=(by simpa using c23_1_3);have c23_1_3b1:(((rd_T70 l0_1 x1_17).f0) != 3)=true:=(by simpa using c23_1_3);have c23_1_3b2:decide (((rd_T70 l0_1 x1_17).f0)=3)=false:=(by simpa using c23_1_3);clear c23_1_3;exact q3n_ H
     ·rw [if_neg c19_1z] at H
      exact q3n_ H
    ·rw [if_neg c18_1] at H
     have c18_1b0:decide (x1_17<((l0_1.length:Int)))=false:=(by simpa using c18_1);clear c18_1
     go_wp2_with (first | ((with_reducible refine gate_dst (N:=25) rfl ?_);refine Sep.own_lit0 (Kd.int .i64) HO_1.out 3 ?hg (N:=25) ?hd ?hr ?_;(case hd=>rfl);(case hg=>rfl);(case hr=>exact zb_);intro x_25 w_1 ho _;obtain ⟨A_25,n_25,c_25,hn_,rfl⟩:=ho.row_seal 0 rfl;have HN_25:=aM hn_;clear hn_;have HO_1:=aM ho;clear ho;have z_5:w_1.cell? ⟨g4,0,none⟩=some (.bool x1_g4_0):=(HO_1.out.cell 1 rfl 0 rfl);have z_6:w_1.cell? ⟨g4,1,none⟩=some (.bool x1_g4_1):=(HO_1.out.cell 1 rfl 1 rfl);have z_7:w_1.cell? ⟨g4,2,none⟩=some (.bool x1_g4_2):=(HO_1.out.cell 1 rfl 2 rfl);have z_8:w_1.cell? ⟨g4,3,none⟩=some (.bool x1_g4_3):=(HO_1.out.cell 1 rfl 3 rfl)))
     (try simp only [Act.put,sI,s0,sS]);have hn_:=HN_25.out;subst hn_;have HC_3:=aM H;clear H
     go_loopg [7,27] k1 (fun kq v7 v27 wr3 => ∃ (l3_0:List Int) (A3_0:Option Addr) (c3_0:Nat) (x3_27:Int),v7 = .slice A3_0 l3_0.length c3_0∧v27 = .int .i64 x3_27∧Aside0 (impl_InputsUsed.l1 kq l3_0 x3_27 x1_g4_0 x1_g4_1 x1_g4_2 x1_g4_3=some (r1,r2))∧Aside0 (kq≤k1)∧Aside0 (Own w wr3 [Item.row (Kd.int .i64) 3 (.slice A3_0 l3_0.length c3_0) l3_0]))
     case atStart=>exact ⟨(([])),A_25,c_25,0,zbh_,zbh_,⟨HC_3.out⟩,⟨by have h1_:=HK_1.out;omega⟩,⟨((HO_1.out.front 0 rfl).front 1 rfl).tail⟩⟩
     case round =>
      rename World=>wr3
      clear HC_3
      (repeat clear HO_1)
      obtain ⟨l3_0,A3_0,c3_0,x3_27,rfl,rfl,HL_3,HK_3,HO_3⟩:=hrel
      cases gk with
      | zero=>exact absurd HL_3.out (by simp only [impl_InputsUsed.l1];exact fun h_=>by cases h_)
      | succ k3 =>
       have H:=HL_3.out;clear HL_3
       simp only [impl_InputsUsed.l1] at H
       by_cases c28_3:x3_27<4
       ·rw [if_pos c28_3] at H
        have c28_3b0:decide (x3_27<4)=true:=(by simpa using c28_3);clear c28_3
        go_upto_region 12 with (fail)
        by_cases c30_3_0:x3_27=0
        ·rw [if_pos c30_3_0] at H
         have c30_3_0b0:(x3_27 == 0)=true:=(by simpa using c30_3_0);have c30_3_0b1:(x3_27 != 0)=false:=(by simpa using c30_3_0);have c30_3_0b2:decide (x3_27=0)=true:=(by simpa using c30_3_0);(try rw [c30_3_0]);clear c30_3_0
         go_upto_if 31 with (fail)
         by_cases c30_3:(x1_g4_0)=true
         ·subst c30_3
          rw [if_pos rfl] at H
          go_upto_region 14 with (fail)
          by_cases c35_3z:l3_0.length+1≤17592186044416
          ·rw [if_pos c35_3z] at H
           have c35_3:=aM c35_3z;clear c35_3z
           go_wp2_with (first | ((with_reducible refine gate_dst (N:=35) rfl ?_);at_builtin;refine Sep.own_append (Kd.int .i64) HO_3.out 0 _ l3_0 3 rfl rfl (.tmp 32) (.tmp 34) 24 (.int .i64 0) 8 rfl Tryd.underlying24 info3 rfl (by decide) (by omega) 0 [.int .i64 0] rfl rfl rfl zje_ ?_;intro x_35 w_2 ho;obtain ⟨A_35,n_35,c_35,hn_,rfl⟩:=ho.row_seal 0 rfl;have HN_35:=aM hn_;clear hn_;have HO_2:=aM ho;clear ho))
           have hn_:=HN_35.out;subst hn_
           go_roundg k3
           case measure=>have h1_:=HK_1.out;have h3_:=HK_3.out;omega
           case rel=>exact ⟨((l3_0 ++ [0])),A_35,c_35,(wrap64 (0+1)),zbh_,zbh_,⟨H⟩,⟨zff_⟩,⟨HO_2.out⟩⟩
          ·rw [if_neg c35_3z] at H
           exact q3n_ H
         ·replace c30_3:=Bool.eq_false_iff.mpr c30_3
          subst c30_3;rw [if_neg (show ¬ (false=true) by decide)] at H
          go_wp2
          go_roundg k3
          case measure=>have h1_:=HK_1.out;have h3_:=HK_3.out;omega
          case rel=>exact ⟨l3_0,A3_0,c3_0,(wrap64 (0+1)),zbh_,zbh_,⟨H⟩,⟨zff_⟩,⟨HO_3.out⟩⟩
        ·rw [if_neg c30_3_0] at H
         have c30_3_0b0:(x3_27 == 0)=false:=(by simpa using c30_3_0);have c30_3_0b1:(x3_27 != 0)=true:=(by simpa using c30_3_0);have c30_3_0b2:decide (x3_27=0)=false:=(by simpa using c30_3_0);clear c30_3_0
         by_cases c30_3_1:x3_27=1
         ·rw [if_pos c30_3_1] at H
          have c30_3_1b0:(x3_27 == 1)=true:=(by simpa using c30_3_1);have c30_3_1b1:(x3_27 != 1)=false:=(by simpa using c30_3_1);have c30_3_1b2:decide (x3_27=1)=true:=(by simpa using c30_3_1);(try rw [c30_3_1]);clear c30_3_1
          go_upto_if 31 with (fail)
          by_cases c30_3:(x1_g4_1)=true
          ·subst c30_3
           rw [if_pos rfl] at H
           go_upto_region 14 with (fail)
           by_cases c35_3z:l3_0.length+1≤17592186044416
           ·rw [if_pos c35_3z] at H
            have c35_3:=aM c35_3z;clear c35_3z
            go_wp2_with (first | ((with_reducible refine gate_dst (N:=35) rfl ?_);at_builtin;refine Sep.own_append (Kd.int .i64) HO_3.out 0 _ l3_0 3 rfl rfl (.tmp 32) (.tmp 34) 24 (.int .i64 0) 8 rfl Tryd.underlying24 info3 rfl (by decide) (by omega) 1 [.int .i64 1] rfl rfl rfl zje_ ?_;intro x_35 w_2 ho;obtain ⟨A_35,n_35,c_35,hn_,rfl⟩:=ho.row_seal 0 rfl;have HN_35:=aM hn_;clear hn_;have HO_2:=aM ho;clear ho))
            have hn_:=HN_35.out;subst hn_
            go_roundg k3
            case measure=>have h1_:=HK_1.out;have h3_:=HK_3.out;omega
            case rel=>exact ⟨((l3_0 ++ [1])),A_35,c_35,(wrap64 (1+1)),zbh_,zbh_,⟨H⟩,⟨zff_⟩,⟨HO_2.out⟩⟩
           ·rw [if_neg c35_3z] at H
            exact q3n_ H
          ·replace c30_3:=Bool.eq_false_iff.mpr c30_3
           subst c30_3;rw [if_neg (show ¬ (false=true) by decide)] at H
           go_wp2
           go_roundg k3
           case measure=>have h1_:=HK_1.out;have h3_:=HK_3.out;omega
           case rel=>exact ⟨l3_0,A3_0,c3_0,(wrap64 (1+1)),zbh_,zbh_,⟨H⟩,⟨zff_⟩,⟨HO_3.out⟩⟩
         ·rw [if_neg c30_3_1] at H
          have c30_3_1b0:(x3_27 == 1)=false:=(by simpa using c30_3_1);have c30_3_1b1:(x3_27 != 1)=true:=(by simpa using c30_3_1);have c30_3_1b2:decide (x3_27=1)=false:=(by simpa using c30_3_1);clear c30_3_1
          by_cases c30_3_2:x3_27=2
          ·rw [if_pos c30_3_2] at H
           have c30_3_2b0:(x3_27 == 2)=true:=(by simpa using c30_3_2);have c30_3_2b1:(x3_27 != 2)=false:=(by simpa using c30_3_2);have c30_3_2b2:decide (x3_27=2)=true:=(by simpa using c30_3_2);(try rw [c30_3_2]);clear c30_3_2
           go_upto_if 31 with (fail)
           by_cases c30_3:(x1_g4_2)=true
           ·subst c30_3
            rw [if_pos rfl] at H
            go_upto_region 14 with (fail)
            by_cases c35_3z:l3_0.length+1≤17592186044416
            ·rw [if_pos c35_3z] at H
             have c35_3:=aM c35_3z;clear c35_3z
             go_wp2_with (first | ((with_reducible refine gate_dst (N:=35) rfl ?_);at_builtin;refine Sep.own_append (Kd.int .i64) HO_3.out 0 _ l3_0 3 rfl rfl (.tmp 32) (.tmp 34) 24 (.int .i64 0) 8 rfl Tryd.underlying24 info3 rfl (by decide) (by omega) 2 [.int .i64 2] rfl rfl rfl zje_ ?_;intro x_35 w_2 ho;obtain ⟨A_35,n_35,c_35,hn_,rfl⟩:=ho.row_seal 0 rfl;have HN_35:=aM hn_;clear hn_;have HO_2:=aM ho;clear ho))
             have hn_:=HN_35.out;subst hn_
             go_roundg k3
             case measure=>have h1_:=HK_1.out;have h3_:=HK_3.out;omega
             case rel=>exact ⟨((l3_0 ++ [2])),A_35,c_35,(wrap64 (2+1)),zbh_,zbh_,⟨H⟩,⟨zff_⟩,⟨HO_2.out⟩⟩
            ·rw [if_neg c35_3z] at H
             exact q3n_ H
           ·replace c30_3:=Bool.eq_false_iff.mpr c30_3
            subst c30_3;rw [if_neg (show ¬ (false=true) by decide)] at H
            go_wp2
            go_roundg k3
            case measure=>have h1_:=HK_1.out;have h3_:=HK_3.out;omega
            case rel=>exact ⟨l3_0,A3_0,c3_0,(wrap64 (2+1)),zbh_,zbh_,⟨H⟩,⟨zff_⟩,⟨HO_3.out⟩⟩
          ·rw [if_neg c30_3_2] at H
           have c30_3_2b0:(x3_27 == 2)=false:=(by simpa using c30_3_2);have c30_3_2b1:(x3_27 != 2)=true:=(by simpa using c30_3_2);have c30_3_2b2:decide (x3_27=2)=false:=(by simpa using c30_3_2);clear c30_3_2
           by_cases c30_3_3:x3_27=3
           ·rw [if_pos c30_3_3] at H
            have c30_3_3b0:(x3_27 == 3)=true:=(by simpa using c30_3_3);have c30_3_3b1:(x3_27 != 3)=false:=(by simpa using c30_3_3);have c30_3_3b2:decide (x3_27=3)=true:=(by simpa using c30_3_3);(try rw [c30_3_3]);clear c30_3_3
            go_upto_if 31 with (fail)
            by_cases c30_3:(x1_g4_3)=true
            ·subst c30_3
             rw [if_pos rfl] at H
             go_upto_region 14 with (fail)
             by_cases c35_3z:l3_0.length+1≤17592186044416
             ·rw [if_pos c35_3z] at H
              have c35_3:=aM c35_3z;clear c35_3z
              go_wp2_with (first | ((with_reducible refine gate_dst (N:=35) rfl ?_);at_builtin;refine Sep.own_append (Kd.int .i64) HO_3.out 0 _ l3_0 3 rfl rfl (.tmp 32) (.tmp 34) 24 (.int .i64 0) 8 rfl Tryd.underlying24 info3 rfl (by decide) (by omega) 3 [.int .i64 3] rfl rfl rfl zje_ ?_;intro x_35 w_2 ho;obtain ⟨A_35,n_35,c_35,hn_,rfl⟩:=ho.row_seal 0 rfl;have HN_35:=aM hn_;clear hn_;have HO_2:=aM ho;clear ho))
              have hn_:=HN_35.out;subst hn_
              go_roundg k3
              case measure=>have h1_:=HK_1.out;have h3_:=HK_3.out;omega
              case rel=>exact ⟨((l3_0 ++ [3])),A_35,c_35,(wrap64 (3+1)),zbh_,zbh_,⟨H⟩,⟨zff_⟩,⟨HO_2.out⟩⟩
             ·rw [if_neg c35_3z] at H
              exact q3n_ H
            ·replace c30_3:=Bool.eq_false_iff.mpr c30_3
             subst c30_3;rw [if_neg (show ¬ (false=true) by decide)] at H
             go_wp2
             go_roundg k3
             case measure=>have h1_:=HK_1.out;have h3_:=HK_3.out;omega
             case rel=>exact ⟨l3_0,A3_0,c3_0,(wrap64 (3+1)),zbh_,zbh_,⟨H⟩,⟨zff_⟩,⟨HO_3.out⟩⟩
           ·rw [if_neg c30_3_3] at H
            have c30_3_3b0:(x3_27 == 3)=false:=(by simpa using c30_3_3);have c30_3_3b1:(x3_27 != 3)=true:=(by simpa using c30_3_3);have c30_3_3b2:decide (x3_27=3)=false:=(by simpa using c30_3_3);clear c30_3_3;exact q3n_ H
       ·rw [if_neg c28_3] at H
        have c28_3b0:decide (x3_27<4)=false:=(by simpa using c28_3);clear c28_3
        injection H with H
        injection H with e_0 H
        subst e_0;subst H
        go_wp2
        (try simp only [Act.put,sI,s0,sS]);obtain ⟨f_,hf_⟩:=HO_3.out.2
        go_ret2
        exact ⟨_,rfl,Kd.R_mono (hf_ 0 _ rfl) (fun k_ hk_=>trivial),HO_3.out.base⟩
 ·replace c11_0_:=Bool.eq_false_iff.mpr c11_0_
  subst c11_0_;rw [if_neg (show ¬ (false=true) by decide)] at H
  injection H with H
  injection H with e_0 H
  subst e_0;subst H;have z_1:w_1.cell? ⟨g1,0,none⟩=some (.int .i64 a0_0):=(HO_1.out.cell 0 rfl 0 rfl);have z_2:w_1.cell? ⟨g1,1,none⟩=some (.slice A0_1 l0_1.length c0_1):=(HO_1.out.cell 0 rfl 1 rfl);have z_3:w_1.cell? ⟨g1,2,none⟩=some (.int .i64 a0_2):=(HO_1.out.cell 0 rfl 2 rfl)
  go_wp2_with (first | ((with_reducible refine gate_callee (f:=15) rfl ?_);refine goesL_ (some 11) rfl rfl Tryd.func15 (by kernel_rfl) rfl #[.agg #[.int .i64 a0_0,.slice A0_1 l0_1.length c0_1,.int .i64 a0_2]] rfl zbc_ ?_;(with_reducible refine (impl_IsDiagram.calls k a0_0 A0_1 c0_1 l0_1 a0_2 false _ (by exact (Kd.C_below HR0_1.out HO_1.out.base)) HC0_1.out A11.out).mono ?_);rintro e w_2 ⟨rfl,hb⟩;refine ⟨_,rfl,?_⟩;have ho:=HO_1.out.below hb;clear hb;have HO_2:=aM ho;clear ho))
  (try simp only [Act.put,sI,s0,sS])
  go_ret2
  exact ⟨_,rfl,Kd.R_nil _ _ _ _ _,HO_2.out.base⟩
end
mutual
def impl_DependsOn.l0:Nat→List Int→Int→Int→List Int→Option (List Int×Bool)
 | 0,_,_,_,_=>none
 | k+1,x4,x5,x259000,x259001=>if x5<x259000 then (impl_DependsOn.l1 k x4 x5 x259001 (x259001.length:Int) 0 x259000 x259001) else (some (x4,true))
def impl_DependsOn.l1:Nat→List Int→Int→List Int→Int→Int→Int→List Int→Option (List Int×Bool)
 | 0,_,_,_,_,_,_,_=>none
 | k+1,x4,x5,x19,x20,x21,x259000,x259001=>if x21<x20 then (if 0≤x21 then (if x21<(x19.length:Int) then (if 0≤x5 then (if 0≤(Go.bits .xor .i64 x21 (shl .i64 1 x5)) then (if (Go.bits .xor .i64 x21 (shl .i64 1 x5))<(x259001.length:Int) then (if (rd x19 x21)=(rd x259001 (Go.bits .xor .i64 x21 (shl .i64 1 x5))) then (impl_DependsOn.l1 k x4 x5 x19 x20 (wrap64 (x21+1)) x259000 x259001) else (if x4.length<17592186044416 then (impl_DependsOn.l0 k (x4 ++ [x5]) (wrap64 (x5+1)) x259000 x259001) else (none))) else (none)) else (none)) else (none)) else (none)) else (none)) else (impl_DependsOn.l0 k x4 (wrap64 (x5+1)) x259000 x259001)
end
def impl_DependsOn.f (k:Nat) (a0_0:Int) (l0_1:List Int):Option (List Int×Bool):=(impl_IsTable.f k a0_0 l0_1).bind fun t259=>(if t259=true then (impl_DependsOn.l0 k (([]:List Int)) 0 a0_0 l0_1) else (some (([]:List Int),false)))
theorem impl_DependsOn.calls (k:Nat) (a0_0:Int) (A0_1:Option Addr) (c0_1:Nat) (l0_1:List Int) (r1:List Int) (r2:Bool) (w:World) (hr0_1:Kd.C (Kd.int .i64) w A0_1 l0_1.length l0_1) (hc0_1:l0_1.length≤c0_1) (h:impl_DependsOn.f k a0_0 l0_1=some (r1,r2)) :
  Calls Tryd.prog 13 #[.agg #[.int .i64 a0_0,.slice A0_1 l0_1.length c0_1]] w fun e w' => ∃ v0_:Value,e = .returned (.tuple #[v0_,.bool r2])∧Kd.R (Kd.int .i64) 3 w' w.heap.size (fun _=>True) v0_ r1∧Below w.heap.size w w':=by
 have hu26:=Tryd.underlying26
 have HR0_1:=aM hr0_1
 have HC0_1:=aM hc0_1
 clear hr0_1 hc0_1
 have HB:=aM (Below.refl w.heap.size w)
 have H:((impl_IsTable.f k a0_0 l0_1).bind fun t259=>(if t259=true then (impl_DependsOn.l0 k (([]:List Int)) 0 a0_0 l0_1) else (some (([]:List Int),false))))=some (r1,r2):=h
 clear h
 replace H:=oB.mp H
 obtain ⟨t259,A20,H⟩:=H
 replace H:(if t259=true then (impl_DependsOn.l0 k (([]:List Int)) 0 a0_0 l0_1) else (some (([]:List Int),false)))=some (r1,r2):=H
 have A2:=aM A20
 clear A20
 by_cases c3:t259=true
 ·subst c3
  have H1:(impl_DependsOn.l0 k (([]:List Int)) 0 a0_0 l0_1)=some (r1,r2):=by rw [if_pos rfl] at H;exact H
  clear H;have H:=H1;clear H1;obtain ⟨y260,hy260⟩:∃ y_:List Int,y_=(([]:List Int)):=⟨_,rfl⟩;replace H:(impl_DependsOn.l0 k y260 0 a0_0 l0_1)=some (r1,r2):=q3y_ hy260 H
  have Ny260:=aM hy260;clear hy260;have H':=aM H;clear H
  go_enter Tryd.func13,Tryd.ntmps13
  go_wp2_with (first | ((with_reducible refine gate_dst (N:=1) rfl ?_);refine box_event ?hg (N:=1) ?hd (cs:=#[.int .i64 a0_0,.slice A0_1 l0_1.length c0_1]) (t:=26) ?hr ?_;(case hd=>rfl);(case hg=>rfl);(case hr=>exact zb_);intro gb258 hg w4 hbox hb;have n_:=z (below_step za_ hb)<|z (hbox)<|z ((by rw [hg];exact (below_size za_):w.heap.size≤gb258))<|z1 ((by rw [hg];exact (below_size za_):w.heap.size≤gb258));clear HB;obtain ⟨HB,BK258,GW258,GE258⟩:=n_;clear hb hbox hg;obtain ⟨hcz5_0,hcz5_1,hfz5_0,hfz5_1⟩:=zk2 BK258.out)|(go_at_call 10;(with_reducible refine (impl_IsTable.calls k a0_0 _ _ l0_1 true _ ?side1 ?side2 A2.out).mono ?_);(case side1=>exact zg_);(case side2=>exact HC0_1.out);rintro e w6 ⟨rfl,hb⟩;have n_:=z (blk_below (zb BK258.out) hb)<|z1 (below_step zce_ hb);clear BK258 HB;obtain ⟨BK258,HB⟩:=n_;clear hb)|((with_reducible refine gate_dst (N:=11) rfl ?_);refine Kd.R_lit (Kd.int .i64) _ 3 ?hg (N:=11) ?hd (xs:=([]:List Int)) (inner:=[]) (ok:=fun _=>True) (okp:=fun _=>True) ?hr ?hp (fun _ hk=>hk) trivial (Below.refl _ _) (Nat.le_refl _) (by simp) ?_;(case hd=>rfl);(case hg=>rfl);(case hr=>exact zb_);(case hp=>exact (Reps.none _ _));intro v261 w7 ho8 hb hg_ hnew_;clear hg_ hnew_;(first | rw [← Ny260.out] at ho8 | (simp only [Int.reduceToNat] at ho8;rw [← Ny260.out] at ho8));have n_:=z (Kd.R_lower ho8 (below_size zce_))<|z (blk_below (zb BK258.out) hb)<|z1 (below_step zce_ hb);clear BK258 HB;obtain ⟨HO262,BK258,HB⟩:=n_;clear hb ho8))
  repeat (go_quiet (first | ((with_reducible refine gate_dst (N:=1) rfl ?_);refine box_event ?hg (N:=1) ?hd (cs:=#[.int .i64 a0_0,.slice A0_1 l0_1.length c0_1]) (t:=26) ?hr ?_;(case hd=>rfl);(case hg=>rfl);(case hr=>exact zb_);intro gb258 hg w4 hbox hb;have n_:=z (below_step za_ hb)<|z (hbox)<|z ((by rw [hg];exact (below_size za_):w.heap.size≤gb258))<|z1 ((by rw [hg];exact (below_size za_):w.heap.size≤gb258));clear HB;obtain ⟨HB,BK258,GW258,GE258⟩:=n_;clear hb hbox hg;obtain ⟨hcz5_0,hcz5_1,hfz5_0,hfz5_1⟩:=zk2 BK258.out)|(go_at_call 10;(with_reducible refine (impl_IsTable.calls k a0_0 _ _ l0_1 true _ ?side1 ?side2 A2.out).mono ?_);(case side1=>exact zg_);(case side2=>exact HC0_1.out);rintro e w6 ⟨rfl,hb⟩;have n_:=z (blk_below (zb BK258.out) hb)<|z1 (below_step zce_ hb);clear BK258 HB;obtain ⟨BK258,HB⟩:=n_;clear hb)|((with_reducible refine gate_dst (N:=11) rfl ?_);refine Kd.R_lit (Kd.int .i64) _ 3 ?hg (N:=11) ?hd (xs:=([]:List Int)) (inner:=[]) (ok:=fun _=>True) (okp:=fun _=>True) ?hr ?hp (fun _ hk=>hk) trivial (Below.refl _ _) (Nat.le_refl _) (by simp) ?_;(case hd=>rfl);(case hg=>rfl);(case hr=>exact zb_);(case hp=>exact (Reps.none _ _));intro v261 w7 ho8 hb hg_ hnew_;clear hg_ hnew_;(first | rw [← Ny260.out] at ho8 | (simp only [Int.reduceToNat] at ho8;rw [← Ny260.out] at ho8));have n_:=z (Kd.R_lower ho8 (below_size zce_))<|z (blk_below (zb BK258.out) hb)<|z1 (below_step zce_ hb);clear BK258 HB;obtain ⟨HO262,BK258,HB⟩:=n_;clear hb ho8));try go_wp2_with (first | ((with_reducible refine gate_dst (N:=1) rfl ?_);refine box_event ?hg (N:=1) ?hd (cs:=#[.int .i64 a0_0,.slice A0_1 l0_1.length c0_1]) (t:=26) ?hr ?_;(case hd=>rfl);(case hg=>rfl);(case hr=>exact zb_);intro gb258 hg w4 hbox hb;have n_:=z (below_step za_ hb)<|z (hbox)<|z ((by rw [hg];exact (below_size za_):w.heap.size≤gb258))<|z1 ((by rw [hg];exact (below_size za_):w.heap.size≤gb258));clear HB;obtain ⟨HB,BK258,GW258,GE258⟩:=n_;clear hb hbox hg;obtain ⟨hcz5_0,hcz5_1,hfz5_0,hfz5_1⟩:=zk2 BK258.out)|(go_at_call 10;(with_reducible refine (impl_IsTable.calls k a0_0 _ _ l0_1 true _ ?side1 ?side2 A2.out).mono ?_);(case side1=>exact zg_);(case side2=>exact HC0_1.out);rintro e w6 ⟨rfl,hb⟩;have n_:=z (blk_below (zb BK258.out) hb)<|z1 (below_step zce_ hb);clear BK258 HB;obtain ⟨BK258,HB⟩:=n_;clear hb)|((with_reducible refine gate_dst (N:=11) rfl ?_);refine Kd.R_lit (Kd.int .i64) _ 3 ?hg (N:=11) ?hd (xs:=([]:List Int)) (inner:=[]) (ok:=fun _=>True) (okp:=fun _=>True) ?hr ?hp (fun _ hk=>hk) trivial (Below.refl _ _) (Nat.le_refl _) (by simp) ?_;(case hd=>rfl);(case hg=>rfl);(case hr=>exact zb_);(case hp=>exact (Reps.none _ _));intro v261 w7 ho8 hb hg_ hnew_;clear hg_ hnew_;(first | rw [← Ny260.out] at ho8 | (simp only [Int.reduceToNat] at ho8;rw [← Ny260.out] at ho8));have n_:=z (Kd.R_lower ho8 (below_size zce_))<|z (blk_below (zb BK258.out) hb)<|z1 (below_step zce_ hb);clear BK258 HB;obtain ⟨HO262,BK258,HB⟩:=n_;clear hb ho8)))
  go_loopg [4,5] k (fun kq v4 v5 w' => ∃ (x4_1:List Int) (x5_1:Int),v5 = .int .i64 x5_1∧Aside0 (impl_DependsOn.l0 kq x4_1 x5_1 a0_0 l0_1=some (r1,r2))∧Aside0 (kq≤k)∧Aside0 (Kd.R (Kd.int .i64) 3 w' w.heap.size (fun _=>True) v4 x4_1)∧Aside0 (w'.heap[gb258]?=some (.cells #[.int .i64 a0_0,(.slice A0_1 l0_1.length c0_1)] 26 (0,0)))∧Aside0 (Below w.heap.size w w'))
  case atStart=>exact ⟨(y260),(0),ze_,H',⟨Nat.le_refl _⟩,⟨zr HO262.out⟩,⟨zb BK258.out⟩,⟨zce_⟩⟩
  case round =>
   clear H';(try clear hcz5_0);(try clear hcz5_1);(try clear hfz5_0);(try clear hfz5_1);obtain ⟨x4_1,x5_1,rfl,HA,HK1,HO_4,BK258,HB⟩:=hrel
   cases gk with
   | zero=>exact absurd HA.out (by simp [impl_DependsOn.l0])
   | succ k1 =>
    have H:=HA.out;clear HA
    simp only [impl_DependsOn.l0] at H
    by_cases c9:x5_1<a0_0
    ·rw [if_pos c9] at H
     have c9b0:=decide_eq_true c9;clear c9;have H':=aM H;clear H;obtain ⟨hcz10_0,hcz10_1,hfz10_0,hfz10_1⟩:=zk2 BK258.out
     go_wp2
     repeat (go_quiet (fail);try go_wp2)
     go_loopg [4,21] k1 (fun kq v4 v21 w' => ∃ (x4_2:List Int) (x21_2:Int),v21 = .int .i64 x21_2∧Aside0 (impl_DependsOn.l1 kq x4_2 x5_1 l0_1 (l0_1.length:Int) x21_2 a0_0 l0_1=some (r1,r2))∧Aside0 (kq≤k1)∧Aside0 (Kd.R (Kd.int .i64) 3 w' w.heap.size (fun _=>True) v4 x4_2)∧Aside0 (w'.heap[gb258]?=some (.cells #[.int .i64 a0_0,(.slice A0_1 l0_1.length c0_1)] 26 (0,0)))∧Aside0 (Below w.heap.size w w'))
     case atStart=>exact ⟨(x4_1),(0),ze_,H',⟨Nat.le_refl _⟩,⟨zr HO_4.out⟩,⟨zb BK258.out⟩,⟨zce_⟩⟩
     case round =>
      clear H';(try clear c9b0);(try clear hcz10_0);(try clear hcz10_1);(try clear hfz10_0);(try clear hfz10_1);obtain ⟨x4_2,x21_2,rfl,HA,HK2,HO_4,BK258,HB⟩:=hrel
      cases gk with
      | zero=>exact absurd HA.out (by simp [impl_DependsOn.l1])
      | succ k2 =>
       have H:=HA.out;clear HA
       simp only [impl_DependsOn.l1] at H
       by_cases c11:x21_2<(l0_1.length:Int)
       ·rw [if_pos c11] at H
        have c11b0:=decide_eq_true c11;clear c11
        by_cases c12:0≤x21_2
        ·rw [if_pos c12] at H
         have c12b0:=decide_eq_true c12;clear c12
         by_cases c13:x21_2<(l0_1.length:Int)
         ·rw [if_pos c13] at H
          have c13b0:=decide_eq_true c13;clear c13
          by_cases c14:0≤x5_1
          ·rw [if_pos c14] at H
           have c14b0:=eq_true c14;have c14b1:=decide_eq_true c14;clear c14;obtain ⟨ji15,hji15⟩:∃ j_:Int,(shl .i64 1 x5_1)=j_:=⟨_,rfl⟩;replace H:(if 0≤(Go.bits .xor .i64 x21_2 (ji15)) then (if (Go.bits .xor .i64 x21_2 (ji15))<(l0_1.length:Int) then (if (rd l0_1 x21_2)=(rd l0_1 (Go.bits .xor .i64 x21_2 (ji15))) then (impl_DependsOn.l1 k2 x4_2 x5_1 l0_1 (l0_1.length:Int) (wrap64 (x21_2+1)) a0_0 l0_1) else (if x4_2.length<17592186044416 then (impl_DependsOn.l0 k2 (x4_2 ++ [x5_1]) (wrap64 (x5_1+1)) a0_0 l0_1) else (none))) else (none)) else (none))=some (r1,r2):=by first | (rw [hji15] at H;exact H)|(simp only [hji15] at H ⊢;exact H)
           have hji15_:(IntKind.i64.wrap (1 * 2 ^ min x5_1.toNat 64))=ji15:=hji15;have hji15z:x5_1≤64→(IntKind.i64.wrap (1 * 2 ^ x5_1.toNat))=ji15:=shl_small hji15;have hji15u:(IntKind.i64.wrap (2 ^ min x5_1.toNat 64))=ji15:=by have h_:=hji15_;rw [Int.one_mul] at h_;exact h_
           have hji15v:x5_1≤64→(IntKind.i64.wrap (2 ^ x5_1.toNat))=ji15:=fun hle_=>by have h_:=hji15z hle_;rw [Int.one_mul] at h_;exact h_
           have hji15y:(wrap64 (1 * 2 ^ min x5_1.toNat 64))=ji15:=(i64_w _).symm.trans hji15_;have hji15x:x5_1≤64→(wrap64 (1 * 2 ^ x5_1.toNat))=ji15:=fun h_=>(i64_w _).symm.trans (hji15z h_)
           by_cases c16:0≤(Go.bits .xor .i64 x21_2 (ji15))
           ·rw [if_pos c16] at H
            have c16b0:=decide_eq_true c16;clear c16
            by_cases c17:(Go.bits .xor .i64 x21_2 (ji15))<(l0_1.length:Int)
            ·rw [if_pos c17] at H
             have c17b0:=decide_eq_true c17;clear c17
             by_cases c18:(rd l0_1 x21_2)=(rd l0_1 (Go.bits .xor .i64 x21_2 (ji15)))
             ·rw [if_pos c18] at H
              have c18b0:=beq_iff_eq.mpr c18;have c18b1:=bne_eq_false_iff_eq.mpr c18;clear c18;have H':=aM H;clear H;have p263:0≤(x21_2:Int):=of_decide_eq_true zc_;have q263:x21_2<(l0_1.length:Int):=of_decide_eq_true zc_;obtain ⟨ad263,e263,hx263_0⟩:=Kd.at_int HR0_1.out x21_2 p263 q263
              cases e263
              (try (replace hx263_0:=q3h_ HB.out hx263_0));replace p263:=eq_true p263;replace q263:=eq_true q263;obtain ⟨hcz19_0,hcz19_1,hfz19_0,hfz19_1⟩:=zk2 BK258.out;have p264:0≤((Go.bits .xor .i64 x21_2 (ji15)):Int):=of_decide_eq_true zc_;have q264:(Go.bits .xor .i64 x21_2 (ji15))<(l0_1.length:Int):=of_decide_eq_true zc_;obtain ⟨ad264,e264,hx264_0⟩:=Kd.at_int HR0_1.out (Go.bits .xor .i64 x21_2 (ji15)) p264 q264;obtain rfl:ad263=ad264:=(by injection e264);(try (replace hx264_0:=q3h_ HB.out hx264_0));replace p264:=eq_true p264;replace q264:=eq_true q264
              go_wp2
              repeat (go_quiet (fail);try go_wp2)
              go_roundg k2
              case measure=>have:=HK1.out;have:=HK2.out;omega
              case rel=>exact ⟨(x4_2),(wrap64 (x21_2+1)),ze_,H',⟨zfb_⟩,⟨zr HO_4.out⟩,⟨zb BK258.out⟩,⟨zce_⟩⟩
             ·rw [if_neg c18] at H
              have c18b0:=beq_eq_false_iff_ne.mpr c18;have c18b1:=bne_iff_ne.mpr c18
              by_cases c20:x4_2.length<17592186044416
              ·rw [if_pos c20] at H
               have LMc20:=aM c20;clear c20;obtain ⟨y265,hy265⟩:∃ y_:List Int,y_=(x4_2 ++ [x5_1]):=⟨_,rfl⟩;replace H:(impl_DependsOn.l0 k2 y265 (wrap64 (x5_1+1)) a0_0 l0_1)=some (r1,r2):=q3y_ hy265 H
               have Ny265:=aM hy265;clear hy265;have H':=aM H;clear H;have p263:0≤(x21_2:Int):=of_decide_eq_true zc_;have q263:x21_2<(l0_1.length:Int):=of_decide_eq_true zc_;obtain ⟨ad263,e263,hx263_0⟩:=Kd.at_int HR0_1.out x21_2 p263 q263
               cases e263
               (try (replace hx263_0:=q3h_ HB.out hx263_0));replace p263:=eq_true p263;replace q263:=eq_true q263;obtain ⟨hcz21_0,hcz21_1,hfz21_0,hfz21_1⟩:=zk2 BK258.out;have p264:0≤((Go.bits .xor .i64 x21_2 (ji15)):Int):=of_decide_eq_true zc_;have q264:(Go.bits .xor .i64 x21_2 (ji15))<(l0_1.length:Int):=of_decide_eq_true zc_;obtain ⟨ad264,e264,hx264_0⟩:=Kd.at_int HR0_1.out (Go.bits .xor .i64 x21_2 (ji15)) p264 q264;obtain rfl:ad263=ad264:=(by injection e264);(try (replace hx264_0:=q3h_ HB.out hx264_0));replace p264:=eq_true p264;replace q264:=eq_true q264
               go_wp2_with (first | ((with_reducible refine gate_builtin (b := .append) (xs:=#[.tmp 36,.tmp 38]) rfl ?_);at_builtin;refine Kd.R_append (Kd.int .i64) (w0:=w) w.heap.size rfl (.tmp 36) (.tmp 38) 24 3 (.int .i64 0) 8 rfl Tryd.underlying24 info3 rfl (by decide) (by omega) u4 x4_2 x5_1 [.int .i64 x5_1] (fun _=>True) (fun _=>False) rfl rfl ?aP (fun _ hk=>hk.elim) ?aF ?aO ?aB ?aS ?aL ?_;(case aP=>exact rfl);(case aB=>exact zbbc_);(case aF=>exact zdf_);(case aO=>exact (zr HO_4.out));(case aS=>exact zbbd_);(case aL=>have:=LMc20.out;omega);intro v266 w22 ho hb hg hat;rw [← Ny265.out] at ho;have n_:=z (blk_grown (g:=gb258) (o := .cells #[.int .i64 a0_0,.slice (some ad263) l0_1.length c0_1] 26 (0,0)) (zb BK258.out) hg (Kd.R_ne HO_4.out BK258.out (by decide)))<|z (hb)<|z1 (ho);clear BK258 HB HO_4;obtain ⟨BK258,HB,HO267⟩:=n_;clear ho hb hg hat))
               repeat (go_quiet (first | ((with_reducible refine gate_builtin (b := .append) (xs:=#[.tmp 36,.tmp 38]) rfl ?_);at_builtin;refine Kd.R_append (Kd.int .i64) (w0:=w) w.heap.size rfl (.tmp 36) (.tmp 38) 24 3 (.int .i64 0) 8 rfl Tryd.underlying24 info3 rfl (by decide) (by omega) u4 x4_2 x5_1 [.int .i64 x5_1] (fun _=>True) (fun _=>False) rfl rfl ?aP (fun _ hk=>hk.elim) ?aF ?aO ?aB ?aS ?aL ?_;(case aP=>exact rfl);(case aB=>exact zbbc_);(case aF=>exact zdf_);(case aO=>exact (zr HO_4.out));(case aS=>exact zbbd_);(case aL=>have:=LMc20.out;omega);intro v266 w22 ho hb hg hat;rw [← Ny265.out] at ho;have n_:=z (blk_grown (g:=gb258) (o := .cells #[.int .i64 a0_0,.slice (some ad263) l0_1.length c0_1] 26 (0,0)) (zb BK258.out) hg (Kd.R_ne HO_4.out BK258.out (by decide)))<|z (hb)<|z1 (ho);clear BK258 HB HO_4;obtain ⟨BK258,HB,HO267⟩:=n_;clear ho hb hg hat));try go_wp2_with (first | ((with_reducible refine gate_builtin (b := .append) (xs:=#[.tmp 36,.tmp 38]) rfl ?_);at_builtin;refine Kd.R_append (Kd.int .i64) (w0:=w) w.heap.size rfl (.tmp 36) (.tmp 38) 24 3 (.int .i64 0) 8 rfl Tryd.underlying24 info3 rfl (by decide) (by omega) u4 x4_2 x5_1 [.int .i64 x5_1] (fun _=>True) (fun _=>False) rfl rfl ?aP (fun _ hk=>hk.elim) ?aF ?aO ?aB ?aS ?aL ?_;(case aP=>exact rfl);(case aB=>exact zbbc_);(case aF=>exact zdf_);(case aO=>exact (zr HO_4.out));(case aS=>exact zbbd_);(case aL=>have:=LMc20.out;omega);intro v266 w22 ho hb hg hat;rw [← Ny265.out] at ho;have n_:=z (blk_grown (g:=gb258) (o := .cells #[.int .i64 a0_0,.slice (some ad263) l0_1.length c0_1] 26 (0,0)) (zb BK258.out) hg (Kd.R_ne HO_4.out BK258.out (by decide)))<|z (hb)<|z1 (ho);clear BK258 HB HO_4;obtain ⟨BK258,HB,HO267⟩:=n_;clear ho hb hg hat)))
               go_roundg k2
               case measure=>have:=HK1.out;have:=HK2.out;omega
               case rel=>exact ⟨(y265),(wrap64 (x5_1+1)),ze_,H',⟨zfb_⟩,⟨zr HO267.out⟩,⟨zb BK258.out⟩,⟨zce_⟩⟩
              ·rw [if_neg c20] at H
               exact q3n_ H
            ·rw [if_neg c17] at H
             exact q3n_ H
           ·rw [if_neg c16] at H
            exact q3n_ H
          ·rw [if_neg c14] at H
           exact q3n_ H
         ·rw [if_neg c13] at H
          exact q3n_ H
        ·rw [if_neg c12] at H
         exact q3n_ H
       ·rw [if_neg c11] at H
        have c11b0:=decide_eq_false c11;clear c11;have H':=aM H;clear H
        go_wp2
        repeat (go_quiet (fail);try go_wp2)
        go_roundg k2
        case measure=>have:=HK1.out;have:=HK2.out;omega
        case rel=>exact ⟨(x4_2),(wrap64 (x5_1+1)),ze_,H',⟨zfb_⟩,⟨zr HO_4.out⟩,⟨zb BK258.out⟩,⟨zce_⟩⟩
    ·rw [if_neg c9] at H
     have c9b0:=decide_eq_false c9;clear c9
     simp only [Option.some.injEq,Prod.mk.injEq] at H
     obtain ⟨rfl,rfl⟩:=H;obtain ⟨hcz23_0,hcz23_1,hfz23_0,hfz23_1⟩:=zk2 BK258.out
     go_wp2
     repeat (go_quiet (fail);try go_wp2)
     go_ret2
     exact ⟨_,zf_,by refine zr ?_;exact HO_4.out,zce_⟩
 ·replace c3:=Bool.eq_false_iff.mpr c3
  subst c3;have H1:(some (([]:List Int),false))=some (r1,r2):=by rw [if_neg (show ¬ (false=true) by decide)] at H;exact H
  clear H;have H:=H1;clear H1
  simp only [Option.some.injEq,Prod.mk.injEq] at H
  obtain ⟨rfl,rfl⟩:=H
  go_enter Tryd.func13,Tryd.ntmps13
  go_wp2_with (first | ((with_reducible refine gate_dst (N:=1) rfl ?_);refine box_event ?hg (N:=1) ?hd (cs:=#[.int .i64 a0_0,.slice A0_1 l0_1.length c0_1]) (t:=26) ?hr ?_;(case hd=>rfl);(case hg=>rfl);(case hr=>exact zb_);intro gb258 hg w24 hbox hb;have n_:=z (below_step za_ hb)<|z (hbox)<|z ((by rw [hg];exact (below_size za_):w.heap.size≤gb258))<|z1 ((by rw [hg];exact (below_size za_):w.heap.size≤gb258));clear HB;obtain ⟨HB,BK258,GW258,GE258⟩:=n_;clear hb hbox hg;obtain ⟨hcz25_0,hcz25_1,hfz25_0,hfz25_1⟩:=zk2 BK258.out)|(go_at_call 10;(with_reducible refine (impl_IsTable.calls k a0_0 _ _ l0_1 false _ ?side1 ?side2 A2.out).mono ?_);(case side1=>exact zg_);(case side2=>exact HC0_1.out);rintro e w26 ⟨rfl,hb⟩;have n_:=z (blk_below (zb BK258.out) hb)<|z1 (below_step zce_ hb);clear BK258 HB;obtain ⟨BK258,HB⟩:=n_;clear hb))
  repeat (go_quiet (first | ((with_reducible refine gate_dst (N:=1) rfl ?_);refine box_event ?hg (N:=1) ?hd (cs:=#[.int .i64 a0_0,.slice A0_1 l0_1.length c0_1]) (t:=26) ?hr ?_;(case hd=>rfl);(case hg=>rfl);(case hr=>exact zb_);intro gb258 hg w24 hbox hb;have n_:=z (below_step za_ hb)<|z (hbox)<|z ((by rw [hg];exact (below_size za_):w.heap.size≤gb258))<|z1 ((by rw [hg];exact (below_size za_):w.heap.size≤gb258));clear HB;obtain ⟨HB,BK258,GW258,GE258⟩:=n_;clear hb hbox hg;obtain ⟨hcz25_0,hcz25_1,hfz25_0,hfz25_1⟩:=zk2 BK258.out)|(go_at_call 10;(with_reducible refine (impl_IsTable.calls k a0_0 _ _ l0_1 false _ ?side1 ?side2 A2.out).mono ?_);(case side1=>exact zg_);(case side2=>exact HC0_1.out);rintro e w26 ⟨rfl,hb⟩;have n_:=z (blk_below (zb BK258.out) hb)<|z1 (below_step zce_ hb);clear BK258 HB;obtain ⟨BK258,HB⟩:=n_;clear hb));try go_wp2_with (first | ((with_reducible refine gate_dst (N:=1) rfl ?_);refine box_event ?hg (N:=1) ?hd (cs:=#[.int .i64 a0_0,.slice A0_1 l0_1.length c0_1]) (t:=26) ?hr ?_;(case hd=>rfl);(case hg=>rfl);(case hr=>exact zb_);intro gb258 hg w24 hbox hb;have n_:=z (below_step za_ hb)<|z (hbox)<|z ((by rw [hg];exact (below_size za_):w.heap.size≤gb258))<|z1 ((by rw [hg];exact (below_size za_):w.heap.size≤gb258));clear HB;obtain ⟨HB,BK258,GW258,GE258⟩:=n_;clear hb hbox hg;obtain ⟨hcz25_0,hcz25_1,hfz25_0,hfz25_1⟩:=zk2 BK258.out)|(go_at_call 10;(with_reducible refine (impl_IsTable.calls k a0_0 _ _ l0_1 false _ ?side1 ?side2 A2.out).mono ?_);(case side1=>exact zg_);(case side2=>exact HC0_1.out);rintro e w26 ⟨rfl,hb⟩;have n_:=z (blk_below (zb BK258.out) hb)<|z1 (below_step zce_ hb);clear BK258 HB;obtain ⟨BK258,HB⟩:=n_;clear hb)))
  go_ret2
  exact ⟨_,zf_,zdi_,zce_⟩
end Go.Proofs.YtlnhpkjioppbiaaDoor.QFnDiagrams
