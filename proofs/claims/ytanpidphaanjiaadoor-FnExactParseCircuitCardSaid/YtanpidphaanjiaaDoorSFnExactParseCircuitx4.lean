/- Functions of FnExactParseCircuit, each as a Lean function, with the proof that the Go code comes to its answers. -/
import Derived.Test.YtanpidphaanjiaaDoorSFnExactParseCircuitx2
namespace Go.Proofs.YtanpidphaanjiaaDoor.QFnExactParseCircuit
open Go.RowKit Go.Proofs.YtanpidphaanjiaaDoorW.PrintWords Go.Proofs.YtanpidphaanjiaaDoorW.PrintLast Go.Proofs.YtanpidphaanjiaaDoorW.PrintMore
open Go.Proofs.YtanpidphaanjiaaDoorW.PrintWords renaming pw_below_drewN→pN,below_drew1→p1,below_alloc→pA
open Go.Proofs.YtanpidphaanjiaaDoorW.PrintWords.Kd renaming R_alloc→kA,R_drewN→kN,R_drew→kD,Q_alloc→qA,Q_drewN→qN,Q_drew→qD,C_alloc→cA,C_drewN→cN,C_drew→cD
open Go.Proofs.YtanpidphaanjiaaDoorW.PrintWords.Aside0 renaming mk→aM
open List renaming setIfInBounds_toArray→sI,set_cons_zero→s0,set_cons_succ→sS,map_toArray→mT,length_take→lT,length_drop→lD,map_cons→mC,map_nil→mN
open Option renaming bind_eq_some_iff→oB,bind_some→oS
attribute [local go_sem] max2_int min2_int max_two min_two max_three min_three max_four min_four
set_option maxHeartbeats 8000000
set_option maxRecDepth 100000
set_option linter.unusedVariables false
set_option linter.unusedSimpArgs false
mutual
def spec_ciText.l0:Nat→ByteArray→List (S47)→Int→Int→Int→List (S47)→List Int→Option (ByteArray)
 | 0,_,_,_,_,_,_,_=>none
 | k+1,x3,x13,x14,x15,x132000,x132001,x132002=>if x15<x14 then (if 0≤x15 then (if x15<(x13.length:Int) then ((some (([(⟨#[97,110,100]⟩:ByteArray),(⟨#[111,114]⟩:ByteArray),(⟨#[120,111,114]⟩:ByteArray),(⟨#[110,111,116]⟩:ByteArray)]:List ByteArray):List ByteArray)).bind fun y135=>(if 0≤(wrap64 (((rd_T47 x13 x15).f0) - 1)) then (if (wrap64 (((rd_T47 x13 x15).f0) - 1))<(y135.length:Int) then (if (rdOf ByteArray.empty y135 (wrap64 (((rd_T47 x13 x15).f0) - 1))).size+1≤9223372036854775807 then ((spec_l1Num.f k ((rd_T47 x13 x15).f1)).bind fun t139=>(if ((rdOf ByteArray.empty y135 (wrap64 (((rd_T47 x13 x15).f0) - 1)))++(⟨#[32]⟩:ByteArray)).size+t139.size≤9223372036854775807 then (if x3.size+(((rdOf ByteArray.empty y135 (wrap64 (((rd_T47 x13 x15).f0) - 1)))++(⟨#[32]⟩:ByteArray))++t139).size≤9223372036854775807 then (if ((rd_T47 x13 x15).f0)=4 then (if (x3++(((rdOf ByteArray.empty y135 (wrap64 (((rd_T47 x13 x15).f0) - 1)))++(⟨#[32]⟩:ByteArray))++t139)).size+1≤9223372036854775807 then (spec_ciText.l0 k ((x3++(((rdOf ByteArray.empty y135 (wrap64 (((rd_T47 x13 x15).f0) - 1)))++(⟨#[32]⟩:ByteArray))++t139))++(⟨#[10]⟩:ByteArray)) x13 x14 (wrap64 (x15+1)) x132000 x132001 x132002) else (none)) else ((spec_l1Num.f k ((rd_T47 x13 x15).f2)).bind fun t140=>(if 1+t140.size≤9223372036854775807 then (if (x3++(((rdOf ByteArray.empty y135 (wrap64 (((rd_T47 x13 x15).f0) - 1)))++(⟨#[32]⟩:ByteArray))++t139)).size+((⟨#[32]⟩:ByteArray)++t140).size≤9223372036854775807 then (if ((x3++(((rdOf ByteArray.empty y135 (wrap64 (((rd_T47 x13 x15).f0) - 1)))++(⟨#[32]⟩:ByteArray))++t139))++((⟨#[32]⟩:ByteArray)++t140)).size+1≤9223372036854775807 then (spec_ciText.l0 k (((x3++(((rdOf ByteArray.empty y135 (wrap64 (((rd_T47 x13 x15).f0) - 1)))++(⟨#[32]⟩:ByteArray))++t139))++((⟨#[32]⟩:ByteArray)++t140))++(⟨#[10]⟩:ByteArray)) x13 x14 (wrap64 (x15+1)) x132000 x132001 x132002) else (none)) else (none)) else (none)))) else (none)) else (none))) else (none)) else (none)) else (none))) else (none)) else (none)) else (if x3.size+3≤9223372036854775807 then (spec_ciText.l1 k (x3++(⟨#[111,117,116]⟩:ByteArray)) x132002 (x132002.length:Int) 0) else (none))
def spec_ciText.l1:Nat→ByteArray→List Int→Int→Int→Option (ByteArray)
 | 0,_,_,_,_=>none
 | k+1,x3,x47,x48,x49=>if x49<x48 then (if 0≤x49 then (if x49<(x47.length:Int) then ((spec_l1Num.f k (rd x47 x49)).bind fun t142=>(if 1+t142.size≤9223372036854775807 then (if x3.size+((⟨#[32]⟩:ByteArray)++t142).size≤9223372036854775807 then (spec_ciText.l1 k (x3++((⟨#[32]⟩:ByteArray)++t142)) x47 x48 (wrap64 (x49+1))) else (none)) else (none))) else (none)) else (none)) else (if x3.size+1≤9223372036854775807 then (some (x3++(⟨#[10]⟩:ByteArray))) else (none))
end
def spec_ciText.f (k:Nat) (a0_0:Int) (l0_1:List (S47)) (l0_2:List Int):Option (ByteArray):=(spec_l1Num.f k a0_0).bind fun t132=>(if t132.size+1≤9223372036854775807 then (spec_ciText.l0 k (t132++(⟨#[10]⟩:ByteArray)) l0_1 (l0_1.length:Int) 0 a0_0 l0_1 l0_2) else (none))
theorem spec_ciText.mono_l:∀ k,(∀ y0 y1 y2 y3 y4 y5 y6,LeO (spec_ciText.l0 k y0 y1 y2 y3 y4 y5 y6) (spec_ciText.l0 (k+1) y0 y1 y2 y3 y4 y5 y6))∧(∀ y0 y1 y2 y3,LeO (spec_ciText.l1 k y0 y1 y2 y3) (spec_ciText.l1 (k+1) y0 y1 y2 y3))
 | 0=>⟨fun _ _ _ _ _ _ _ r h=>by simp [spec_ciText.l0] at h,fun _ _ _ _ r h=>by simp [spec_ciText.l1] at h⟩
 | k+1=>by
  obtain ⟨ih0,ih1⟩:=spec_ciText.mono_l k
  refine ⟨?_,?_⟩
  ·intro y0 y1 y2 y3 y4 y5 y6
   unfold spec_ciText.l0
   repeat' first
   | (with_reducible exact ih0 _ _ _ _ _ _ _)
   | (with_reducible exact ih1 _ _ _ _)
   | (with_reducible exact spec_l1Num.mono _ _)
   | (with_reducible exact LeO.refl _)
   | (with_reducible exact LeO.none _)
   | (with_reducible refine LeO.ite ?_ ?_)
   | (with_reducible refine LeO.bind ?_ (fun _=>?_))
   | exact ih0 _ _ _ _ _ _ _
   | exact ih1 _ _ _ _
   | exact spec_l1Num.mono _ _
   | exact LeO.none _
   | refine LeO.ite ?_ ?_
   | refine LeO.bind ?_ (fun _=>?_)
  ·intro y0 y1 y2 y3
   unfold spec_ciText.l1
   repeat' first
   | (with_reducible exact ih0 _ _ _ _ _ _ _)
   | (with_reducible exact ih1 _ _ _ _)
   | (with_reducible exact spec_l1Num.mono _ _)
   | (with_reducible exact LeO.refl _)
   | (with_reducible exact LeO.none _)
   | (with_reducible refine LeO.ite ?_ ?_)
   | (with_reducible refine LeO.bind ?_ (fun _=>?_))
   | exact ih0 _ _ _ _ _ _ _
   | exact ih1 _ _ _ _
   | exact spec_l1Num.mono _ _
   | exact LeO.none _
   | refine LeO.ite ?_ ?_
   | refine LeO.bind ?_ (fun _=>?_)
theorem spec_ciText.mono:∀ a0 a1 a2 k,LeO (spec_ciText.f k a0 a1 a2) (spec_ciText.f (k+1) a0 a1 a2):=by
 intro a0 a1 a2 k
 obtain ⟨ih0,ih1⟩:=spec_ciText.mono_l k
 unfold spec_ciText.f
 repeat' first
   | (with_reducible exact ih0 _ _ _ _ _ _ _)
   | (with_reducible exact ih1 _ _ _ _)
   | (with_reducible exact spec_l1Num.mono _ _)
   | (with_reducible exact LeO.refl _)
   | (with_reducible exact LeO.none _)
   | (with_reducible refine LeO.ite ?_ ?_)
   | (with_reducible refine LeO.bind ?_ (fun _=>?_))
   | exact ih0 _ _ _ _ _ _ _
   | exact ih1 _ _ _ _
   | exact spec_l1Num.mono _ _
   | exact LeO.none _
   | refine LeO.ite ?_ ?_
   | refine LeO.bind ?_ (fun _=>?_)
def spec_ciText.T5:Bool×List (List Nat×List Nat):=(true,[([],[]),([],[]),([],[]),([2],[2]),([3],[3]),([1,4],[1,4]),([5],[5]),([6],[6]),([],[]),([8],[8]),([9],[9]),([7,10],[7,10]),([0,11],[0,11]),([12,10,0,1,2,3,4,5,6,7,8,9,10,11,12],[0,12])])
def spec_ciText.B5:List Nat:=[0,0,0,4,12,30,62,126,0,256,768,2046,4095,8191]
theorem spec_ciText.tab5:rtab .any (opsOf Tryd.f17 5)=spec_ciText.T5:=by kernel_rfl
theorem spec_ciText.bits5:waitsOk spec_ciText.T5.2 spec_ciText.B5=true:=by kernel_rfl
theorem spec_ciText.calls (k:Nat) (a0_0:Int) (A0_1:Option Addr) (c0_1:Nat) (l0_1:List (S47)) (A0_2:Option Addr) (c0_2:Nat) (l0_2:List Int) (r:ByteArray) (w:World) (hr0_1:Kd.C k47 w A0_1 l0_1.length l0_1) (hc0_1:l0_1.length≤c0_1) (hr0_2:Kd.C (Kd.int .i64) w A0_2 l0_2.length l0_2) (hc0_2:l0_2.length≤c0_2) (h:spec_ciText.f k a0_0 l0_1 l0_2=some r) :
  Calls Tryd.prog 17 #[.agg #[.int .i64 a0_0,.slice A0_1 l0_1.length c0_1,.slice A0_2 l0_2.length c0_2]] w fun e w'=>e = .returned (.string r)∧Below w.heap.size w w':=by
 have hu31:=Tryd.underlying31
 have hu47:=Tryd.underlying47
 have HR0_1:=aM hr0_1
 have HC0_1:=aM hc0_1
 clear hr0_1 hc0_1
 have HR0_2:=aM hr0_2
 have HC0_2:=aM hc0_2
 clear hr0_2 hc0_2
 have HB:=aM (Below.refl w.heap.size w)
 have H:((spec_l1Num.f k a0_0).bind fun t132=>(if t132.size+1≤9223372036854775807 then (spec_ciText.l0 k (t132++(⟨#[10]⟩:ByteArray)) l0_1 (l0_1.length:Int) 0 a0_0 l0_1 l0_2) else (none)))=some r:=h
 clear h
 replace H:=oB.mp H
 obtain ⟨t132,A20,H⟩:=H
 replace H:(if t132.size+1≤9223372036854775807 then (spec_ciText.l0 k (t132++(⟨#[10]⟩:ByteArray)) l0_1 (l0_1.length:Int) 0 a0_0 l0_1 l0_2) else (none))=some r:=H
 have A2:=aM A20
 clear A20
 by_cases c3:t132.size+1≤9223372036854775807
 ·rw [if_pos c3] at H
  have c3b0:=eq_true c3;have c3b1:=decide_eq_true c3;(try have c3b2:(9223372036854775807<t132.size+1)=False:=eq_false (Nat.not_lt.2 c3));have H':=aM H;clear H
  go_enter Tryd.func17,Tryd.ntmps17
  go_wp2_with (first | ((with_reducible refine gate_dst (N:=1) rfl ?_);refine box_event ?hg (N:=1) ?hd (cs:=#[.int .i64 a0_0,.slice A0_1 l0_1.length c0_1,.slice A0_2 l0_2.length c0_2]) (t:=31) ?hr ?_;(case hd=>rfl);(case hg=>rfl);(case hr=>exact ze_);intro gb131 hg w4 hbox hb;have n_:=z (below_step zb_ hb)<|z (hbox)<|z ((by rw [hg];exact (below_size zb_):w.heap.size≤gb131))<|z1 ((by rw [hg];exact (below_size zb_):w.heap.size≤gb131));clear HB;obtain ⟨HB,BK131,GW131,GE131⟩:=n_;clear hb hbox hg;obtain ⟨hcz5_0,hcz5_1,hcz5_2,hfz5_0,hfz5_1,hfz5_2⟩:=zk3 BK131.out)|((with_reducible refine gate_callee (f:=39) rfl ?_);refine goesL_ (some 10) rfl rfl Tryd.func39 (by kernel_rfl) rfl #[.int .i64 a0_0] rfl zd_ ?_;(with_reducible refine (spec_l1Num.calls k a0_0 t132 _ A2.out).mono ?_);rintro e w6 ⟨rfl,hb⟩;refine ⟨_,rfl,?_⟩;have n_:=z (blk_below (zb BK131.out) hb)<|z1 (below_step zbj_ hb);clear BK131 HB;obtain ⟨BK131,HB⟩:=n_;clear hb;obtain ⟨hcz7_0,hcz7_1,hcz7_2,hfz7_0,hfz7_1,hfz7_2⟩:=zk3 BK131.out))
  go_loopg [3,15] k (fun kq v3 v15 w' => ∃ (x3_1:ByteArray) (x15_1:Int),v3 = .string x3_1∧v15 = .int .i64 x15_1∧Aside0 (spec_ciText.l0 kq x3_1 l0_1 (l0_1.length:Int) x15_1 a0_0 l0_1 l0_2=some r)∧Aside0 (kq≤k)∧Aside0 (w'.heap[gb131]?=some (.cells #[.int .i64 a0_0,(.slice A0_1 l0_1.length c0_1),(.slice A0_2 l0_2.length c0_2)] 31 (0,0)))∧Aside0 (Below w.heap.size w w'))
  case atStart=>exact ⟨(t132++(⟨#[10]⟩:ByteArray)),(0),zc_,zc_,H',⟨Nat.le_refl _⟩,⟨zb BK131.out⟩,⟨zbj_⟩⟩
  case round =>
   clear H';(try clear c3);(try clear c3b0);(try clear c3b1);(try clear c3b2);(try clear hcz5_0);(try clear hcz5_1);(try clear hcz5_2);(try clear hcz7_0);(try clear hcz7_1);(try clear hcz7_2);(try clear hfz5_0);(try clear hfz5_1);(try clear hfz5_2);(try clear hfz7_0);(try clear hfz7_1);(try clear hfz7_2);obtain ⟨x3_1,x15_1,rfl,rfl,HA,HK1,BK131,HB⟩:=hrel
   cases gk with
   | zero=>exact absurd HA.out (by simp [spec_ciText.l0])
   | succ k1 =>
    have H:=HA.out;clear HA
    simp only [spec_ciText.l0] at H
    by_cases c8:x15_1<(l0_1.length:Int)
    ·rw [if_pos c8] at H
     have c8b0:=decide_eq_true c8;clear c8
     by_cases c9:0≤x15_1
     ·rw [if_pos c9] at H
      have c9b0:=decide_eq_true c9;clear c9
      by_cases c10:x15_1<(l0_1.length:Int)
      ·rw [if_pos c10] at H
       have c10b0:=decide_eq_true c10;clear c10;obtain ⟨y135,hy135⟩:∃ y_:List ByteArray,y_=(([(⟨#[97,110,100]⟩:ByteArray),(⟨#[111,114]⟩:ByteArray),(⟨#[120,111,114]⟩:ByteArray),(⟨#[110,111,116]⟩:ByteArray)]:List ByteArray)):=⟨_,rfl⟩;replace H:(if 0≤(wrap64 (((rd_T47 l0_1 x15_1).f0) - 1)) then (if (wrap64 (((rd_T47 l0_1 x15_1).f0) - 1))<(y135.length:Int) then (if (rdOf ByteArray.empty y135 (wrap64 (((rd_T47 l0_1 x15_1).f0) - 1))).size+1≤9223372036854775807 then ((spec_l1Num.f k1 ((rd_T47 l0_1 x15_1).f1)).bind fun t139=>(if ((rdOf ByteArray.empty y135 (wrap64 (((rd_T47 l0_1 x15_1).f0) - 1)))++(⟨#[32]⟩:ByteArray)).size+t139.size≤9223372036854775807 then (if x3_1.size+(((rdOf ByteArray.empty y135 (wrap64 (((rd_T47 l0_1 x15_1).f0) - 1)))++(⟨#[32]⟩:ByteArray))++t139).size≤9223372036854775807 then (if ((rd_T47 l0_1 x15_1).f0)=4 then (if (x3_1++(((rdOf ByteArray.empty y135 (wrap64 (((rd_T47 l0_1 x15_1).f0) - 1)))++(⟨#[32]⟩:ByteArray))++t139)).size+1≤9223372036854775807 then (spec_ciText.l0 k1 ((x3_1++(((rdOf ByteArray.empty y135 (wrap64 (((rd_T47 l0_1 x15_1).f0) - 1)))++(⟨#[32]⟩:ByteArray))++t139))++(⟨#[10]⟩:ByteArray)) l0_1 (l0_1.length:Int) (wrap64 (x15_1+1)) a0_0 l0_1 l0_2) else (none)) else ((spec_l1Num.f k1 ((rd_T47 l0_1 x15_1).f2)).bind fun t140=>(if 1+t140.size≤9223372036854775807 then (if (x3_1++(((rdOf ByteArray.empty y135 (wrap64 (((rd_T47 l0_1 x15_1).f0) - 1)))++(⟨#[32]⟩:ByteArray))++t139)).size+((⟨#[32]⟩:ByteArray)++t140).size≤9223372036854775807 then (if ((x3_1++(((rdOf ByteArray.empty y135 (wrap64 (((rd_T47 l0_1 x15_1).f0) - 1)))++(⟨#[32]⟩:ByteArray))++t139))++((⟨#[32]⟩:ByteArray)++t140)).size+1≤9223372036854775807 then (spec_ciText.l0 k1 (((x3_1++(((rdOf ByteArray.empty y135 (wrap64 (((rd_T47 l0_1 x15_1).f0) - 1)))++(⟨#[32]⟩:ByteArray))++t139))++((⟨#[32]⟩:ByteArray)++t140))++(⟨#[10]⟩:ByteArray)) l0_1 (l0_1.length:Int) (wrap64 (x15_1+1)) a0_0 l0_1 l0_2) else (none)) else (none)) else (none)))) else (none)) else (none))) else (none)) else (none)) else (none))=some r:=q3y_ hy135 H
       have Ny135:=aM hy135;clear hy135;obtain ⟨ji11,hji11⟩:∃ j_:Int,(wrap64 (((rd_T47 l0_1 x15_1).f0) - 1))=j_:=⟨_,rfl⟩;replace H:(if 0≤(ji11) then (if (ji11)<(y135.length:Int) then (if (rdOf ByteArray.empty y135 (ji11)).size+1≤9223372036854775807 then ((spec_l1Num.f k1 ((rd_T47 l0_1 x15_1).f1)).bind fun t139=>(if ((rdOf ByteArray.empty y135 (ji11))++(⟨#[32]⟩:ByteArray)).size+t139.size≤9223372036854775807 then (if x3_1.size+(((rdOf ByteArray.empty y135 (ji11))++(⟨#[32]⟩:ByteArray))++t139).size≤9223372036854775807 then (if ((rd_T47 l0_1 x15_1).f0)=4 then (if (x3_1++(((rdOf ByteArray.empty y135 (ji11))++(⟨#[32]⟩:ByteArray))++t139)).size+1≤9223372036854775807 then (spec_ciText.l0 k1 ((x3_1++(((rdOf ByteArray.empty y135 (ji11))++(⟨#[32]⟩:ByteArray))++t139))++(⟨#[10]⟩:ByteArray)) l0_1 (l0_1.length:Int) (wrap64 (x15_1+1)) a0_0 l0_1 l0_2) else (none)) else ((spec_l1Num.f k1 ((rd_T47 l0_1 x15_1).f2)).bind fun t140=>(if 1+t140.size≤9223372036854775807 then (if (x3_1++(((rdOf ByteArray.empty y135 (ji11))++(⟨#[32]⟩:ByteArray))++t139)).size+((⟨#[32]⟩:ByteArray)++t140).size≤9223372036854775807 then (if ((x3_1++(((rdOf ByteArray.empty y135 (ji11))++(⟨#[32]⟩:ByteArray))++t139))++((⟨#[32]⟩:ByteArray)++t140)).size+1≤9223372036854775807 then (spec_ciText.l0 k1 (((x3_1++(((rdOf ByteArray.empty y135 (ji11))++(⟨#[32]⟩:ByteArray))++t139))++((⟨#[32]⟩:ByteArray)++t140))++(⟨#[10]⟩:ByteArray)) l0_1 (l0_1.length:Int) (wrap64 (x15_1+1)) a0_0 l0_1 l0_2) else (none)) else (none)) else (none)))) else (none)) else (none))) else (none)) else (none)) else (none))=some r:=by first | (rw [hji11] at H;exact H)|(simp only [hji11] at H ⊢;exact H)
       have hji11w:(IntKind.i64.wrap (((rd_T47 l0_1 x15_1).f0) - 1))=ji11:=(i64_w _).trans hji11
       by_cases c12:0≤(ji11)
       ·rw [if_pos c12] at H
        have c12b0:=decide_eq_true c12;clear c12
        by_cases c13:(ji11)<(y135.length:Int)
        ·rw [if_pos c13] at H
         have c13b0:=decide_eq_true c13;clear c13
         by_cases c14:(rdOf ByteArray.empty y135 (ji11)).size+1≤9223372036854775807
         ·rw [if_pos c14] at H
          have c14b0:=eq_true c14;have c14b1:=decide_eq_true c14;(try have c14b2:(9223372036854775807<(rdOf ByteArray.empty y135 (ji11)).size+1)=False:=eq_false (Nat.not_lt.2 c14));replace H:=oB.mp H;obtain ⟨t139,A150,H⟩:=H;replace H:(if ((rdOf ByteArray.empty y135 (ji11))++(⟨#[32]⟩:ByteArray)).size+t139.size≤9223372036854775807 then (if x3_1.size+(((rdOf ByteArray.empty y135 (ji11))++(⟨#[32]⟩:ByteArray))++t139).size≤9223372036854775807 then (if ((rd_T47 l0_1 x15_1).f0)=4 then (if (x3_1++(((rdOf ByteArray.empty y135 (ji11))++(⟨#[32]⟩:ByteArray))++t139)).size+1≤9223372036854775807 then (spec_ciText.l0 k1 ((x3_1++(((rdOf ByteArray.empty y135 (ji11))++(⟨#[32]⟩:ByteArray))++t139))++(⟨#[10]⟩:ByteArray)) l0_1 (l0_1.length:Int) (wrap64 (x15_1+1)) a0_0 l0_1 l0_2) else (none)) else ((spec_l1Num.f k1 ((rd_T47 l0_1 x15_1).f2)).bind fun t140=>(if 1+t140.size≤9223372036854775807 then (if (x3_1++(((rdOf ByteArray.empty y135 (ji11))++(⟨#[32]⟩:ByteArray))++t139)).size+((⟨#[32]⟩:ByteArray)++t140).size≤9223372036854775807 then (if ((x3_1++(((rdOf ByteArray.empty y135 (ji11))++(⟨#[32]⟩:ByteArray))++t139))++((⟨#[32]⟩:ByteArray)++t140)).size+1≤9223372036854775807 then (spec_ciText.l0 k1 (((x3_1++(((rdOf ByteArray.empty y135 (ji11))++(⟨#[32]⟩:ByteArray))++t139))++((⟨#[32]⟩:ByteArray)++t140))++(⟨#[10]⟩:ByteArray)) l0_1 (l0_1.length:Int) (wrap64 (x15_1+1)) a0_0 l0_1 l0_2) else (none)) else (none)) else (none)))) else (none)) else (none))=some r:=H;have A15:=aM A150;clear A150
          by_cases c16:((rdOf ByteArray.empty y135 (ji11))++(⟨#[32]⟩:ByteArray)).size+t139.size≤9223372036854775807
          ·rw [if_pos c16] at H
           have c16b0:=eq_true c16;have c16b1:=decide_eq_true c16;(try have c16b3:((rdOf ByteArray.empty y135 (ji11)).size+1+t139.size≤9223372036854775807)=True:=eq_true (by have h_:=c16;(repeat rw [ByteArray.size_append] at h_);exact h_));(try have c16b4:(9223372036854775807<(rdOf ByteArray.empty y135 (ji11)).size+1+t139.size)=False:=eq_false (by have h_:=c16;(repeat rw [ByteArray.size_append] at h_);exact Nat.not_lt.2 h_));(try have c16b2:(9223372036854775807<((rdOf ByteArray.empty y135 (ji11))++(⟨#[32]⟩:ByteArray)).size+t139.size)=False:=eq_false (Nat.not_lt.2 c16))
           by_cases c17:x3_1.size+(((rdOf ByteArray.empty y135 (ji11))++(⟨#[32]⟩:ByteArray))++t139).size≤9223372036854775807
           ·rw [if_pos c17] at H
            have c17b0:=eq_true c17;have c17b1:=decide_eq_true c17;(try have c17b3:(x3_1.size+((rdOf ByteArray.empty y135 (ji11)).size+1+t139.size)≤9223372036854775807)=True:=eq_true (by have h_:=c17;(repeat rw [ByteArray.size_append] at h_);exact h_));(try have c17b4:(9223372036854775807<x3_1.size+((rdOf ByteArray.empty y135 (ji11)).size+1+t139.size))=False:=eq_false (by have h_:=c17;(repeat rw [ByteArray.size_append] at h_);exact Nat.not_lt.2 h_));(try have c17b2:(9223372036854775807<x3_1.size+(((rdOf ByteArray.empty y135 (ji11))++(⟨#[32]⟩:ByteArray))++t139).size)=False:=eq_false (Nat.not_lt.2 c17))
            by_cases c18:((rd_T47 l0_1 x15_1).f0)=4
            ·rw [if_pos c18] at H
             have c18b0:=beq_iff_eq.mpr c18;have c18b1:=bne_eq_false_iff_eq.mpr c18;clear c18
             by_cases c19:(x3_1++(((rdOf ByteArray.empty y135 (ji11))++(⟨#[32]⟩:ByteArray))++t139)).size+1≤9223372036854775807
             ·rw [if_pos c19] at H
              have c19b0:=eq_true c19;have c19b1:=decide_eq_true c19;(try have c19b3:(x3_1.size+((rdOf ByteArray.empty y135 (ji11)).size+1+t139.size)+1≤9223372036854775807)=True:=eq_true (by have h_:=c19;(repeat rw [ByteArray.size_append] at h_);exact h_));(try have c19b4:(9223372036854775807<x3_1.size+((rdOf ByteArray.empty y135 (ji11)).size+1+t139.size)+1)=False:=eq_false (by have h_:=c19;(repeat rw [ByteArray.size_append] at h_);exact Nat.not_lt.2 h_));(try have c19b2:(9223372036854775807<(x3_1++(((rdOf ByteArray.empty y135 (ji11))++(⟨#[32]⟩:ByteArray))++t139)).size+1)=False:=eq_false (Nat.not_lt.2 c19));have H':=aM H;clear H;have p133:0≤(x15_1:Int):=of_decide_eq_true za_;have q133:x15_1<(l0_1.length:Int):=of_decide_eq_true za_;obtain ⟨ad133,e133,hx133_0,hx133_1,hx133_2⟩:=at_T47 HR0_1.out x15_1 p133 q133
              cases e133
              (try (replace hx133_0:=q3h_ HB.out hx133_0));(try (replace hx133_1:=q3h_ HB.out hx133_1));(try (replace hx133_2:=q3h_ HB.out hx133_2));replace p133:=eq_true p133;replace q133:=eq_true q133;(try go_wp2_with (first | ((with_reducible refine gate_dst (N:=5) rfl ?_);refine box_event ?hg (N:=5) ?hd (cs:=#[.int .i64 0,.int .i64 0,.int .i64 0]) (t:=47) ?hr ?_;(case hd=>rfl);(case hg=>rfl);(case hr=>exact ze_);intro gb134 hg w20 hbox hb;have n_:=z (blk_below (zb BK131.out) hb)<|z (below_step zbj_ hb)<|z (hbox)<|z ((by rw [hg];exact (below_size zbj_):w.heap.size≤gb134))<|z ((by rw [hg];exact (below_size zbj_):w.heap.size≤gb134))<|z ((by rw [hg];exact Nat.ne_of_lt (blk_lt (zb BK131.out)):gb131≠gb134))<|z1 ((by rw [hg];exact Nat.ne_of_gt (blk_lt (zb BK131.out)):gb134≠gb131));clear BK131 HB;obtain ⟨BK131,HB,BK134,GW134,GE134,NB131_134,NB134_131⟩:=n_;clear hb hbox hg;have hnb21:=NB134_131.out;have hnc21:=NB131_134.out;obtain ⟨hcz22_0,hcz22_1,hcz22_2,hfz22_0,hfz22_1,hfz22_2⟩:=zk3 BK134.out)));have pi138:(0≤((ji11):Int))=True:=eq_true (of_decide_eq_true za_);have qi138:((ji11)<(y135.length:Int))=True:=eq_true (of_decide_eq_true za_);have n0_:Aside0 ((((w20.setCell ⟨gb134,0,none⟩ (.int .i64 ((rd_T47 l0_1 x15_1).f0))).setCell ⟨gb134,1,none⟩ (.int .i64 ((rd_T47 l0_1 x15_1).f1))).setCell ⟨gb134,2,none⟩ (.int .i64 ((rd_T47 l0_1 x15_1).f2))).heap[gb131]?=some (.cells #[.int .i64 a0_0,.slice (some ad133) l0_1.length c0_1,.slice A0_2 l0_2.length c0_2] 31 (0,0))):=⟨by refine zb ?_;refine blk_far ?_ NB131_134.out _;refine zb ?_;refine blk_far ?_ NB131_134.out _;refine zb ?_;refine blk_far ?_ NB131_134.out _;refine zb ?_;exact BK131.out⟩;have n1_:Aside0 ((((w20.setCell ⟨gb134,0,none⟩ (.int .i64 ((rd_T47 l0_1 x15_1).f0))).setCell ⟨gb134,1,none⟩ (.int .i64 ((rd_T47 l0_1 x15_1).f1))).setCell ⟨gb134,2,none⟩ (.int .i64 ((rd_T47 l0_1 x15_1).f2))).heap[gb134]?=some (.cells #[.int .i64 ((rd_T47 l0_1 x15_1).f0),.int .i64 ((rd_T47 l0_1 x15_1).f1),.int .i64 ((rd_T47 l0_1 x15_1).f2)] 47 (0,0))):=⟨by refine zb ?_;refine blk_put (cs:=#[.int .i64 ((rd_T47 l0_1 x15_1).f0),.int .i64 ((rd_T47 l0_1 x15_1).f1),.int .i64 0]) ?_ 2 _ rfl;refine zb ?_;refine blk_put (cs:=#[.int .i64 ((rd_T47 l0_1 x15_1).f0),.int .i64 0,.int .i64 0]) ?_ 1 _ rfl;refine zb ?_;refine blk_put (cs:=#[.int .i64 0,.int .i64 0,.int .i64 0]) ?_ 0 _ rfl;refine zb ?_;exact BK134.out⟩;have n2_:Aside0 (Below w.heap.size w (((w20.setCell ⟨gb134,0,none⟩ (.int .i64 ((rd_T47 l0_1 x15_1).f0))).setCell ⟨gb134,1,none⟩ (.int .i64 ((rd_T47 l0_1 x15_1).f1))).setCell ⟨gb134,2,none⟩ (.int .i64 ((rd_T47 l0_1 x15_1).f2)))):=⟨zbf_⟩;(try clear BK131);(try clear BK134);(try clear HB);generalize (((w20.setCell ⟨gb134,0,none⟩ (.int .i64 ((rd_T47 l0_1 x15_1).f0))).setCell ⟨gb134,1,none⟩ (.int .i64 ((rd_T47 l0_1 x15_1).f1))).setCell ⟨gb134,2,none⟩ (.int .i64 ((rd_T47 l0_1 x15_1).f2)))=w23 at n0_ n1_ n2_ ⊢;have BK131:=n0_;have BK134:=n1_;have HB:=n2_;clear n0_ n1_ n2_;have n_:=z (blk_drew BK131.out)<|z (blk_drew BK134.out)<|z1 (p1 HB.out)
              clear BK131 BK134 HB;obtain ⟨BK131,BK134,HB⟩:=n_
              refine start_ (n:=14) (S:=fun w'=>True) (ds:=[]) #[fi,fi,fi,fi,fi,fi,fi,fi,fi,fi,fi,fi,fi,fi] (by kernel_rfl) rfl rfl trivial (fun hHeld=>?_);refine with_tabW spec_ciText.tab5 spec_ciText.bits5 (fun HT_ HW_=>?_)
              generalize w23.drew=w24 at BK131 BK134 HB hHeld ⊢;refine py_ 0 19 HT_.out ?_;refine py_ 2 21 HT_.out ?_;refine py_ 8 27 HT_.out ?_
              refine inv_at [1,3,4,5,6,7,9,10,11,12,13] (fun a0_ b a w' => ∃ (v136:Value) (adz_v136:Addr) (m5_:Value),a=putSel a0_ b [(1,20,v136),(3,22,.int .i64 ((rd_T47 l0_1 x15_1).f0)),(4,23,.int .i64 ji11),(5,24,m5_),(6,25,.string (rdOf ByteArray.empty y135 (ji11))),(7,26,.string ((rdOf ByteArray.empty y135 (ji11))++(⟨#[32]⟩:ByteArray))),(9,28,.int .i64 ((rd_T47 l0_1 x15_1).f1)),(10,29,.string t139),(11,30,.string (((rdOf ByteArray.empty y135 (ji11))++(⟨#[32]⟩:ByteArray))++t139)),(12,31,.string (x3_1++(((rdOf ByteArray.empty y135 (ji11))++(⟨#[32]⟩:ByteArray))++t139))),(13,3,.string (x3_1++(((rdOf ByteArray.empty y135 (ji11))++(⟨#[32]⟩:ByteArray))++t139)))]∧(w'.heap[gb131]?=some (.cells #[.int .i64 a0_0,.slice (some ad133) l0_1.length c0_1,.slice A0_2 l0_2.length c0_2] 31 (0,0)))∧(w'.heap[gb134]?=some (.cells #[.int .i64 ((rd_T47 l0_1 x15_1).f0),.int .i64 ((rd_T47 l0_1 x15_1).f1),.int .i64 ((rd_T47 l0_1 x15_1).f2)] 47 (0,0)))∧(Below w.heap.size w w')∧(b 1=true→Kd.R Kd.string 9 w' w.heap.size (fun _=>True) v136 y135)∧(b 1=true→∃ c_,(v136:Value) = .slice (some adz_v136) y135.length c_)∧(b 5=true→(m5_:Value) = .pointer (some (adz_v136.add ((ji11)).toNat)))) HT_.out HW_.out (by kernel_rfl) (by kernel_rfl) ?_ ?_ ?_
              ·exact ⟨.bool false,⟨0,0,none⟩,.bool false,by simp only [putSel,Bool.false_eq_true,if_false],BK131.out,BK134.out,HB.out,fun h_=>absurd h_ (by decide),fun h_=>absurd h_ (by decide),fun h_=>absurd h_ (by decide)⟩
              ·skip
               clear BK131 BK134 HB
               refine steps_cons ?_ ?_
               ·rintro b a w' ⟨v136,adz_v136,m5_,ha,Q_BK131,Q_BK134,Q_HB,Q_HO137,Q_HA_HO137,Q_X5_⟩ hb_ hon hoff
                refine ⟨_,rfl,fun K hK=>?_⟩
                replace ha:=aM ha;have BK131:=aM Q_BK131;have BK134:=aM Q_BK134;have HB:=aM Q_HB
                refine Kd.R_lit_step Kd.string _ 9 ?hg (N:=20) ?hd (xs:=([(⟨#[97,110,100]⟩:ByteArray),(⟨#[111,114]⟩:ByteArray),(⟨#[120,111,114]⟩:ByteArray),(⟨#[110,111,116]⟩:ByteArray)]:List ByteArray)) (inner:=[.string (⟨#[97,110,100]⟩:ByteArray),.string (⟨#[111,114]⟩:ByteArray),.string (⟨#[120,111,114]⟩:ByteArray),.string (⟨#[110,111,116]⟩:ByteArray)]) (ok:=fun _=>True) (okp:=fun _=>True) ?hr ?hp (fun _ hk=>hk) trivial (Below.refl _ _) (Nat.le_refl _) (by simp) ?_;(case hd=>rfl);(case hg=>rfl);(case hr=>exact ze_);(case hp=>exact (Reps.one (show Kd.M Kd.string _ _ _ (⟨#[97,110,100]⟩:ByteArray) [.string (⟨#[97,110,100]⟩:ByteArray)] from rfl) (Reps.one (show Kd.M Kd.string _ _ _ (⟨#[111,114]⟩:ByteArray) [.string (⟨#[111,114]⟩:ByteArray)] from rfl) (Reps.one (show Kd.M Kd.string _ _ _ (⟨#[120,111,114]⟩:ByteArray) [.string (⟨#[120,111,114]⟩:ByteArray)] from rfl) (Reps.one (show Kd.M Kd.string _ _ _ (⟨#[110,111,116]⟩:ByteArray) [.string (⟨#[110,111,116]⟩:ByteArray)] from rfl) (Reps.none _ _))))))
                intro v136 w25 ho26 hb hg_ hnew_
                clear hg_ hnew_;(first | rw [← Ny135.out] at ho26 | (simp only [Int.reduceToNat] at ho26;rw [← Ny135.out] at ho26));have n_:=z (Kd.R_lower ho26 (below_size zbf_))<|z (blk_below (zb BK131.out) hb)<|z (blk_below (g:=gb134) (o := .cells #[.int .i64 ((rd_T47 l0_1 x15_1).f0),.int .i64 ((rd_T47 l0_1 x15_1).f1),.int .i64 ((rd_T47 l0_1 x15_1).f2)] 47 (0,0)) (zb BK134.out) hb)<|z1 (below_step zbf_ hb)
                clear BK131 BK134 HB;obtain ⟨HO137,BK131,BK134,HB⟩:=n_;clear hb ho26;obtain ⟨Ao27,co27,eo27⟩:=Kd.R_slice HO137.out;subst eo27;obtain ⟨ado27,fo27,_⟩:=Kd.at_string (Kd.R_reads' HO137.out).2.2 0 (by decide) (by rw [Ny135.out];simp)
                cases fo27
                refine hK.out _ _ ⟨.slice (some ado27) y135.length co27,ado27,m5_,(by rw [ha.out];exact putSel_upk 0 hb_ rfl rfl rfl),(zb BK131.out),(zb BK134.out),zbf_,fun _=>(zr HO137.out),fun _=>⟨_,rfl⟩,fun h0_=>absurd ((hoff 5 (by kernel_rfl)).symm.trans h0_) (by decide)⟩
               refine steps_cons ?_ ?_
               ·rintro b a w' ⟨v136,adz_v136,m5_,ha,Q_BK131,Q_BK134,Q_HB,Q_HO137,Q_HA_HO137,Q_X5_⟩ hb_ hon hoff
                refine ⟨_,rfl,fun K hK=>?_⟩
                have e21:a.tmps[21]?=some (.pointer (some ⟨gb134,0,none⟩)):=by rw [ha];exact (putSel_off rfl).trans rfl
                replace ha:=aM ha;have BK131:=aM Q_BK131;have BK134:=aM Q_BK134;have HB:=aM Q_HB;have hc0_:w'.cell? ⟨gb134,0,none⟩=some (.int .i64 ((rd_T47 l0_1 x15_1).f0)):=(blk_cell BK134.out 0).trans rfl;have hc1_:w'.cell? ⟨gb134,1,none⟩=some (.int .i64 ((rd_T47 l0_1 x15_1).f1)):=(blk_cell BK134.out 1).trans rfl;have hc2_:w'.cell? ⟨gb134,2,none⟩=some (.int .i64 ((rd_T47 l0_1 x15_1).f2)):=(blk_cell BK134.out 2).trans rfl
                refine value_ (w1:=w') (v := .int .i64 ((rd_T47 l0_1 x15_1).f0)) (by rfl) rfl ?_ ?_
                ·go_simp
                 (try simp only [i64_w]);(try rfl)
                refine hK.out _ _ ⟨v136,adz_v136,m5_,(by rw [ha.out];exact putSel_upk 1 hb_ rfl rfl rfl),Q_BK131,Q_BK134,Q_HB,Q_HO137,Q_HA_HO137,fun h0_=>absurd ((hoff 5 (by kernel_rfl)).symm.trans h0_) (by decide)⟩
               refine steps_cons ?_ ?_
               ·rintro b a w' ⟨v136,adz_v136,m5_,ha,Q_BK131,Q_BK134,Q_HB,Q_HO137,Q_HA_HO137,Q_X5_⟩ hb_ hon hoff
                refine ⟨_,rfl,fun K hK=>?_⟩
                have e22:a.tmps[22]?=some (.int .i64 ((rd_T47 l0_1 x15_1).f0)):=by rw [ha];exact putSel_on (e:=(3,22,.int .i64 ((rd_T47 l0_1 x15_1).f0))) 1 rfl rfl (hon 3 (by kernel_rfl)) rfl
                replace ha:=aM ha;have BK131:=aM Q_BK131;have BK134:=aM Q_BK134;have HB:=aM Q_HB
                refine value_ (w1:=w') (v := .int .i64 ji11) (by rfl) rfl ?_ ?_
                ·go_simp
                 (try simp only [i64_w]);(try rfl)
                refine hK.out _ _ ⟨v136,adz_v136,m5_,(by rw [ha.out];exact putSel_upk 2 hb_ rfl rfl rfl),Q_BK131,Q_BK134,Q_HB,Q_HO137,Q_HA_HO137,fun h0_=>absurd ((hoff 5 (by kernel_rfl)).symm.trans h0_) (by decide)⟩
               refine steps_cons ?_ ?_
               ·rintro b a w' ⟨v136,adz_v136,m5_,ha,Q_BK131,Q_BK134,Q_HB,Q_HO137,Q_HA_HO137,Q_X5_⟩ hb_ hon hoff
                refine ⟨_,rfl,fun K hK=>?_⟩
                have e20:a.tmps[20]?=some (v136):=by rw [ha];exact putSel_on (e:=(1,20,v136)) 0 rfl rfl (hon 1 (by kernel_rfl)) rfl
                have e23:a.tmps[23]?=some (.int .i64 ji11):=by rw [ha];exact putSel_on (e:=(4,23,.int .i64 ji11)) 2 rfl rfl (hon 4 (by kernel_rfl)) rfl
                replace ha:=aM ha;have BK131:=aM Q_BK131;have BK134:=aM Q_BK134;have HB:=aM Q_HB;have HO137:=aM (Q_HO137 (hon 1 (by kernel_rfl)));have HA_HO137:=aM (Q_HA_HO137 (hon 1 (by kernel_rfl)));obtain ⟨c_,hv_⟩:=HA_HO137.out;rw [hv_] at e20
                refine value_ (w1:=w') (v := .pointer (some (adz_v136.add ((ji11)).toNat))) (by rfl) rfl ?_ ?_
                ·go_simp
                 (try simp only [i64_w]);(try rfl)
                refine hK.out _ _ ⟨v136,adz_v136,(.pointer (some (adz_v136.add ((ji11)).toNat))),(by rw [ha.out];exact putSel_upk 3 hb_ rfl rfl rfl),Q_BK131,Q_BK134,Q_HB,Q_HO137,Q_HA_HO137,fun _=>rfl⟩
               refine steps_cons ?_ ?_
               ·rintro b a w' ⟨v136,adz_v136,m5_,ha,Q_BK131,Q_BK134,Q_HB,Q_HO137,Q_HA_HO137,Q_X5_⟩ hb_ hon hoff
                refine ⟨_,rfl,fun K hK=>?_⟩
                have e24:a.tmps[24]?=some (m5_):=by rw [ha];exact putSel_on (e:=(5,24,m5_)) 3 rfl rfl (hon 5 (by kernel_rfl)) rfl
                rw [Q_X5_ (hon 5 (by kernel_rfl))] at e24;replace ha:=aM ha;have BK131:=aM Q_BK131;have BK134:=aM Q_BK134;have HB:=aM Q_HB;have HO137:=aM (Q_HO137 (hon 1 (by kernel_rfl)));have HA_HO137:=aM (Q_HA_HO137 (hon 1 (by kernel_rfl)));obtain ⟨c_,hv_⟩:=HA_HO137.out;have hF_:=HO137.out;rw [hv_] at hF_;obtain ⟨ad_,ea_,hx_⟩:=Kd.at_string (Kd.R_reads' hF_).2.2 (ji11) (of_eq_true pi138) (of_eq_true qi138)
                cases ea_
                refine value_ (w1:=w') (v := .string (rdOf ByteArray.empty y135 (ji11))) (by rfl) rfl ?_ ?_
                ·go_simp
                 (try simp only [i64_w]);(try rfl)
                refine hK.out _ _ ⟨v136,adz_v136,m5_,(by rw [ha.out];exact putSel_upk 4 hb_ rfl rfl rfl),Q_BK131,Q_BK134,Q_HB,Q_HO137,Q_HA_HO137,Q_X5_⟩
               refine steps_cons ?_ ?_
               ·rintro b a w' ⟨v136,adz_v136,m5_,ha,Q_BK131,Q_BK134,Q_HB,Q_HO137,Q_HA_HO137,Q_X5_⟩ hb_ hon hoff
                refine ⟨_,rfl,fun K hK=>?_⟩
                have e25:a.tmps[25]?=some (.string (rdOf ByteArray.empty y135 (ji11))):=by rw [ha];exact putSel_on (e:=(6,25,.string (rdOf ByteArray.empty y135 (ji11)))) 4 rfl rfl (hon 6 (by kernel_rfl)) rfl
                replace ha:=aM ha;have BK131:=aM Q_BK131;have BK134:=aM Q_BK134;have HB:=aM Q_HB;have HO137:=aM (Q_HO137 (hon 1 (by kernel_rfl)));have HA_HO137:=aM (Q_HA_HO137 (hon 1 (by kernel_rfl)))
                refine value_ (w1:=w') (v := .string ((rdOf ByteArray.empty y135 (ji11))++(⟨#[32]⟩:ByteArray))) (by rfl) rfl ?_ ?_
                ·go_simp
                 (try simp only [i64_w]);(try rfl)
                refine hK.out _ _ ⟨v136,adz_v136,m5_,(by rw [ha.out];exact putSel_upk 5 hb_ rfl rfl rfl),Q_BK131,Q_BK134,Q_HB,Q_HO137,Q_HA_HO137,Q_X5_⟩
               refine steps_cons ?_ ?_
               ·rintro b a w' ⟨v136,adz_v136,m5_,ha,Q_BK131,Q_BK134,Q_HB,Q_HO137,Q_HA_HO137,Q_X5_⟩ hb_ hon hoff
                refine ⟨_,rfl,fun K hK=>?_⟩
                have e27:a.tmps[27]?=some (.pointer (some ⟨gb134,1,none⟩)):=by rw [ha];exact (putSel_off rfl).trans rfl
                replace ha:=aM ha;have BK131:=aM Q_BK131;have BK134:=aM Q_BK134;have HB:=aM Q_HB;have hc0_:w'.cell? ⟨gb134,0,none⟩=some (.int .i64 ((rd_T47 l0_1 x15_1).f0)):=(blk_cell BK134.out 0).trans rfl;have hc1_:w'.cell? ⟨gb134,1,none⟩=some (.int .i64 ((rd_T47 l0_1 x15_1).f1)):=(blk_cell BK134.out 1).trans rfl;have hc2_:w'.cell? ⟨gb134,2,none⟩=some (.int .i64 ((rd_T47 l0_1 x15_1).f2)):=(blk_cell BK134.out 2).trans rfl
                refine value_ (w1:=w') (v := .int .i64 ((rd_T47 l0_1 x15_1).f1)) (by rfl) rfl ?_ ?_
                ·go_simp
                 (try simp only [i64_w]);(try rfl)
                refine hK.out _ _ ⟨v136,adz_v136,m5_,(by rw [ha.out];exact putSel_upk 6 hb_ rfl rfl rfl),Q_BK131,Q_BK134,Q_HB,Q_HO137,Q_HA_HO137,Q_X5_⟩
               refine steps_cons ?_ ?_
               ·rintro b a w' ⟨v136,adz_v136,m5_,ha,Q_BK131,Q_BK134,Q_HB,Q_HO137,Q_HA_HO137,Q_X5_⟩ hb_ hon hoff
                refine ⟨_,rfl,fun K hK=>?_⟩
                have e28:a.tmps[28]?=some (.int .i64 ((rd_T47 l0_1 x15_1).f1)):=by rw [ha];exact putSel_on (e:=(9,28,.int .i64 ((rd_T47 l0_1 x15_1).f1))) 6 rfl rfl (hon 9 (by kernel_rfl)) rfl
                replace ha:=aM ha;have BK131:=aM Q_BK131;have BK134:=aM Q_BK134;have HB:=aM Q_HB
                refine goes_ Tryd.func39 (by kernel_rfl) rfl #[.int .i64 ((rd_T47 l0_1 x15_1).f1)] (by rfl) rfl rfl (by first | (simp only [mT,mC,mN,Act.eval,Array.getD_eq_getD_getElem?,Option.getD_some,e28];done)|(simp only [mT,mC,mN,Act.eval,Array.getD_eq_getD_getElem?,Option.getD_some,e28];rfl)) ?_
                with_reducible refine (spec_l1Num.calls k1 ((rd_T47 l0_1 x15_1).f1) t139 _ A15.out).mono ?_
                rintro e w25 ⟨rfl,hb⟩
                refine ⟨_,rfl,?_⟩
                have n0_:=aM (blk_below (zb BK131.out) hb);have n1_:=aM (blk_below (g:=gb134) (o := .cells #[.int .i64 ((rd_T47 l0_1 x15_1).f0),.int .i64 ((rd_T47 l0_1 x15_1).f1),.int .i64 ((rd_T47 l0_1 x15_1).f2)] 47 (0,0)) (zb BK134.out) hb);have n2_:=aM (below_step zbf_ hb);have z_HO137:=fun (h0_:b 1=true)=>(show Kd.R Kd.string 9 w25 w.heap.size (fun _=>True) v136 y135 from by first | exact (Kd.R_below (zr (Q_HO137 h0_)) hb) | exact Kd.R_mono (Kd.R_below (zr (Q_HO137 h0_)) hb) (fun _ h_=>by first | trivial | exact h_ | exact h_.1))
                clear BK131 BK134 HB;have BK131:=n0_;have BK134:=n1_;have HB:=n2_;clear n0_ n1_ n2_;(try clear hb);(try clear hb2);(try clear hk);(try clear hi)
                refine hK.out _ _ ⟨v136,adz_v136,m5_,(by rw [ha.out];exact putSel_upk 7 hb_ rfl rfl rfl),(zb BK131.out),(zb BK134.out),zbf_,z_HO137,Q_HA_HO137,Q_X5_⟩
               refine steps_cons ?_ ?_
               ·rintro b a w' ⟨v136,adz_v136,m5_,ha,Q_BK131,Q_BK134,Q_HB,Q_HO137,Q_HA_HO137,Q_X5_⟩ hb_ hon hoff
                refine ⟨_,rfl,fun K hK=>?_⟩
                have e26:a.tmps[26]?=some (.string ((rdOf ByteArray.empty y135 (ji11))++(⟨#[32]⟩:ByteArray))):=by rw [ha];exact putSel_on (e:=(7,26,.string ((rdOf ByteArray.empty y135 (ji11))++(⟨#[32]⟩:ByteArray)))) 5 rfl rfl (hon 7 (by kernel_rfl)) rfl
                have e29:a.tmps[29]?=some (.string t139):=by rw [ha];exact putSel_on (e:=(10,29,.string t139)) 7 rfl rfl (hon 10 (by kernel_rfl)) rfl
                replace ha:=aM ha;have BK131:=aM Q_BK131;have BK134:=aM Q_BK134;have HB:=aM Q_HB;have HO137:=aM (Q_HO137 (hon 1 (by kernel_rfl)));have HA_HO137:=aM (Q_HA_HO137 (hon 1 (by kernel_rfl)))
                refine value_ (w1:=w') (v := .string (((rdOf ByteArray.empty y135 (ji11))++(⟨#[32]⟩:ByteArray))++t139)) (by rfl) rfl ?_ ?_
                ·go_simp
                 (try simp only [i64_w]);(try rfl)
                refine hK.out _ _ ⟨v136,adz_v136,m5_,(by rw [ha.out];exact putSel_upk 8 hb_ rfl rfl rfl),Q_BK131,Q_BK134,Q_HB,Q_HO137,Q_HA_HO137,Q_X5_⟩
               refine steps_cons ?_ ?_
               ·rintro b a w' ⟨v136,adz_v136,m5_,ha,Q_BK131,Q_BK134,Q_HB,Q_HO137,Q_HA_HO137,Q_X5_⟩ hb_ hon hoff
                refine ⟨_,rfl,fun K hK=>?_⟩
                have e19:a.tmps[19]?=some (.string x3_1):=by rw [ha];exact (putSel_off rfl).trans rfl
                have e30:a.tmps[30]?=some (.string (((rdOf ByteArray.empty y135 (ji11))++(⟨#[32]⟩:ByteArray))++t139)):=by rw [ha];exact putSel_on (e:=(11,30,.string (((rdOf ByteArray.empty y135 (ji11))++(⟨#[32]⟩:ByteArray))++t139))) 8 rfl rfl (hon 11 (by kernel_rfl)) rfl
                replace ha:=aM ha;have BK131:=aM Q_BK131;have BK134:=aM Q_BK134;have HB:=aM Q_HB;have HO137:=aM (Q_HO137 (hon 1 (by kernel_rfl)));have HA_HO137:=aM (Q_HA_HO137 (hon 1 (by kernel_rfl)))
                refine value_ (w1:=w') (v := .string (x3_1++(((rdOf ByteArray.empty y135 (ji11))++(⟨#[32]⟩:ByteArray))++t139))) (by rfl) rfl ?_ ?_
                ·go_simp
                 (try simp only [i64_w]);(try rfl)
                refine hK.out _ _ ⟨v136,adz_v136,m5_,(by rw [ha.out];exact putSel_upk 9 hb_ rfl rfl rfl),Q_BK131,Q_BK134,Q_HB,Q_HO137,Q_HA_HO137,Q_X5_⟩
               refine steps_cons ?_ ?_
               ·rintro b a w' ⟨v136,adz_v136,m5_,ha,Q_BK131,Q_BK134,Q_HB,Q_HO137,Q_HA_HO137,Q_X5_⟩ hb_ hon hoff
                refine ⟨_,rfl,fun K hK=>?_⟩
                have e31:a.tmps[31]?=some (.string (x3_1++(((rdOf ByteArray.empty y135 (ji11))++(⟨#[32]⟩:ByteArray))++t139))):=by rw [ha];exact putSel_on (e:=(12,31,.string (x3_1++(((rdOf ByteArray.empty y135 (ji11))++(⟨#[32]⟩:ByteArray))++t139)))) 9 rfl rfl (hon 12 (by kernel_rfl)) rfl
                replace ha:=aM ha;have BK131:=aM Q_BK131;have BK134:=aM Q_BK134;have HB:=aM Q_HB;have HO137:=aM (Q_HO137 (hon 1 (by kernel_rfl)));have HA_HO137:=aM (Q_HA_HO137 (hon 1 (by kernel_rfl)))
                refine value_ (w1:=w') (v := .string (x3_1++(((rdOf ByteArray.empty y135 (ji11))++(⟨#[32]⟩:ByteArray))++t139))) (by rfl) rfl ?_ ?_
                ·go_simp
                 (try simp only [i64_w]);(try rfl)
                refine hK.out _ _ ⟨v136,adz_v136,m5_,(by rw [ha.out];exact putSel_upk 10 hb_ rfl rfl rfl),Q_BK131,Q_BK134,Q_HB,Q_HO137,Q_HA_HO137,Q_X5_⟩
               exact steps_nil
              rintro b a w29 hall ⟨v136,adz_v136,m5_,ha,Q_BK131,Q_BK134,Q_HB,Q_HO137,Q_HA_HO137,Q_X5_⟩
              clear BK131 BK134 HB;have hb1_:=hall 1 (by kernel_rfl);have hb3_:=hall 3 (by kernel_rfl);have hb4_:=hall 4 (by kernel_rfl);have hb5_:=hall 5 (by kernel_rfl);have hb6_:=hall 6 (by kernel_rfl);have hb7_:=hall 7 (by kernel_rfl);have hb9_:=hall 9 (by kernel_rfl);have hb10_:=hall 10 (by kernel_rfl);have hb11_:=hall 11 (by kernel_rfl);have hb12_:=hall 12 (by kernel_rfl);have hb13_:=hall 13 (by kernel_rfl);subst ha;obtain rfl:=Q_X5_ hb5_
              simp only [putSel,hb1_,hb3_,hb4_,hb5_,hb6_,hb7_,hb9_,hb10_,hb11_,hb12_,hb13_,if_true,Act.put,sI,s0,sS]
              have BK131:=aM Q_BK131;clear Q_BK131;have BK134:=aM Q_BK134;clear Q_BK134;have HB:=aM Q_HB;clear Q_HB;have HO137:=aM (Q_HO137 hb1_);clear Q_HO137;have HA_HO137:=aM (Q_HA_HO137 hb1_);clear Q_HA_HO137 hall hb1_ hb3_ hb4_ hb5_ hb6_ hb7_ hb9_ hb10_ hb11_ hb12_ hb13_;obtain ⟨co30,eo30⟩:=HA_HO137.out;clear HA_HO137;subst eo30;obtain ⟨hcz31_0,hcz31_1,hcz31_2,hfz31_0,hfz31_1,hfz31_2⟩:=zk3 BK134.out;(try go_wp2)
              go_roundg k1
              case measure=>have:=HK1.out;omega
              case rel=>exact ⟨((x3_1++(((rdOf ByteArray.empty y135 (ji11))++(⟨#[32]⟩:ByteArray))++t139))++(⟨#[10]⟩:ByteArray)),(wrap64 (x15_1+1)),(by first | rfl | (simp;done)|(simp only [← hji11] <;> (first | rfl | simp))|(simp [*];done)),zc_,H',⟨zbd_⟩,⟨zb BK131.out⟩,⟨zbf_⟩⟩
             ·rw [if_neg c19] at H
              exact q3n_ H
            ·rw [if_neg c18] at H
             have c18b0:=beq_eq_false_iff_ne.mpr c18;have c18b1:=bne_iff_ne.mpr c18;replace H:=oB.mp H;obtain ⟨t140,A320,H⟩:=H;replace H:(if 1+t140.size≤9223372036854775807 then (if (x3_1++(((rdOf ByteArray.empty y135 (ji11))++(⟨#[32]⟩:ByteArray))++t139)).size+((⟨#[32]⟩:ByteArray)++t140).size≤9223372036854775807 then (if ((x3_1++(((rdOf ByteArray.empty y135 (ji11))++(⟨#[32]⟩:ByteArray))++t139))++((⟨#[32]⟩:ByteArray)++t140)).size+1≤9223372036854775807 then (spec_ciText.l0 k1 (((x3_1++(((rdOf ByteArray.empty y135 (ji11))++(⟨#[32]⟩:ByteArray))++t139))++((⟨#[32]⟩:ByteArray)++t140))++(⟨#[10]⟩:ByteArray)) l0_1 (l0_1.length:Int) (wrap64 (x15_1+1)) a0_0 l0_1 l0_2) else (none)) else (none)) else (none))=some r:=H;have A32:=aM A320;clear A320
             by_cases c33:1+t140.size≤9223372036854775807
             ·rw [if_pos c33] at H
              have c33b0:=eq_true c33;have c33b1:=decide_eq_true c33;(try have c33b2:(9223372036854775807<1+t140.size)=False:=eq_false (Nat.not_lt.2 c33))
              by_cases c34:(x3_1++(((rdOf ByteArray.empty y135 (ji11))++(⟨#[32]⟩:ByteArray))++t139)).size+((⟨#[32]⟩:ByteArray)++t140).size≤9223372036854775807
              ·rw [if_pos c34] at H
               have c34b0:=eq_true c34;have c34b1:=decide_eq_true c34;(try have c34b3:(x3_1.size+((rdOf ByteArray.empty y135 (ji11)).size+1+t139.size)+(1+t140.size)≤9223372036854775807)=True:=eq_true (by have h_:=c34;(repeat rw [ByteArray.size_append] at h_);exact h_));(try have c34b4:(9223372036854775807<x3_1.size+((rdOf ByteArray.empty y135 (ji11)).size+1+t139.size)+(1+t140.size))=False:=eq_false (by have h_:=c34;(repeat rw [ByteArray.size_append] at h_);exact Nat.not_lt.2 h_));(try have c34b2:(9223372036854775807<(x3_1++(((rdOf ByteArray.empty y135 (ji11))++(⟨#[32]⟩:ByteArray))++t139)).size+((⟨#[32]⟩:ByteArray)++t140).size)=False:=eq_false (Nat.not_lt.2 c34))
               by_cases c35:((x3_1++(((rdOf ByteArray.empty y135 (ji11))++(⟨#[32]⟩:ByteArray))++t139))++((⟨#[32]⟩:ByteArray)++t140)).size+1≤9223372036854775807
               ·rw [if_pos c35] at H
                have c35b0:=eq_true c35;have c35b1:=decide_eq_true c35;(try have c35b3:(x3_1.size+((rdOf ByteArray.empty y135 (ji11)).size+1+t139.size)+(1+t140.size)+1≤9223372036854775807)=True:=eq_true (by have h_:=c35;(repeat rw [ByteArray.size_append] at h_);exact h_));(try have c35b4:(9223372036854775807<x3_1.size+((rdOf ByteArray.empty y135 (ji11)).size+1+t139.size)+(1+t140.size)+1)=False:=eq_false (by have h_:=c35;(repeat rw [ByteArray.size_append] at h_);exact Nat.not_lt.2 h_));(try have c35b2:(9223372036854775807<((x3_1++(((rdOf ByteArray.empty y135 (ji11))++(⟨#[32]⟩:ByteArray))++t139))++((⟨#[32]⟩:ByteArray)++t140)).size+1)=False:=eq_false (Nat.not_lt.2 c35));have H':=aM H;clear H;have p133:0≤(x15_1:Int):=of_decide_eq_true za_;have q133:x15_1<(l0_1.length:Int):=of_decide_eq_true za_;obtain ⟨ad133,e133,hx133_0,hx133_1,hx133_2⟩:=at_T47 HR0_1.out x15_1 p133 q133
                cases e133
                (try (replace hx133_0:=q3h_ HB.out hx133_0));(try (replace hx133_1:=q3h_ HB.out hx133_1));(try (replace hx133_2:=q3h_ HB.out hx133_2));replace p133:=eq_true p133;replace q133:=eq_true q133;(try go_wp2_with (first | ((with_reducible refine gate_dst (N:=5) rfl ?_);refine box_event ?hg (N:=5) ?hd (cs:=#[.int .i64 0,.int .i64 0,.int .i64 0]) (t:=47) ?hr ?_;(case hd=>rfl);(case hg=>rfl);(case hr=>exact ze_);intro gb134 hg w36 hbox hb;have n_:=z (blk_below (zb BK131.out) hb)<|z (below_step zbj_ hb)<|z (hbox)<|z ((by rw [hg];exact (below_size zbj_):w.heap.size≤gb134))<|z ((by rw [hg];exact (below_size zbj_):w.heap.size≤gb134))<|z ((by rw [hg];exact Nat.ne_of_lt (blk_lt (zb BK131.out)):gb131≠gb134))<|z1 ((by rw [hg];exact Nat.ne_of_gt (blk_lt (zb BK131.out)):gb134≠gb131));clear BK131 HB;obtain ⟨BK131,HB,BK134,GW134,GE134,NB131_134,NB134_131⟩:=n_;clear hb hbox hg;have hnb37:=NB134_131.out;have hnc37:=NB131_134.out;obtain ⟨hcz38_0,hcz38_1,hcz38_2,hfz38_0,hfz38_1,hfz38_2⟩:=zk3 BK134.out)));have pi138:(0≤((ji11):Int))=True:=eq_true (of_decide_eq_true za_);have qi138:((ji11)<(y135.length:Int))=True:=eq_true (of_decide_eq_true za_);have n0_:Aside0 ((((w36.setCell ⟨gb134,0,none⟩ (.int .i64 ((rd_T47 l0_1 x15_1).f0))).setCell ⟨gb134,1,none⟩ (.int .i64 ((rd_T47 l0_1 x15_1).f1))).setCell ⟨gb134,2,none⟩ (.int .i64 ((rd_T47 l0_1 x15_1).f2))).heap[gb131]?=some (.cells #[.int .i64 a0_0,.slice (some ad133) l0_1.length c0_1,.slice A0_2 l0_2.length c0_2] 31 (0,0))):=⟨by refine zb ?_;refine blk_far ?_ NB131_134.out _;refine zb ?_;refine blk_far ?_ NB131_134.out _;refine zb ?_;refine blk_far ?_ NB131_134.out _;refine zb ?_;exact BK131.out⟩;have n1_:Aside0 ((((w36.setCell ⟨gb134,0,none⟩ (.int .i64 ((rd_T47 l0_1 x15_1).f0))).setCell ⟨gb134,1,none⟩ (.int .i64 ((rd_T47 l0_1 x15_1).f1))).setCell ⟨gb134,2,none⟩ (.int .i64 ((rd_T47 l0_1 x15_1).f2))).heap[gb134]?=some (.cells #[.int .i64 ((rd_T47 l0_1 x15_1).f0),.int .i64 ((rd_T47 l0_1 x15_1).f1),.int .i64 ((rd_T47 l0_1 x15_1).f2)] 47 (0,0))):=⟨by refine zb ?_;refine blk_put (cs:=#[.int .i64 ((rd_T47 l0_1 x15_1).f0),.int .i64 ((rd_T47 l0_1 x15_1).f1),.int .i64 0]) ?_ 2 _ rfl;refine zb ?_;refine blk_put (cs:=#[.int .i64 ((rd_T47 l0_1 x15_1).f0),.int .i64 0,.int .i64 0]) ?_ 1 _ rfl;refine zb ?_;refine blk_put (cs:=#[.int .i64 0,.int .i64 0,.int .i64 0]) ?_ 0 _ rfl;refine zb ?_;exact BK134.out⟩;have n2_:Aside0 (Below w.heap.size w (((w36.setCell ⟨gb134,0,none⟩ (.int .i64 ((rd_T47 l0_1 x15_1).f0))).setCell ⟨gb134,1,none⟩ (.int .i64 ((rd_T47 l0_1 x15_1).f1))).setCell ⟨gb134,2,none⟩ (.int .i64 ((rd_T47 l0_1 x15_1).f2)))):=⟨zbf_⟩;(try clear BK131);(try clear BK134);(try clear HB);generalize (((w36.setCell ⟨gb134,0,none⟩ (.int .i64 ((rd_T47 l0_1 x15_1).f0))).setCell ⟨gb134,1,none⟩ (.int .i64 ((rd_T47 l0_1 x15_1).f1))).setCell ⟨gb134,2,none⟩ (.int .i64 ((rd_T47 l0_1 x15_1).f2)))=w39 at n0_ n1_ n2_ ⊢;have BK131:=n0_;have BK134:=n1_;have HB:=n2_;clear n0_ n1_ n2_;have n_:=z (blk_drew BK131.out)<|z (blk_drew BK134.out)<|z1 (p1 HB.out)
                clear BK131 BK134 HB;obtain ⟨BK131,BK134,HB⟩:=n_
                refine start_ (n:=14) (S:=fun w'=>True) (ds:=[]) #[fi,fi,fi,fi,fi,fi,fi,fi,fi,fi,fi,fi,fi,fi] (by kernel_rfl) rfl rfl trivial (fun hHeld=>?_);refine with_tabW spec_ciText.tab5 spec_ciText.bits5 (fun HT_ HW_=>?_)
                generalize w39.drew=w40 at BK131 BK134 HB hHeld ⊢;refine py_ 0 19 HT_.out ?_;refine py_ 2 21 HT_.out ?_;refine py_ 8 27 HT_.out ?_
                refine inv_at [1,3,4,5,6,7,9,10,11,12,13] (fun a0_ b a w' => ∃ (v136:Value) (adz_v136:Addr) (m5_:Value),a=putSel a0_ b [(1,20,v136),(3,22,.int .i64 ((rd_T47 l0_1 x15_1).f0)),(4,23,.int .i64 ji11),(5,24,m5_),(6,25,.string (rdOf ByteArray.empty y135 (ji11))),(7,26,.string ((rdOf ByteArray.empty y135 (ji11))++(⟨#[32]⟩:ByteArray))),(9,28,.int .i64 ((rd_T47 l0_1 x15_1).f1)),(10,29,.string t139),(11,30,.string (((rdOf ByteArray.empty y135 (ji11))++(⟨#[32]⟩:ByteArray))++t139)),(12,31,.string (x3_1++(((rdOf ByteArray.empty y135 (ji11))++(⟨#[32]⟩:ByteArray))++t139))),(13,3,.string (x3_1++(((rdOf ByteArray.empty y135 (ji11))++(⟨#[32]⟩:ByteArray))++t139)))]∧(w'.heap[gb131]?=some (.cells #[.int .i64 a0_0,.slice (some ad133) l0_1.length c0_1,.slice A0_2 l0_2.length c0_2] 31 (0,0)))∧(w'.heap[gb134]?=some (.cells #[.int .i64 ((rd_T47 l0_1 x15_1).f0),.int .i64 ((rd_T47 l0_1 x15_1).f1),.int .i64 ((rd_T47 l0_1 x15_1).f2)] 47 (0,0)))∧(Below w.heap.size w w')∧(b 1=true→Kd.R Kd.string 9 w' w.heap.size (fun _=>True) v136 y135)∧(b 1=true→∃ c_,(v136:Value) = .slice (some adz_v136) y135.length c_)∧(b 5=true→(m5_:Value) = .pointer (some (adz_v136.add ((ji11)).toNat)))) HT_.out HW_.out (by kernel_rfl) (by kernel_rfl) ?_ ?_ ?_
                ·exact ⟨.bool false,⟨0,0,none⟩,.bool false,by simp only [putSel,Bool.false_eq_true,if_false],BK131.out,BK134.out,HB.out,fun h_=>absurd h_ (by decide),fun h_=>absurd h_ (by decide),fun h_=>absurd h_ (by decide)⟩
                ·skip
                 clear BK131 BK134 HB
                 refine steps_cons ?_ ?_
                 ·rintro b a w' ⟨v136,adz_v136,m5_,ha,Q_BK131,Q_BK134,Q_HB,Q_HO137,Q_HA_HO137,Q_X5_⟩ hb_ hon hoff
                  refine ⟨_,rfl,fun K hK=>?_⟩
                  replace ha:=aM ha;have BK131:=aM Q_BK131;have BK134:=aM Q_BK134;have HB:=aM Q_HB
                  refine Kd.R_lit_step Kd.string _ 9 ?hg (N:=20) ?hd (xs:=([(⟨#[97,110,100]⟩:ByteArray),(⟨#[111,114]⟩:ByteArray),(⟨#[120,111,114]⟩:ByteArray),(⟨#[110,111,116]⟩:ByteArray)]:List ByteArray)) (inner:=[.string (⟨#[97,110,100]⟩:ByteArray),.string (⟨#[111,114]⟩:ByteArray),.string (⟨#[120,111,114]⟩:ByteArray),.string (⟨#[110,111,116]⟩:ByteArray)]) (ok:=fun _=>True) (okp:=fun _=>True) ?hr ?hp (fun _ hk=>hk) trivial (Below.refl _ _) (Nat.le_refl _) (by simp) ?_;(case hd=>rfl);(case hg=>rfl);(case hr=>exact ze_);(case hp=>exact (Reps.one (show Kd.M Kd.string _ _ _ (⟨#[97,110,100]⟩:ByteArray) [.string (⟨#[97,110,100]⟩:ByteArray)] from rfl) (Reps.one (show Kd.M Kd.string _ _ _ (⟨#[111,114]⟩:ByteArray) [.string (⟨#[111,114]⟩:ByteArray)] from rfl) (Reps.one (show Kd.M Kd.string _ _ _ (⟨#[120,111,114]⟩:ByteArray) [.string (⟨#[120,111,114]⟩:ByteArray)] from rfl) (Reps.one (show Kd.M Kd.string _ _ _ (⟨#[110,111,116]⟩:ByteArray) [.string (⟨#[110,111,116]⟩:ByteArray)] from rfl) (Reps.none _ _))))))
                  intro v136 w41 ho42 hb hg_ hnew_
                  clear hg_ hnew_;(first | rw [← Ny135.out] at ho42 | (simp only [Int.reduceToNat] at ho42;rw [← Ny135.out] at ho42));have n_:=z (Kd.R_lower ho42 (below_size zbf_))<|z (blk_below (zb BK131.out) hb)<|z (blk_below (g:=gb134) (o := .cells #[.int .i64 ((rd_T47 l0_1 x15_1).f0),.int .i64 ((rd_T47 l0_1 x15_1).f1),.int .i64 ((rd_T47 l0_1 x15_1).f2)] 47 (0,0)) (zb BK134.out) hb)<|z1 (below_step zbf_ hb)
                  clear BK131 BK134 HB;obtain ⟨HO137,BK131,BK134,HB⟩:=n_;clear hb ho42;obtain ⟨Ao43,co43,eo43⟩:=Kd.R_slice HO137.out;subst eo43;obtain ⟨ado43,fo43,_⟩:=Kd.at_string (Kd.R_reads' HO137.out).2.2 0 (by decide) (by rw [Ny135.out];simp)
                  cases fo43
                  refine hK.out _ _ ⟨.slice (some ado43) y135.length co43,ado43,m5_,(by rw [ha.out];exact putSel_upk 0 hb_ rfl rfl rfl),(zb BK131.out),(zb BK134.out),zbf_,fun _=>(zr HO137.out),fun _=>⟨_,rfl⟩,fun h0_=>absurd ((hoff 5 (by kernel_rfl)).symm.trans h0_) (by decide)⟩
                 refine steps_cons ?_ ?_
                 ·rintro b a w' ⟨v136,adz_v136,m5_,ha,Q_BK131,Q_BK134,Q_HB,Q_HO137,Q_HA_HO137,Q_X5_⟩ hb_ hon hoff
                  refine ⟨_,rfl,fun K hK=>?_⟩
                  have e21:a.tmps[21]?=some (.pointer (some ⟨gb134,0,none⟩)):=by rw [ha];exact (putSel_off rfl).trans rfl
                  replace ha:=aM ha;have BK131:=aM Q_BK131;have BK134:=aM Q_BK134;have HB:=aM Q_HB;have hc0_:w'.cell? ⟨gb134,0,none⟩=some (.int .i64 ((rd_T47 l0_1 x15_1).f0)):=(blk_cell BK134.out 0).trans rfl;have hc1_:w'.cell? ⟨gb134,1,none⟩=some (.int .i64 ((rd_T47 l0_1 x15_1).f1)):=(blk_cell BK134.out 1).trans rfl;have hc2_:w'.cell? ⟨gb134,2,none⟩=some (.int .i64 ((rd_T47 l0_1 x15_1).f2)):=(blk_cell BK134.out 2).trans rfl
                  refine value_ (w1:=w') (v := .int .i64 ((rd_T47 l0_1 x15_1).f0)) (by rfl) rfl ?_ ?_
                  ·go_simp
                   (try simp only [i64_w]);(try rfl)
                  refine hK.out _ _ ⟨v136,adz_v136,m5_,(by rw [ha.out];exact putSel_upk 1 hb_ rfl rfl rfl),Q_BK131,Q_BK134,Q_HB,Q_HO137,Q_HA_HO137,fun h0_=>absurd ((hoff 5 (by kernel_rfl)).symm.trans h0_) (by decide)⟩
                 refine steps_cons ?_ ?_
                 ·rintro b a w' ⟨v136,adz_v136,m5_,ha,Q_BK131,Q_BK134,Q_HB,Q_HO137,Q_HA_HO137,Q_X5_⟩ hb_ hon hoff
                  refine ⟨_,rfl,fun K hK=>?_⟩
                  have e22:a.tmps[22]?=some (.int .i64 ((rd_T47 l0_1 x15_1).f0)):=by rw [ha];exact putSel_on (e:=(3,22,.int .i64 ((rd_T47 l0_1 x15_1).f0))) 1 rfl rfl (hon 3 (by kernel_rfl)) rfl
                  replace ha:=aM ha;have BK131:=aM Q_BK131;have BK134:=aM Q_BK134;have HB:=aM Q_HB
                  refine value_ (w1:=w') (v := .int .i64 ji11) (by rfl) rfl ?_ ?_
                  ·go_simp
                   (try simp only [i64_w]);(try rfl)
                  refine hK.out _ _ ⟨v136,adz_v136,m5_,(by rw [ha.out];exact putSel_upk 2 hb_ rfl rfl rfl),Q_BK131,Q_BK134,Q_HB,Q_HO137,Q_HA_HO137,fun h0_=>absurd ((hoff 5 (by kernel_rfl)).symm.trans h0_) (by decide)⟩
                 refine steps_cons ?_ ?_
                 ·rintro b a w' ⟨v136,adz_v136,m5_,ha,Q_BK131,Q_BK134,Q_HB,Q_HO137,Q_HA_HO137,Q_X5_⟩ hb_ hon hoff
                  refine ⟨_,rfl,fun K hK=>?_⟩
                  have e20:a.tmps[20]?=some (v136):=by rw [ha];exact putSel_on (e:=(1,20,v136)) 0 rfl rfl (hon 1 (by kernel_rfl)) rfl
                  have e23:a.tmps[23]?=some (.int .i64 ji11):=by rw [ha];exact putSel_on (e:=(4,23,.int .i64 ji11)) 2 rfl rfl (hon 4 (by kernel_rfl)) rfl
                  replace ha:=aM ha;have BK131:=aM Q_BK131;have BK134:=aM Q_BK134;have HB:=aM Q_HB;have HO137:=aM (Q_HO137 (hon 1 (by kernel_rfl)));have HA_HO137:=aM (Q_HA_HO137 (hon 1 (by kernel_rfl)));obtain ⟨c_,hv_⟩:=HA_HO137.out;rw [hv_] at e20
                  refine value_ (w1:=w') (v := .pointer (some (adz_v136.add ((ji11)).toNat))) (by rfl) rfl ?_ ?_
                  ·go_simp
                   (try simp only [i64_w]);(try rfl)
                  refine hK.out _ _ ⟨v136,adz_v136,(.pointer (some (adz_v136.add ((ji11)).toNat))),(by rw [ha.out];exact putSel_upk 3 hb_ rfl rfl rfl),Q_BK131,Q_BK134,Q_HB,Q_HO137,Q_HA_HO137,fun _=>rfl⟩
                 refine steps_cons ?_ ?_
                 ·rintro b a w' ⟨v136,adz_v136,m5_,ha,Q_BK131,Q_BK134,Q_HB,Q_HO137,Q_HA_HO137,Q_X5_⟩ hb_ hon hoff
                  refine ⟨_,rfl,fun K hK=>?_⟩
                  have e24:a.tmps[24]?=some (m5_):=by rw [ha];exact putSel_on (e:=(5,24,m5_)) 3 rfl rfl (hon 5 (by kernel_rfl)) rfl
                  rw [Q_X5_ (hon 5 (by kernel_rfl))] at e24;replace ha:=aM ha;have BK131:=aM Q_BK131;have BK134:=aM Q_BK134;have HB:=aM Q_HB;have HO137:=aM (Q_HO137 (hon 1 (by kernel_rfl)));have HA_HO137:=aM (Q_HA_HO137 (hon 1 (by kernel_rfl)));obtain ⟨c_,hv_⟩:=HA_HO137.out;have hF_:=HO137.out;rw [hv_] at hF_;obtain ⟨ad_,ea_,hx_⟩:=Kd.at_string (Kd.R_reads' hF_).2.2 (ji11) (of_eq_true pi138) (of_eq_true qi138)
                  cases ea_
                  refine value_ (w1:=w') (v := .string (rdOf ByteArray.empty y135 (ji11))) (by rfl) rfl ?_ ?_
                  ·go_simp
                   (try simp only [i64_w]);(try rfl)
                  refine hK.out _ _ ⟨v136,adz_v136,m5_,(by rw [ha.out];exact putSel_upk 4 hb_ rfl rfl rfl),Q_BK131,Q_BK134,Q_HB,Q_HO137,Q_HA_HO137,Q_X5_⟩
                 refine steps_cons ?_ ?_
                 ·rintro b a w' ⟨v136,adz_v136,m5_,ha,Q_BK131,Q_BK134,Q_HB,Q_HO137,Q_HA_HO137,Q_X5_⟩ hb_ hon hoff
                  refine ⟨_,rfl,fun K hK=>?_⟩
                  have e25:a.tmps[25]?=some (.string (rdOf ByteArray.empty y135 (ji11))):=by rw [ha];exact putSel_on (e:=(6,25,.string (rdOf ByteArray.empty y135 (ji11)))) 4 rfl rfl (hon 6 (by kernel_rfl)) rfl
                  replace ha:=aM ha;have BK131:=aM Q_BK131;have BK134:=aM Q_BK134;have HB:=aM Q_HB;have HO137:=aM (Q_HO137 (hon 1 (by kernel_rfl)));have HA_HO137:=aM (Q_HA_HO137 (hon 1 (by kernel_rfl)))
                  refine value_ (w1:=w') (v := .string ((rdOf ByteArray.empty y135 (ji11))++(⟨#[32]⟩:ByteArray))) (by rfl) rfl ?_ ?_
                  ·go_simp
                   (try simp only [i64_w]);(try rfl)
                  refine hK.out _ _ ⟨v136,adz_v136,m5_,(by rw [ha.out];exact putSel_upk 5 hb_ rfl rfl rfl),Q_BK131,Q_BK134,Q_HB,Q_HO137,Q_HA_HO137,Q_X5_⟩
                 refine steps_cons ?_ ?_
                 ·rintro b a w' ⟨v136,adz_v136,m5_,ha,Q_BK131,Q_BK134,Q_HB,Q_HO137,Q_HA_HO137,Q_X5_⟩ hb_ hon hoff
                  refine ⟨_,rfl,fun K hK=>?_⟩
                  have e27:a.tmps[27]?=some (.pointer (some ⟨gb134,1,none⟩)):=by rw [ha];exact (putSel_off rfl).trans rfl
                  replace ha:=aM ha;have BK131:=aM Q_BK131;have BK134:=aM Q_BK134;have HB:=aM Q_HB;have hc0_:w'.cell? ⟨gb134,0,none⟩=some (.int .i64 ((rd_T47 l0_1 x15_1).f0)):=(blk_cell BK134.out 0).trans rfl;have hc1_:w'.cell? ⟨gb134,1,none⟩=some (.int .i64 ((rd_T47 l0_1 x15_1).f1)):=(blk_cell BK134.out 1).trans rfl;have hc2_:w'.cell? ⟨gb134,2,none⟩=some (.int .i64 ((rd_T47 l0_1 x15_1).f2)):=(blk_cell BK134.out 2).trans rfl
                  refine value_ (w1:=w') (v := .int .i64 ((rd_T47 l0_1 x15_1).f1)) (by rfl) rfl ?_ ?_
                  ·go_simp
                   (try simp only [i64_w]);(try rfl)
                  refine hK.out _ _ ⟨v136,adz_v136,m5_,(by rw [ha.out];exact putSel_upk 6 hb_ rfl rfl rfl),Q_BK131,Q_BK134,Q_HB,Q_HO137,Q_HA_HO137,Q_X5_⟩
                 refine steps_cons ?_ ?_
                 ·rintro b a w' ⟨v136,adz_v136,m5_,ha,Q_BK131,Q_BK134,Q_HB,Q_HO137,Q_HA_HO137,Q_X5_⟩ hb_ hon hoff
                  refine ⟨_,rfl,fun K hK=>?_⟩
                  have e28:a.tmps[28]?=some (.int .i64 ((rd_T47 l0_1 x15_1).f1)):=by rw [ha];exact putSel_on (e:=(9,28,.int .i64 ((rd_T47 l0_1 x15_1).f1))) 6 rfl rfl (hon 9 (by kernel_rfl)) rfl
                  replace ha:=aM ha;have BK131:=aM Q_BK131;have BK134:=aM Q_BK134;have HB:=aM Q_HB
                  refine goes_ Tryd.func39 (by kernel_rfl) rfl #[.int .i64 ((rd_T47 l0_1 x15_1).f1)] (by rfl) rfl rfl (by first | (simp only [mT,mC,mN,Act.eval,Array.getD_eq_getD_getElem?,Option.getD_some,e28];done)|(simp only [mT,mC,mN,Act.eval,Array.getD_eq_getD_getElem?,Option.getD_some,e28];rfl)) ?_
                  with_reducible refine (spec_l1Num.calls k1 ((rd_T47 l0_1 x15_1).f1) t139 _ A15.out).mono ?_
                  rintro e w41 ⟨rfl,hb⟩
                  refine ⟨_,rfl,?_⟩
                  have n0_:=aM (blk_below (zb BK131.out) hb);have n1_:=aM (blk_below (g:=gb134) (o := .cells #[.int .i64 ((rd_T47 l0_1 x15_1).f0),.int .i64 ((rd_T47 l0_1 x15_1).f1),.int .i64 ((rd_T47 l0_1 x15_1).f2)] 47 (0,0)) (zb BK134.out) hb);have n2_:=aM (below_step zbf_ hb);have z_HO137:=fun (h0_:b 1=true)=>(show Kd.R Kd.string 9 w41 w.heap.size (fun _=>True) v136 y135 from by first | exact (Kd.R_below (zr (Q_HO137 h0_)) hb) | exact Kd.R_mono (Kd.R_below (zr (Q_HO137 h0_)) hb) (fun _ h_=>by first | trivial | exact h_ | exact h_.1))
                  clear BK131 BK134 HB;have BK131:=n0_;have BK134:=n1_;have HB:=n2_;clear n0_ n1_ n2_;(try clear hb);(try clear hb2);(try clear hk);(try clear hi)
                  refine hK.out _ _ ⟨v136,adz_v136,m5_,(by rw [ha.out];exact putSel_upk 7 hb_ rfl rfl rfl),(zb BK131.out),(zb BK134.out),zbf_,z_HO137,Q_HA_HO137,Q_X5_⟩
                 refine steps_cons ?_ ?_
                 ·rintro b a w' ⟨v136,adz_v136,m5_,ha,Q_BK131,Q_BK134,Q_HB,Q_HO137,Q_HA_HO137,Q_X5_⟩ hb_ hon hoff
                  refine ⟨_,rfl,fun K hK=>?_⟩
                  have e26:a.tmps[26]?=some (.string ((rdOf ByteArray.empty y135 (ji11))++(⟨#[32]⟩:ByteArray))):=by rw [ha];exact putSel_on (e:=(7,26,.string ((rdOf ByteArray.empty y135 (ji11))++(⟨#[32]⟩:ByteArray)))) 5 rfl rfl (hon 7 (by kernel_rfl)) rfl
                  have e29:a.tmps[29]?=some (.string t139):=by rw [ha];exact putSel_on (e:=(10,29,.string t139)) 7 rfl rfl (hon 10 (by kernel_rfl)) rfl
                  replace ha:=aM ha;have BK131:=aM Q_BK131;have BK134:=aM Q_BK134;have HB:=aM Q_HB;have HO137:=aM (Q_HO137 (hon 1 (by kernel_rfl)));have HA_HO137:=aM (Q_HA_HO137 (hon 1 (by kernel_rfl)))
                  refine value_ (w1:=w') (v := .string (((rdOf ByteArray.empty y135 (ji11))++(⟨#[32]⟩:ByteArray))++t139)) (by rfl) rfl ?_ ?_
                  ·go_simp
                   (try simp only [i64_w]);(try rfl)
                  refine hK.out _ _ ⟨v136,adz_v136,m5_,(by rw [ha.out];exact putSel_upk 8 hb_ rfl rfl rfl),Q_BK131,Q_BK134,Q_HB,Q_HO137,Q_HA_HO137,Q_X5_⟩
                 refine steps_cons ?_ ?_
                 ·rintro b a w' ⟨v136,adz_v136,m5_,ha,Q_BK131,Q_BK134,Q_HB,Q_HO137,Q_HA_HO137,Q_X5_⟩ hb_ hon hoff
                  refine ⟨_,rfl,fun K hK=>?_⟩
                  have e19:a.tmps[19]?=some (.string x3_1):=by rw [ha];exact (putSel_off rfl).trans rfl
                  have e30:a.tmps[30]?=some (.string (((rdOf ByteArray.empty y135 (ji11))++(⟨#[32]⟩:ByteArray))++t139)):=by rw [ha];exact putSel_on (e:=(11,30,.string (((rdOf ByteArray.empty y135 (ji11))++(⟨#[32]⟩:ByteArray))++t139))) 8 rfl rfl (hon 11 (by kernel_rfl)) rfl
                  replace ha:=aM ha;have BK131:=aM Q_BK131;have BK134:=aM Q_BK134;have HB:=aM Q_HB;have HO137:=aM (Q_HO137 (hon 1 (by kernel_rfl)));have HA_HO137:=aM (Q_HA_HO137 (hon 1 (by kernel_rfl)))
                  refine value_ (w1:=w') (v := .string (x3_1++(((rdOf ByteArray.empty y135 (ji11))++(⟨#[32]⟩:ByteArray))++t139))) (by rfl) rfl ?_ ?_
                  ·go_simp
                   (try simp only [i64_w]);(try rfl)
                  refine hK.out _ _ ⟨v136,adz_v136,m5_,(by rw [ha.out];exact putSel_upk 9 hb_ rfl rfl rfl),Q_BK131,Q_BK134,Q_HB,Q_HO137,Q_HA_HO137,Q_X5_⟩
                 refine steps_cons ?_ ?_
                 ·rintro b a w' ⟨v136,adz_v136,m5_,ha,Q_BK131,Q_BK134,Q_HB,Q_HO137,Q_HA_HO137,Q_X5_⟩ hb_ hon hoff
                  refine ⟨_,rfl,fun K hK=>?_⟩
                  have e31:a.tmps[31]?=some (.string (x3_1++(((rdOf ByteArray.empty y135 (ji11))++(⟨#[32]⟩:ByteArray))++t139))):=by rw [ha];exact putSel_on (e:=(12,31,.string (x3_1++(((rdOf ByteArray.empty y135 (ji11))++(⟨#[32]⟩:ByteArray))++t139)))) 9 rfl rfl (hon 12 (by kernel_rfl)) rfl
                  replace ha:=aM ha;have BK131:=aM Q_BK131;have BK134:=aM Q_BK134;have HB:=aM Q_HB;have HO137:=aM (Q_HO137 (hon 1 (by kernel_rfl)));have HA_HO137:=aM (Q_HA_HO137 (hon 1 (by kernel_rfl)))
                  refine value_ (w1:=w') (v := .string (x3_1++(((rdOf ByteArray.empty y135 (ji11))++(⟨#[32]⟩:ByteArray))++t139))) (by rfl) rfl ?_ ?_
                  ·go_simp
                   (try simp only [i64_w]);(try rfl)
                  refine hK.out _ _ ⟨v136,adz_v136,m5_,(by rw [ha.out];exact putSel_upk 10 hb_ rfl rfl rfl),Q_BK131,Q_BK134,Q_HB,Q_HO137,Q_HA_HO137,Q_X5_⟩
                 exact steps_nil
                rintro b a w45 hall ⟨v136,adz_v136,m5_,ha,Q_BK131,Q_BK134,Q_HB,Q_HO137,Q_HA_HO137,Q_X5_⟩
                clear BK131 BK134 HB;have hb1_:=hall 1 (by kernel_rfl);have hb3_:=hall 3 (by kernel_rfl);have hb4_:=hall 4 (by kernel_rfl);have hb5_:=hall 5 (by kernel_rfl);have hb6_:=hall 6 (by kernel_rfl);have hb7_:=hall 7 (by kernel_rfl);have hb9_:=hall 9 (by kernel_rfl);have hb10_:=hall 10 (by kernel_rfl);have hb11_:=hall 11 (by kernel_rfl);have hb12_:=hall 12 (by kernel_rfl);have hb13_:=hall 13 (by kernel_rfl);subst ha;obtain rfl:=Q_X5_ hb5_
                simp only [putSel,hb1_,hb3_,hb4_,hb5_,hb6_,hb7_,hb9_,hb10_,hb11_,hb12_,hb13_,if_true,Act.put,sI,s0,sS]
                have BK131:=aM Q_BK131;clear Q_BK131;have BK134:=aM Q_BK134;clear Q_BK134;have HB:=aM Q_HB;clear Q_HB;have HO137:=aM (Q_HO137 hb1_);clear Q_HO137;have HA_HO137:=aM (Q_HA_HO137 hb1_);clear Q_HA_HO137 hall hb1_ hb3_ hb4_ hb5_ hb6_ hb7_ hb9_ hb10_ hb11_ hb12_ hb13_;obtain ⟨co46,eo46⟩:=HA_HO137.out;clear HA_HO137;subst eo46;obtain ⟨hcz47_0,hcz47_1,hcz47_2,hfz47_0,hfz47_1,hfz47_2⟩:=zk3 BK134.out;(try go_wp2_with (first | ((with_reducible refine gate_callee (f:=39) rfl ?_);refine goesL_ (some 38) rfl rfl Tryd.func39 (by kernel_rfl) rfl #[.int .i64 ((rd_T47 l0_1 x15_1).f2)] rfl zd_ ?_;(with_reducible refine (spec_l1Num.calls k1 ((rd_T47 l0_1 x15_1).f2) t140 _ A32.out).mono ?_);rintro e w48 ⟨rfl,hb⟩;refine ⟨_,rfl,?_⟩;have n_:=z (Kd.R_below (zr HO137.out) hb)<|z (blk_below (zb BK131.out) hb)<|z (blk_below (g:=gb134) (o := .cells #[.int .i64 ((rd_T47 l0_1 x15_1).f0),.int .i64 ((rd_T47 l0_1 x15_1).f1),.int .i64 ((rd_T47 l0_1 x15_1).f2)] 47 (0,0)) (zb BK134.out) hb)<|z1 (below_step zbf_ hb);clear HO137 BK131 BK134 HB;obtain ⟨HO137,BK131,BK134,HB⟩:=n_;clear hb)))
                go_roundg k1
                case measure=>have:=HK1.out;omega
                case rel=>exact ⟨(((x3_1++(((rdOf ByteArray.empty y135 (ji11))++(⟨#[32]⟩:ByteArray))++t139))++((⟨#[32]⟩:ByteArray)++t140))++(⟨#[10]⟩:ByteArray)),(wrap64 (x15_1+1)),(by first | rfl | (simp;done)|(simp only [← hji11] <;> (first | rfl | simp))|(simp [*];done)),zc_,H',⟨zbd_⟩,⟨zb BK131.out⟩,⟨zbf_⟩⟩
               ·rw [if_neg c35] at H
                exact q3n_ H
              ·rw [if_neg c34] at H
               exact q3n_ H
             ·rw [if_neg c33] at H
              exact q3n_ H
           ·rw [if_neg c17] at H
            exact q3n_ H
          ·rw [if_neg c16] at H
           exact q3n_ H
         ·rw [if_neg c14] at H
          exact q3n_ H
        ·rw [if_neg c13] at H
         exact q3n_ H
       ·rw [if_neg c12] at H
        exact q3n_ H
      ·rw [if_neg c10] at H
       exact q3n_ H
     ·rw [if_neg c9] at H
      exact q3n_ H
    ·rw [if_neg c8] at H
     have c8b0:=decide_eq_false c8;clear c8
     by_cases c49:x3_1.size+3≤9223372036854775807
     ·rw [if_pos c49] at H
      have c49b0:=eq_true c49;have c49b1:=decide_eq_true c49;(try have c49b2:(9223372036854775807<x3_1.size+3)=False:=eq_false (Nat.not_lt.2 c49));have H':=aM H;clear H;obtain ⟨hcz50_0,hcz50_1,hcz50_2,hfz50_0,hfz50_1,hfz50_2⟩:=zk3 BK131.out
      go_wp2
      go_loopg [3,49] k1 (fun kq v3 v49 w' => ∃ (x3_2:ByteArray) (x49_2:Int),v3 = .string x3_2∧v49 = .int .i64 x49_2∧Aside0 (spec_ciText.l1 kq x3_2 l0_2 (l0_2.length:Int) x49_2=some r)∧Aside0 (kq≤k1)∧Aside0 (w'.heap[gb131]?=some (.cells #[.int .i64 a0_0,(.slice A0_1 l0_1.length c0_1),(.slice A0_2 l0_2.length c0_2)] 31 (0,0)))∧Aside0 (Below w.heap.size w w'))
      case atStart=>exact ⟨(x3_1++(⟨#[111,117,116]⟩:ByteArray)),(0),zc_,zc_,H',⟨Nat.le_refl _⟩,⟨zb BK131.out⟩,⟨zbj_⟩⟩
      case round =>
       clear H';(try clear c8b0);(try clear c49);(try clear c49b0);(try clear c49b1);(try clear c49b2);(try clear hcz50_0);(try clear hcz50_1);(try clear hcz50_2);(try clear hfz50_0);(try clear hfz50_1);(try clear hfz50_2);obtain ⟨x3_2,x49_2,rfl,rfl,HA,HK2,BK131,HB⟩:=hrel
       cases gk with
       | zero=>exact absurd HA.out (by simp [spec_ciText.l1])
       | succ k2 =>
        have H:=HA.out;clear HA
        simp only [spec_ciText.l1] at H
        by_cases c51:x49_2<(l0_2.length:Int)
        ·rw [if_pos c51] at H
         have c51b0:=decide_eq_true c51;clear c51
         by_cases c52:0≤x49_2
         ·rw [if_pos c52] at H
          have c52b0:=decide_eq_true c52;clear c52
          by_cases c53:x49_2<(l0_2.length:Int)
          ·rw [if_pos c53] at H
           have c53b0:=decide_eq_true c53;clear c53;replace H:=oB.mp H;obtain ⟨t142,A540,H⟩:=H;replace H:(if 1+t142.size≤9223372036854775807 then (if x3_2.size+((⟨#[32]⟩:ByteArray)++t142).size≤9223372036854775807 then (spec_ciText.l1 k2 (x3_2++((⟨#[32]⟩:ByteArray)++t142)) l0_2 (l0_2.length:Int) (wrap64 (x49_2+1))) else (none)) else (none))=some r:=H;have A54:=aM A540;clear A540
           by_cases c55:1+t142.size≤9223372036854775807
           ·rw [if_pos c55] at H
            have c55b0:=eq_true c55;have c55b1:=decide_eq_true c55;(try have c55b2:(9223372036854775807<1+t142.size)=False:=eq_false (Nat.not_lt.2 c55))
            by_cases c56:x3_2.size+((⟨#[32]⟩:ByteArray)++t142).size≤9223372036854775807
            ·rw [if_pos c56] at H
             have c56b0:=eq_true c56;have c56b1:=decide_eq_true c56;(try have c56b3:(x3_2.size+(1+t142.size)≤9223372036854775807)=True:=eq_true (by have h_:=c56;(repeat rw [ByteArray.size_append] at h_);exact h_));(try have c56b4:(9223372036854775807<x3_2.size+(1+t142.size))=False:=eq_false (by have h_:=c56;(repeat rw [ByteArray.size_append] at h_);exact Nat.not_lt.2 h_));(try have c56b2:(9223372036854775807<x3_2.size+((⟨#[32]⟩:ByteArray)++t142).size)=False:=eq_false (Nat.not_lt.2 c56));have H':=aM H;clear H;have p141:0≤(x49_2:Int):=of_decide_eq_true za_;have q141:x49_2<(l0_2.length:Int):=of_decide_eq_true za_;obtain ⟨ad141,e141,hx141_0⟩:=Kd.at_int HR0_2.out x49_2 p141 q141
             cases e141
             (try (replace hx141_0:=q3h_ HB.out hx141_0));replace p141:=eq_true p141;replace q141:=eq_true q141
             go_wp2_with (first | ((with_reducible refine gate_callee (f:=39) rfl ?_);refine goesL_ (some 55) rfl rfl Tryd.func39 (by kernel_rfl) rfl #[.int .i64 (rd l0_2 x49_2)] rfl zd_ ?_;(with_reducible refine (spec_l1Num.calls k2 (rd l0_2 x49_2) t142 _ A54.out).mono ?_);rintro e w57 ⟨rfl,hb⟩;refine ⟨_,rfl,?_⟩;have n_:=z (blk_below (zb BK131.out) hb)<|z1 (below_step zbj_ hb);clear BK131 HB;obtain ⟨BK131,HB⟩:=n_;clear hb))
             go_roundg k2
             case measure=>have:=HK1.out;have:=HK2.out;omega
             case rel=>exact ⟨(x3_2++((⟨#[32]⟩:ByteArray)++t142)),(wrap64 (x49_2+1)),zc_,zc_,H',⟨by have:=HK1.out;have:=HK2.out;omega⟩,⟨zb BK131.out⟩,⟨zbj_⟩⟩
            ·rw [if_neg c56] at H
             exact q3n_ H
           ·rw [if_neg c55] at H
            exact q3n_ H
          ·rw [if_neg c53] at H
           exact q3n_ H
         ·rw [if_neg c52] at H
          exact q3n_ H
        ·rw [if_neg c51] at H
         have c51b0:=decide_eq_false c51;clear c51
         by_cases c58:x3_2.size+1≤9223372036854775807
         ·rw [if_pos c58] at H
          have c58b0:=eq_true c58;have c58b1:=decide_eq_true c58;(try have c58b2:(9223372036854775807<x3_2.size+1)=False:=eq_false (Nat.not_lt.2 c58));obtain rfl:=Option.some.inj H
          go_wp2
          go_ret
          exact ⟨zf_,zbj_⟩
         ·rw [if_neg c58] at H
          exact q3n_ H
     ·rw [if_neg c49] at H
      exact q3n_ H
 ·rw [if_neg c3] at H
  exact q3n_ H
def spec_l1Split.l0:Nat→ByteArray→Int→List ByteArray→Int→Int→Option (List ByteArray)
 | 0,_,_,_,_,_=>none
 | k+1,x0,x1,x5,x6,x7=>if x7<(x0.size:Int) then (if 0≤x7 then (if (bt x0 x7)=x1 then (if 0≤x6 then (if x6≤x7 then (if x7≤(x0.size:Int) then (if x5.length<8796093022208 then (spec_l1Split.l0 k x0 x1 (x5 ++ [x0.extract (x6:Int).toNat (x7:Int).toNat]) (wrap64 (x7+1)) (wrap64 (x7+1))) else (none)) else (none)) else (none)) else (none)) else (spec_l1Split.l0 k x0 x1 x5 x6 (wrap64 (x7+1)))) else (none)) else (if 0≤x6 then (if x6≤(x0.size:Int) then (if x5.length<8796093022208 then (some (x5 ++ [x0.extract (x6:Int).toNat x0.size])) else (none)) else (none)) else (none))
def spec_l1Split.f (k:Nat) (a0:ByteArray) (a1:Int):Option (List ByteArray):=spec_l1Split.l0 k a0 a1 ([]:List ByteArray) 0 0
theorem spec_l1Split.mono_l:∀ k,(∀ y0 y1 y2 y3 y4,LeO (spec_l1Split.l0 k y0 y1 y2 y3 y4) (spec_l1Split.l0 (k+1) y0 y1 y2 y3 y4))
 | 0=>fun _ _ _ _ _ r h=>by simp [spec_l1Split.l0] at h
 | k+1=>by
  have ih0:=spec_l1Split.mono_l k
  ·intro y0 y1 y2 y3 y4
   unfold spec_l1Split.l0
   repeat' first
   | (with_reducible exact ih0 _ _ _ _ _)
   | (with_reducible exact LeO.refl _)
   | (with_reducible exact LeO.none _)
   | (with_reducible refine LeO.ite ?_ ?_)
   | (with_reducible refine LeO.bind ?_ (fun _=>?_))
   | exact ih0 _ _ _ _ _
   | exact LeO.none _
   | refine LeO.ite ?_ ?_
   | refine LeO.bind ?_ (fun _=>?_)
theorem spec_l1Split.mono:∀ a0 a1 k,LeO (spec_l1Split.f k a0 a1) (spec_l1Split.f (k+1) a0 a1):=by
 intro a0 a1 k
 have ih0:=spec_l1Split.mono_l k
 unfold spec_l1Split.f
 repeat' first
   | (with_reducible exact ih0 _ _ _ _ _)
   | (with_reducible exact LeO.refl _)
   | (with_reducible exact LeO.none _)
   | (with_reducible refine LeO.ite ?_ ?_)
   | (with_reducible refine LeO.bind ?_ (fun _=>?_))
   | exact ih0 _ _ _ _ _
   | exact LeO.none _
   | refine LeO.ite ?_ ?_
   | refine LeO.bind ?_ (fun _=>?_)
theorem spec_l1Split.calls (k:Nat) (a0:ByteArray) (a1:Int) (r:List ByteArray) (w:World) (h:spec_l1Split.f k a0 a1=some r) :
  Calls Tryd.prog 25 #[.string a0,.int .u8 a1] w fun e w' => ∃ v0_:Value,e = .returned (v0_)∧Kd.R Kd.string 9 w' w.heap.size (fun _=>True) v0_ r∧Below w.heap.size w w':=by
 have HB:=aM (Below.refl w.heap.size w)
 have H:(spec_l1Split.l0 k a0 a1 ([]:List ByteArray) 0 0)=some r:=h
 clear h
 have H':=aM H
 clear H
 go_enter Tryd.func25,Tryd.ntmps25
 go_wp2
 go_loopg [5,6,7] k (fun kq v5 v6 v7 w' => ∃ (x5_1:List ByteArray) (x6_1:Int) (x7_1:Int),v6 = .int .i64 x6_1∧v7 = .int .i64 x7_1∧Aside0 (spec_l1Split.l0 kq a0 a1 x5_1 x6_1 x7_1=some r)∧Aside0 (kq≤k)∧Aside0 (Kd.R Kd.string 9 w' w.heap.size (fun _=>True) v5 x5_1)∧Aside0 (Below w.heap.size w w'))
 case atStart=>exact ⟨(([]:List ByteArray)),(0),(0),zc_,zc_,H',⟨Nat.le_refl _⟩,⟨zi_⟩,⟨zb_⟩⟩
 case round =>
  clear H';obtain ⟨x5_1,x6_1,x7_1,rfl,rfl,HA,HK1,HO_5,HB⟩:=hrel
  cases gk with
  | zero=>exact absurd HA.out (by simp [spec_l1Split.l0])
  | succ k1 =>
   have H:=HA.out;clear HA
   simp only [spec_l1Split.l0] at H
   by_cases c3:x7_1<(a0.size:Int)
   ·rw [if_pos c3] at H
    have c3b0:=decide_eq_true c3;clear c3
    by_cases c4:0≤x7_1
    ·rw [if_pos c4] at H
     have c4b0:=decide_eq_true c4;clear c4
     by_cases c6:(bt a0 x7_1)=a1
     ·rw [if_pos c6] at H
      have c6b0:=beq_iff_eq.mpr c6;have c6b1:=bne_eq_false_iff_eq.mpr c6;clear c6
      by_cases c7:0≤x6_1
      ·rw [if_pos c7] at H
       have c7b0:=eq_true c7;have c7b1:=decide_eq_true c7;clear c7
       by_cases c8:x6_1≤x7_1
       ·rw [if_pos c8] at H
        have c8b0:=eq_true c8;have c8b1:=decide_eq_true c8;clear c8
        by_cases c9:x7_1≤(a0.size:Int)
        ·rw [if_pos c9] at H
         have c9b0:=eq_true c9;have c9b1:=decide_eq_true c9;clear c9
         by_cases c10:x5_1.length<8796093022208
         ·rw [if_pos c10] at H
          have LMc10:=aM c10;clear c10;obtain ⟨y143,hy143⟩:∃ y_:List ByteArray,y_=(x5_1 ++ [a0.extract (x6_1:Int).toNat (x7_1:Int).toNat]):=⟨_,rfl⟩;replace H:(spec_l1Split.l0 k1 a0 a1 y143 (wrap64 (x7_1+1)) (wrap64 (x7_1+1)))=some r:=q3y_ hy143 H
          have Ny143:=aM hy143;clear hy143;have H':=aM H;clear H;have p5:0≤(x7_1:Int):=of_decide_eq_true za_;have q5:x7_1<(a0.size:Int):=of_decide_eq_true za_;have hx5:=bt_at a0 x7_1;replace p5:=eq_true p5;replace q5:=eq_true q5
          go_wp2_with (first | ((with_reducible refine gate_builtin (b := .append) (xs:=#[.tmp 19,.tmp 24]) rfl ?_);at_builtin;refine Kd.R_append Kd.string (w0:=w) w.heap.size rfl (.tmp 19) (.tmp 24) 52 9 (.string ⟨#[]⟩) 16 rfl Tryd.underlying52 info9 rfl (by decide) (by omega) u5 x5_1 (a0.extract (x6_1:Int).toNat (x7_1:Int).toNat) [.string (a0.extract (x6_1:Int).toNat (x7_1:Int).toNat)] (fun _=>True) (fun _=>False) rfl rfl ?aP (fun _ hk=>hk.elim) ?aF ?aO ?aB ?aS ?aL ?_;(case aP=>exact rfl);(case aB=>exact zb_);(case aF=>exact zdf_);(case aO=>exact (zr HO_5.out));(case aS=>exact (below_size zb_));(case aL=>have:=LMc10.out;omega);intro v144 w11 ho hb hg hat;rw [← Ny143.out] at ho;have n_:=z (hb)<|z1 (ho);clear HB HO_5;obtain ⟨HB,HO145⟩:=n_;clear ho hb hg hat))
          go_roundg k1
          case measure=>have:=HK1.out;omega
          case rel=>exact ⟨(y143),(wrap64 (x7_1+1)),(wrap64 (x7_1+1)),zc_,zc_,H',⟨zbd_⟩,⟨zr HO145.out⟩,⟨zb_⟩⟩
         ·rw [if_neg c10] at H
          exact q3n_ H
        ·rw [if_neg c9] at H
         exact q3n_ H
       ·rw [if_neg c8] at H
        exact q3n_ H
      ·rw [if_neg c7] at H
       exact q3n_ H
     ·rw [if_neg c6] at H
      have c6b0:=beq_eq_false_iff_ne.mpr c6;have c6b1:=bne_iff_ne.mpr c6;have H':=aM H;clear H;have p5:0≤(x7_1:Int):=of_decide_eq_true za_;have q5:x7_1<(a0.size:Int):=of_decide_eq_true za_;have hx5:=bt_at a0 x7_1;replace p5:=eq_true p5;replace q5:=eq_true q5
      go_wp2
      go_roundg k1
      case measure=>have:=HK1.out;omega
      case rel=>exact ⟨(x5_1),(x6_1),(wrap64 (x7_1+1)),zc_,zc_,H',⟨zbd_⟩,⟨zr HO_5.out⟩,⟨zb_⟩⟩
    ·rw [if_neg c4] at H
     exact q3n_ H
   ·rw [if_neg c3] at H
    have c3b0:=decide_eq_false c3;clear c3
    by_cases c12:0≤x6_1
    ·rw [if_pos c12] at H
     have c12b0:=eq_true c12;have c12b1:=decide_eq_true c12;clear c12
     by_cases c13:x6_1≤(a0.size:Int)
     ·rw [if_pos c13] at H
      have c13b0:=eq_true c13;have c13b1:=decide_eq_true c13;clear c13
      by_cases c14:x5_1.length<8796093022208
      ·rw [if_pos c14] at H
       have LMc14:=aM c14;clear c14;obtain ⟨y146,hy146⟩:∃ y_:List ByteArray,y_=(x5_1 ++ [a0.extract (x6_1:Int).toNat a0.size]):=⟨_,rfl⟩;replace H:(some y146)=some r:=q3y_ hy146 H
       have Ny146:=aM hy146;clear hy146;obtain rfl:=Option.some.inj H
       go_wp2_with (first | ((with_reducible refine gate_builtin (b := .append) (xs:=#[.tmp 28,.tmp 32]) rfl ?_);at_builtin;refine Kd.R_append Kd.string (w0:=w) w.heap.size rfl (.tmp 28) (.tmp 32) 52 9 (.string ⟨#[]⟩) 16 rfl Tryd.underlying52 info9 rfl (by decide) (by omega) u5 x5_1 (a0.extract (x6_1:Int).toNat a0.size) [.string (a0.extract (x6_1:Int).toNat a0.size)] (fun _=>True) (fun _=>False) rfl rfl ?aP (fun _ hk=>hk.elim) ?aF ?aO ?aB ?aS ?aL ?_;(case aP=>exact rfl);(case aB=>exact zb_);(case aF=>exact zdf_);(case aO=>exact (zr HO_5.out));(case aS=>exact (below_size zb_));(case aL=>have:=LMc14.out;omega);intro v147 w15 ho hb hg hat;rw [← Ny146.out] at ho;have n_:=z (hb)<|z1 (ho);clear HB HO_5;obtain ⟨HB,HO148⟩:=n_;clear ho hb hg hat))
       go_ret
       exact ⟨_,zf_,by refine zr ?_;exact HO148.out,zb_⟩
      ·rw [if_neg c14] at H
       exact q3n_ H
     ·rw [if_neg c13] at H
      exact q3n_ H
    ·rw [if_neg c12] at H
     exact q3n_ H
mutual
def spec_l1Read.j0:Nat→ByteArray→Bool→Option (Int)
 | 0,_,_=>none
 | k+1,x0,x18=>if x18=true then (some (-1)) else (spec_l1Read.l0 k x0 0 0)
def spec_l1Read.l0:Nat→ByteArray→Int→Int→Option (Int)
 | 0,_,_,_=>none
 | k+1,x0,x3,x4=>if x4<(x0.size:Int) then (if 0≤x4 then (if (bt x0 x4)<48 then (some (-1)) else (if (bt x0 x4)>57 then (some (-1)) else (spec_l1Read.l0 k x0 (wrap64 ((wrap64 (10 * x3))+(((bt x0 x4) - 48) % 256))) (wrap64 (x4+1))))) else (none)) else (some x3)
end
def spec_l1Read.f (k:Nat) (a0:ByteArray):Option (Int):=(spec_l1In.f (a0.size:Int) 1 6).bind fun t149=>(if t149=true then (if 0<(a0.size:Int) then (if (bt a0 0)=48 then (spec_l1Read.j0 k a0 (decide ((a0.size:Int)>1))) else (spec_l1Read.j0 k a0 false)) else (none)) else (spec_l1Read.j0 k a0 true))
theorem spec_l1Read.mono_l:∀ k,(∀ y0 y1,LeO (spec_l1Read.j0 k y0 y1) (spec_l1Read.j0 (k+1) y0 y1))∧(∀ y0 y1 y2,LeO (spec_l1Read.l0 k y0 y1 y2) (spec_l1Read.l0 (k+1) y0 y1 y2))
 | 0=>⟨fun _ _ r h=>by simp [spec_l1Read.j0] at h,fun _ _ _ r h=>by simp [spec_l1Read.l0] at h⟩
 | k+1=>by
  obtain ⟨ih0,ih1⟩:=spec_l1Read.mono_l k
  refine ⟨?_,?_⟩
  ·intro y0 y1
   unfold spec_l1Read.j0
   repeat' first
   | (with_reducible exact ih0 _ _)
   | (with_reducible exact ih1 _ _ _)
   | (with_reducible exact LeO.refl _)
   | (with_reducible exact LeO.none _)
   | (with_reducible refine LeO.ite ?_ ?_)
   | (with_reducible refine LeO.bind ?_ (fun _=>?_))
   | exact ih0 _ _
   | exact ih1 _ _ _
   | exact LeO.none _
   | refine LeO.ite ?_ ?_
   | refine LeO.bind ?_ (fun _=>?_)
  ·intro y0 y1 y2
   unfold spec_l1Read.l0
   repeat' first
   | (with_reducible exact ih0 _ _)
   | (with_reducible exact ih1 _ _ _)
   | (with_reducible exact LeO.refl _)
   | (with_reducible exact LeO.none _)
   | (with_reducible refine LeO.ite ?_ ?_)
   | (with_reducible refine LeO.bind ?_ (fun _=>?_))
   | exact ih0 _ _
   | exact ih1 _ _ _
   | exact LeO.none _
   | refine LeO.ite ?_ ?_
   | refine LeO.bind ?_ (fun _=>?_)
theorem spec_l1Read.mono:∀ a0 k,LeO (spec_l1Read.f k a0) (spec_l1Read.f (k+1) a0):=by
 intro a0 k
 obtain ⟨ih0,ih1⟩:=spec_l1Read.mono_l k
 unfold spec_l1Read.f
 repeat' first
   | (with_reducible exact ih0 _ _)
   | (with_reducible exact ih1 _ _ _)
   | (with_reducible exact LeO.refl _)
   | (with_reducible exact LeO.none _)
   | (with_reducible refine LeO.ite ?_ ?_)
   | (with_reducible refine LeO.bind ?_ (fun _=>?_))
   | exact ih0 _ _
   | exact ih1 _ _ _
   | exact LeO.none _
   | refine LeO.ite ?_ ?_
   | refine LeO.bind ?_ (fun _=>?_)
theorem spec_l1Read.calls (k:Nat) (a0:ByteArray) (r:Int) (w:World) (h:spec_l1Read.f k a0=some r) :
  Calls Tryd.prog 27 #[.string a0] w fun e w'=>e = .returned (.int .i64 r)∧Drawn0 w w':=by
 have H:((spec_l1In.f (a0.size:Int) 1 6).bind fun t149=>(if t149=true then (if 0<(a0.size:Int) then (if (bt a0 0)=48 then (spec_l1Read.j0 k a0 (decide ((a0.size:Int)>1))) else (spec_l1Read.j0 k a0 false)) else (none)) else (spec_l1Read.j0 k a0 true)))=some r:=h
 clear h
 have HC2:=aM H
 clear H
 go_enter Tryd.func27,Tryd.ntmps27
 go_upto_region 1 with (fail)
 go_cut [18] (fun v18 wc => ∃ (kq:Nat) (x18_1:Bool),v18 = .bool x18_1∧Aside0 (spec_l1Read.j0 kq a0 x18_1=some r)∧Aside0 (kq≤k)∧Drawn0 w wc)
 case first =>
  have H:=HC2.out;clear HC2;replace H:=oB.mp H;obtain ⟨t149,A30,H⟩:=H;replace H:(if t149=true then (if 0<(a0.size:Int) then (if (bt a0 0)=48 then (spec_l1Read.j0 k a0 (decide ((a0.size:Int)>1))) else (spec_l1Read.j0 k a0 false)) else (none)) else (spec_l1Read.j0 k a0 true))=some r:=H;have A3:=aM A30;clear A30
  by_cases c4:t149=true
  ·subst c4
   have H1:(if 0<(a0.size:Int) then (if (bt a0 0)=48 then (spec_l1Read.j0 k a0 (decide ((a0.size:Int)>1))) else (spec_l1Read.j0 k a0 false)) else (none))=some r:=by rw [if_pos rfl] at H;exact H
   clear H;have H:=H1;clear H1
   by_cases c5:0<(a0.size:Int)
   ·rw [if_pos c5] at H
    have c5b0:=decide_eq_true c5;have c5b1:decide (0<a0.size)=true:=decide_eq_true (by omega);clear c5;(first | rw [c5b0]|(simp only [i64_w,i32_w];rw [c5b0]) | skip)
    by_cases c7:(bt a0 0)=48
    ·rw [if_pos c7] at H
     have c7b0:=beq_iff_eq.mpr c7;have c7b1:=bne_eq_false_iff_eq.mpr c7;clear c7;have H':=aM H;clear H
     go_wp2_with (first | ((with_reducible refine gate_callee (f:=26) rfl ?_);refine goesL_ (some 7) rfl rfl Tryd.func26 (by kernel_rfl) rfl #[.int .i64 (a0.size:Int),.int .i64 1,.int .i64 6] rfl zd_ ?_;(with_reducible refine (spec_l1In.calls (a0.size:Int) 1 6 true _ A3.out).mono ?_);rintro e w' ⟨rfl,⟨nd,rfl⟩⟩;refine ⟨_,rfl,?_⟩;have p6:0≤(0:Int):=(by omega);have q6:0<a0.size:=(by have:(0:Int)<(a0.size:Int):=of_decide_eq_true za_;omega);have hx6:∀ h:0<a0.size,((a0[0]'h).toNat:Int)=bt a0 0:=bt_at a0 0;clear p6;have qi6:(0<(a0.size:Int))=True:=eq_true (of_decide_eq_true za_);replace q6:=eq_true q6))
     go_meet
     case rel=>exact ⟨_,(decide ((a0.size:Int)>1)),zc_,H',⟨zbc_⟩,zg_⟩
    ·rw [if_neg c7] at H
     have c7b0:=beq_eq_false_iff_ne.mpr c7;have c7b1:=bne_iff_ne.mpr c7;have H':=aM H;clear H
     go_wp2_with (first | ((with_reducible refine gate_callee (f:=26) rfl ?_);refine goesL_ (some 7) rfl rfl Tryd.func26 (by kernel_rfl) rfl #[.int .i64 (a0.size:Int),.int .i64 1,.int .i64 6] rfl zd_ ?_;(with_reducible refine (spec_l1In.calls (a0.size:Int) 1 6 true _ A3.out).mono ?_);rintro e w' ⟨rfl,⟨nd,rfl⟩⟩;refine ⟨_,rfl,?_⟩;have p6:0≤(0:Int):=(by omega);have q6:0<a0.size:=(by have:(0:Int)<(a0.size:Int):=of_decide_eq_true za_;omega);have hx6:∀ h:0<a0.size,((a0[0]'h).toNat:Int)=bt a0 0:=bt_at a0 0;clear p6;have qi6:(0<(a0.size:Int))=True:=eq_true (of_decide_eq_true za_);replace q6:=eq_true q6))
     go_meet
     case rel=>exact ⟨_,(false),zc_,H',⟨zbc_⟩,zg_⟩
   ·rw [if_neg c5] at H
    exact q3n_ H
  ·replace c4:=Bool.eq_false_iff.mpr c4
   subst c4;have H1:(spec_l1Read.j0 k a0 true)=some r:=by rw [if_neg (show ¬ (false=true) by decide)] at H;exact H
   clear H;have H:=H1;clear H1;have H':=aM H;clear H
   go_wp2_with (first | ((with_reducible refine gate_callee (f:=26) rfl ?_);refine goesL_ (some 7) rfl rfl Tryd.func26 (by kernel_rfl) rfl #[.int .i64 (a0.size:Int),.int .i64 1,.int .i64 6] rfl zd_ ?_;(with_reducible refine (spec_l1In.calls (a0.size:Int) 1 6 false _ A3.out).mono ?_);rintro e w' ⟨rfl,⟨nd,rfl⟩⟩;refine ⟨_,rfl,?_⟩))
   go_meet
   case rel=>exact ⟨_,(true),zc_,H',⟨zbc_⟩,zg_⟩
 case rest =>
  clear HC2;obtain ⟨kq,x18_1,rfl,HA,HJ1,⟨mc1,rfl⟩⟩:=hcut
  cases kq with
  | zero=>exact absurd HA.out (by simp [spec_l1Read.j0])
  | succ kj1 =>
   have H:=HA.out;clear HA
   simp only [spec_l1Read.j0] at H
   by_cases c8:x18_1=true
   ·subst c8
    have H1:(some (-1))=some r:=by rw [if_pos rfl] at H;exact H
    clear H;have H:=H1;clear H1;obtain rfl:=Option.some.inj H
    go_wp2
    go_ret
    exact ⟨zc_,zg_⟩
   ·replace c8:=Bool.eq_false_iff.mpr c8
    subst c8;have H1:(spec_l1Read.l0 kj1 a0 0 0)=some r:=by rw [if_neg (show ¬ (false=true) by decide)] at H;exact H
    clear H;have H:=H1;clear H1;have H':=aM H;clear H
    go_wp2
    go_loopg [3,4] kj1 (fun kq v3 v4 w' => ∃ (x3_2:Int) (x4_2:Int),v3 = .int .i64 x3_2∧v4 = .int .i64 x4_2∧Aside0 (spec_l1Read.l0 kq a0 x3_2 x4_2=some r)∧Aside0 (kq≤kj1)∧Drawn0 w w')
    case atStart=>exact ⟨(0),(0),zc_,zc_,H',⟨Nat.le_refl _⟩,zg_⟩
    case round =>
     clear H';obtain ⟨x3_2,x4_2,rfl,rfl,HA,HK2,⟨m2,rfl⟩⟩:=hrel
     cases gk with
     | zero=>exact absurd HA.out (by simp [spec_l1Read.l0])
     | succ k2 =>
      have H:=HA.out;clear HA
      simp only [spec_l1Read.l0] at H
      by_cases c9:x4_2<(a0.size:Int)
      ·rw [if_pos c9] at H
       have c9b0:=decide_eq_true c9;clear c9
       by_cases c10:0≤x4_2
       ·rw [if_pos c10] at H
        have c10b0:=decide_eq_true c10;clear c10
        by_cases c12:(bt a0 x4_2)<48
        ·rw [if_pos c12] at H
         have c12b0:=decide_eq_true c12;clear c12;obtain rfl:=Option.some.inj H;have p11:0≤(x4_2:Int):=of_decide_eq_true za_;have q11:x4_2<(a0.size:Int):=of_decide_eq_true za_;have hx11:=bt_at a0 x4_2;replace p11:=eq_true p11;replace q11:=eq_true q11
         go_wp2
         go_ret
         exact ⟨zc_,zg_⟩
        ·rw [if_neg c12] at H
         have c12b0:=decide_eq_false c12;clear c12
         by_cases c14:(bt a0 x4_2)>57
         ·rw [if_pos c14] at H
          have c14b0:decide (57<(bt a0 x4_2))=true:=decide_eq_true c14;clear c14;obtain rfl:=Option.some.inj H;have p11:0≤(x4_2:Int):=of_decide_eq_true za_;have q11:x4_2<(a0.size:Int):=of_decide_eq_true za_;have hx11:=bt_at a0 x4_2;replace p11:=eq_true p11;replace q11:=eq_true q11;have p13:0≤(x4_2:Int):=of_decide_eq_true za_;have q13:x4_2<(a0.size:Int):=of_decide_eq_true za_;have hx13:=bt_at a0 x4_2;replace p13:=eq_true p13;replace q13:=eq_true q13
          go_wp2
          go_ret
          exact ⟨zc_,zg_⟩
         ·rw [if_neg c14] at H
          have c14b0:decide (57<(bt a0 x4_2))=false:=decide_eq_false c14;clear c14;have H':=aM H;clear H;have p11:0≤(x4_2:Int):=of_decide_eq_true za_;have q11:x4_2<(a0.size:Int):=of_decide_eq_true za_;have hx11:=bt_at a0 x4_2;replace p11:=eq_true p11;replace q11:=eq_true q11;have p13:0≤(x4_2:Int):=of_decide_eq_true za_;have q13:x4_2<(a0.size:Int):=of_decide_eq_true za_;have hx13:=bt_at a0 x4_2;replace p13:=eq_true p13;replace q13:=eq_true q13;have p15:0≤(x4_2:Int):=of_decide_eq_true za_;have q15:x4_2<(a0.size:Int):=of_decide_eq_true za_;have hx15:=bt_at a0 x4_2;replace p15:=eq_true p15;replace q15:=eq_true q15
          go_wp2
          go_roundg k2
          case measure=>have:=HJ1.out;have:=HK2.out;omega
          case rel=>exact ⟨(wrap64 ((wrap64 (10 * x3_2))+(((bt a0 x4_2) - 48) % 256))),(wrap64 (x4_2+1)),zc_,zc_,H',⟨by have:=HJ1.out;have:=HK2.out;omega⟩,zg_⟩
       ·rw [if_neg c10] at H
        exact q3n_ H
      ·rw [if_neg c9] at H
       have c9b0:=decide_eq_false c9;clear c9;obtain rfl:=Option.some.inj H
       go_wp2
       go_ret
       exact ⟨zc_,zg_⟩
end Go.Proofs.YtanpidphaanjiaaDoor.QFnExactParseCircuit
