/- Functions of FnExactParseCircuit, each as a Lean function, with the proof that the Go code comes to its answers. -/
import Derived.Test.YtanpidphaanjiaaDoorSFnExactParseCircuitx2
import Derived.Test.YtanpidphaanjiaaDoorSFnExactParseCircuitx4
namespace Go.Proofs.YtanpidphaanjiaaDoor.QFnExactParseCircuit
open Go.RowKit Go.Proofs.YtanpidphaanjiaaDoorW.PrintWords Go.Proofs.YtanpidphaanjiaaDoorW.PrintLast Go.Proofs.YtanpidphaanjiaaDoorW.PrintMore
open Go.Proofs.YtanpidphaanjiaaDoorW.PrintWords renaming pw_below_drewN→pN,below_drew1→p1,below_alloc→pA
open Go.Proofs.YtanpidphaanjiaaDoorW.PrintWords.Kd renaming R_alloc→kA,R_drewN→kN,R_drew→kD,Q_alloc→qA,Q_drewN→qN,Q_drew→qD,C_alloc→cA,C_drewN→cN,C_drew→cD
open Go.Proofs.YtanpidphaanjiaaDoorW.PrintWords.Aside0 renaming mk→aM
open List renaming setIfInBounds_toArray→sI,set_cons_zero→s0,set_cons_succ→sS,map_toArray→mT,length_take→lT,length_drop→lD,map_cons→mC,map_nil→mN
open Option renaming bind_eq_some_iff→oB,bind_some→oS
attribute [local go_sem] max2_int min2_int max_two min_two max_three min_three max_four min_four
set_option maxHeartbeats 8000000
set_option maxRecDepth 100000
set_option linter.unusedVariables false
set_option linter.unusedSimpArgs false
mutual
def spec_ciLine.l0:Nat→List ByteArray→List ByteArray→Int→Int→Option (Int×Int×Int×Bool)
 | 0,_,_,_,_=>none
 | k+1,x4,x9,x10,x11=>if x11<x10 then (if 0≤x11 then (if x11<(x9.length:Int) then (if 0<(x4.length:Int) then (if (rdOf ByteArray.empty x4 0).toList=(rdOf ByteArray.empty x9 x11).toList then (spec_ciLine.j1 k x4 x11 x9 x10 x11 ((x4.length:Int) == 3)) else (spec_ciLine.j1 k x4 x11 x9 x10 x11 false)) else (none)) else (none)) else (none)) else (if 0<(x4.length:Int) then (if (rdOf ByteArray.empty x4 0).toList=([110,111,116]:List UInt8) then (spec_ciLine.j2 k x4 ((x4.length:Int) == 2)) else (spec_ciLine.j2 k x4 false)) else (none))
def spec_ciLine.j1:Nat→List ByteArray→Int→List ByteArray→Int→Int→Bool→Option (Int×Int×Int×Bool)
 | 0,_,_,_,_,_,_=>none
 | k+1,x4,x5,x9,x10,x11,x25=>if x25=true then (if 1<(x4.length:Int) then ((spec_l1Read.f k (rdOf ByteArray.empty x4 1)).bind fun t160=>(if 2<(x4.length:Int) then ((spec_l1Read.f k (rdOf ByteArray.empty x4 2)).bind fun t162=>(some (wrap64 (x5+1),t160,t162,true))) else (none))) else (none)) else (spec_ciLine.l0 k x4 x9 x10 (wrap64 (x11+1)))
def spec_ciLine.j2:Nat→List ByteArray→Bool→Option (Int×Int×Int×Bool)
 | 0,_,_=>none
 | k+1,x4,x46=>if x46=true then (if 1<(x4.length:Int) then ((spec_l1Read.f k (rdOf ByteArray.empty x4 1)).bind fun t165=>((spec_l1Read.f k (rdOf ByteArray.empty x4 1)).bind fun t167=>(some (4,t165,t167,true)))) else (none)) else (some (0,0,0,false))
end
def spec_ciLine.f (k:Nat) (a0:ByteArray):Option (Int×Int×Int×Bool):=(spec_l1Split.f k a0 32).bind fun t151=>((some (([(⟨#[97,110,100]⟩:ByteArray),(⟨#[111,114]⟩:ByteArray),(⟨#[120,111,114]⟩:ByteArray)]:List ByteArray):List ByteArray)).bind fun y154=>(spec_ciLine.l0 k t151 y154 (y154.length:Int) 0))
theorem spec_ciLine.mono_l:∀ k,(∀ y0 y1 y2 y3,LeO (spec_ciLine.l0 k y0 y1 y2 y3) (spec_ciLine.l0 (k+1) y0 y1 y2 y3))∧(∀ y0 y1 y2 y3 y4 y5,LeO (spec_ciLine.j1 k y0 y1 y2 y3 y4 y5) (spec_ciLine.j1 (k+1) y0 y1 y2 y3 y4 y5))∧(∀ y0 y1,LeO (spec_ciLine.j2 k y0 y1) (spec_ciLine.j2 (k+1) y0 y1))
 | 0=>⟨fun _ _ _ _ r h=>by simp [spec_ciLine.l0] at h,fun _ _ _ _ _ _ r h=>by simp [spec_ciLine.j1] at h,fun _ _ r h=>by simp [spec_ciLine.j2] at h⟩
 | k+1=>by
  obtain ⟨ih0,ih1,ih2⟩:=spec_ciLine.mono_l k
  refine ⟨?_,?_,?_⟩
  ·intro y0 y1 y2 y3
   unfold spec_ciLine.l0
   repeat' first
   | (with_reducible exact ih0 _ _ _ _)
   | (with_reducible exact ih1 _ _ _ _ _ _)
   | (with_reducible exact ih2 _ _)
   | (with_reducible exact spec_l1Read.mono _ _)
   | (with_reducible exact spec_l1Split.mono _ _ _)
   | (with_reducible exact LeO.refl _)
   | (with_reducible exact LeO.none _)
   | (with_reducible refine LeO.ite ?_ ?_)
   | (with_reducible refine LeO.bind ?_ (fun _=>?_))
   | exact ih0 _ _ _ _
   | exact ih1 _ _ _ _ _ _
   | exact ih2 _ _
   | exact spec_l1Read.mono _ _
   | exact spec_l1Split.mono _ _ _
   | exact LeO.none _
   | refine LeO.ite ?_ ?_
   | refine LeO.bind ?_ (fun _=>?_)
  ·intro y0 y1 y2 y3 y4 y5
   unfold spec_ciLine.j1
   repeat' first
   | (with_reducible exact ih0 _ _ _ _)
   | (with_reducible exact ih1 _ _ _ _ _ _)
   | (with_reducible exact ih2 _ _)
   | (with_reducible exact spec_l1Read.mono _ _)
   | (with_reducible exact spec_l1Split.mono _ _ _)
   | (with_reducible exact LeO.refl _)
   | (with_reducible exact LeO.none _)
   | (with_reducible refine LeO.ite ?_ ?_)
   | (with_reducible refine LeO.bind ?_ (fun _=>?_))
   | exact ih0 _ _ _ _
   | exact ih1 _ _ _ _ _ _
   | exact ih2 _ _
   | exact spec_l1Read.mono _ _
   | exact spec_l1Split.mono _ _ _
   | exact LeO.none _
   | refine LeO.ite ?_ ?_
   | refine LeO.bind ?_ (fun _=>?_)
  ·intro y0 y1
   unfold spec_ciLine.j2
   repeat' first
   | (with_reducible exact ih0 _ _ _ _)
   | (with_reducible exact ih1 _ _ _ _ _ _)
   | (with_reducible exact ih2 _ _)
   | (with_reducible exact spec_l1Read.mono _ _)
   | (with_reducible exact spec_l1Split.mono _ _ _)
   | (with_reducible exact LeO.refl _)
   | (with_reducible exact LeO.none _)
   | (with_reducible refine LeO.ite ?_ ?_)
   | (with_reducible refine LeO.bind ?_ (fun _=>?_))
   | exact ih0 _ _ _ _
   | exact ih1 _ _ _ _ _ _
   | exact ih2 _ _
   | exact spec_l1Read.mono _ _
   | exact spec_l1Split.mono _ _ _
   | exact LeO.none _
   | refine LeO.ite ?_ ?_
   | refine LeO.bind ?_ (fun _=>?_)
theorem spec_ciLine.mono:∀ a0 k,LeO (spec_ciLine.f k a0) (spec_ciLine.f (k+1) a0):=by
 intro a0 k
 obtain ⟨ih0,ih1,ih2⟩:=spec_ciLine.mono_l k
 unfold spec_ciLine.f
 repeat' first
   | (with_reducible exact ih0 _ _ _ _)
   | (with_reducible exact ih1 _ _ _ _ _ _)
   | (with_reducible exact ih2 _ _)
   | (with_reducible exact spec_l1Read.mono _ _)
   | (with_reducible exact spec_l1Split.mono _ _ _)
   | (with_reducible exact LeO.refl _)
   | (with_reducible exact LeO.none _)
   | (with_reducible refine LeO.ite ?_ ?_)
   | (with_reducible refine LeO.bind ?_ (fun _=>?_))
   | exact ih0 _ _ _ _
   | exact ih1 _ _ _ _ _ _
   | exact ih2 _ _
   | exact spec_l1Read.mono _ _
   | exact spec_l1Split.mono _ _ _
   | exact LeO.none _
   | refine LeO.ite ?_ ?_
   | refine LeO.bind ?_ (fun _=>?_)
def spec_ciLine.T6:Bool×List (List Nat×List Nat):=(true,[([],[]),([0],[0]),([],[]),([2],[2]),([3],[3]),([4],[4]),([],[]),([6],[6]),([7],[7]),([8,5],[8]),([1,5,9],[1,5,9]),([10,9,0,1,2,3,4,5,6,7,8,9,10],[10]),([11,0,1,2,3,4,5,6,7,8,9,10,11],[])])
def spec_ciLine.B6:List Nat:=[0,1,0,4,12,28,0,64,192,508,1023,2047,4095]
theorem spec_ciLine.tab6:rtab .any (opsOf Tryd.f28 6)=spec_ciLine.T6:=by kernel_rfl
theorem spec_ciLine.bits6:waitsOk spec_ciLine.T6.2 spec_ciLine.B6=true:=by kernel_rfl
def spec_ciLine.T9:Bool×List (List Nat×List Nat):=(true,[([],[]),([0],[0]),([1],[1]),([2],[2]),([],[]),([4],[4]),([5],[5]),([6,3],[6]),([3,7],[3,7]),([8,7,0,1,2,3,4,5,6,7,8],[8]),([9,0,1,2,3,4,5,6,7,8,9],[])])
def spec_ciLine.B9:List Nat:=[0,1,3,7,0,16,48,127,255,511,1023]
theorem spec_ciLine.tab9:rtab .any (opsOf Tryd.f28 9)=spec_ciLine.T9:=by kernel_rfl
theorem spec_ciLine.bits9:waitsOk spec_ciLine.T9.2 spec_ciLine.B9=true:=by kernel_rfl
theorem spec_ciLine.calls (k:Nat) (a0:ByteArray) (r1:Int) (r2:Int) (r3:Int) (r4:Bool) (w:World) (h:spec_ciLine.f k a0=some (r1,r2,r3,r4)) :
  Calls Tryd.prog 28 #[.string a0] w fun e w'=>e = .returned (.tuple #[.agg #[.int .i64 r1,.int .i64 r2,.int .i64 r3],.bool r4])∧Below w.heap.size w w':=by
 have hu47:=Tryd.underlying47
 have HB:=aM (Below.refl w.heap.size w)
 have H:((spec_l1Split.f k a0 32).bind fun t151=>((some (([(⟨#[97,110,100]⟩:ByteArray),(⟨#[111,114]⟩:ByteArray),(⟨#[120,111,114]⟩:ByteArray)]:List ByteArray):List ByteArray)).bind fun y154=>(spec_ciLine.l0 k t151 y154 (y154.length:Int) 0)))=some (r1,r2,r3,r4):=h
 clear h
 replace H:=oB.mp H
 obtain ⟨t151,A20,H⟩:=H
 replace H:((some (([(⟨#[97,110,100]⟩:ByteArray),(⟨#[111,114]⟩:ByteArray),(⟨#[120,111,114]⟩:ByteArray)]:List ByteArray):List ByteArray)).bind fun y154=>(spec_ciLine.l0 k t151 y154 (y154.length:Int) 0))=some (r1,r2,r3,r4):=H
 have A2:=aM A20
 clear A20
 obtain ⟨y154,hy154⟩:∃ y_:List ByteArray,y_=(([(⟨#[97,110,100]⟩:ByteArray),(⟨#[111,114]⟩:ByteArray),(⟨#[120,111,114]⟩:ByteArray)]:List ByteArray)):=⟨_,rfl⟩
 replace H:(spec_ciLine.l0 k t151 y154 (y154.length:Int) 0)=some (r1,r2,r3,r4):=q3y_ hy154 H
 have Ny154:=aM hy154
 clear hy154
 have H':=aM H
 clear H
 go_enter Tryd.func28,Tryd.ntmps28
 go_wp2_with (first | ((with_reducible refine gate_dst (N:=2) rfl ?_);(try (refine gate_guard (by rfl) ?_;dsimp only));refine box_event ?hg (N:=2) ?hd (cs:=#[.int .i64 0,.int .i64 0,.int .i64 0]) (t:=47) ?hr ?_;(case hd=>rfl);(case hg=>rfl);(case hr=>exact ze_);intro gb150 hg w3 hbox hb;have n_:=z (below_step zb_ hb)<|z (hbox)<|z ((by rw [hg];exact (below_size zb_):w.heap.size≤gb150))<|z1 ((by rw [hg];exact (below_size zb_):w.heap.size≤gb150));clear HB;obtain ⟨HB,BK150,GW150,GE150⟩:=n_;clear hb hbox hg)|((with_reducible refine gate_callee (f:=25) rfl ?_);refine goesL_ (some 8) rfl rfl Tryd.func25 (by kernel_rfl) rfl #[.string a0,.int .u8 32] rfl zd_ ?_;(with_reducible refine (spec_l1Split.calls k a0 32 t151 _ A2.out).mono ?_);rintro e w4 ⟨v152,rfl,ho0,hb⟩;refine ⟨_,rfl,?_⟩;have n_:=z (Kd.R_lower ho0 (below_size zbg_))<|z (blk_below (zb BK150.out) hb)<|z1 (below_step zbg_ hb);clear BK150 HB;obtain ⟨HO153,BK150,HB⟩:=n_;clear hb;(try clear ho0))|((with_reducible refine gate_dst (N:=9) rfl ?_);(try (refine gate_guard (by rfl) ?_;dsimp only));refine Kd.R_lit Kd.string _ 9 ?hg (N:=9) ?hd (xs:=([(⟨#[97,110,100]⟩:ByteArray),(⟨#[111,114]⟩:ByteArray),(⟨#[120,111,114]⟩:ByteArray)]:List ByteArray)) (inner:=[.string (⟨#[97,110,100]⟩:ByteArray),.string (⟨#[111,114]⟩:ByteArray),.string (⟨#[120,111,114]⟩:ByteArray)]) (ok:=fun _=>True) (okp:=fun _=>True) ?hr ?hp (fun _ hk=>hk) trivial (Below.refl _ _) (Nat.le_refl _) (by simp) ?_;(case hd=>rfl);(case hg=>rfl);(case hr=>exact ze_);(case hp=>exact (Reps.one (show Kd.M Kd.string _ _ _ (⟨#[97,110,100]⟩:ByteArray) [.string (⟨#[97,110,100]⟩:ByteArray)] from rfl) (Reps.one (show Kd.M Kd.string _ _ _ (⟨#[111,114]⟩:ByteArray) [.string (⟨#[111,114]⟩:ByteArray)] from rfl) (Reps.one (show Kd.M Kd.string _ _ _ (⟨#[120,111,114]⟩:ByteArray) [.string (⟨#[120,111,114]⟩:ByteArray)] from rfl) (Reps.none _ _)))));intro v155 w5 ho6 hb hg_ hnew_;clear hg_ hnew_;(first | rw [← Ny154.out] at ho6 | (simp only [Int.reduceToNat] at ho6;rw [← Ny154.out] at ho6));have n_:=z (Kd.R_elder' (zr HO153.out) (Kd.R_base ho6) hb)<|z (Kd.R_lower (Kd.R_new' ho6 (Kd.R_lt (zr HO153.out))) (below_size zbg_))<|z (blk_below (zb BK150.out) hb)<|z1 (below_step zbg_ hb);clear HO153 BK150 HB;obtain ⟨HO153,HO156,BK150,HB⟩:=n_;clear hb ho6;obtain ⟨Ao7,co7,eo7⟩:=Kd.R_slice HO156.out;subst eo7))
 go_loopg [11] k (fun kq v11 w' => ∃ (x11_1:Int) (x151000_1:Int) (x151001_1:Int) (x151002_1:Int),v11 = .int .i64 x11_1∧Aside0 (spec_ciLine.l0 kq t151 y154 (y154.length:Int) x11_1=some (r1,r2,r3,r4))∧Aside0 (kq≤k)∧Aside0 (Kd.R Kd.string 9 w' w.heap.size (fun k_=>some k_≠((.slice Ao7 y154.length co7):Value).ownBlock) v152 t151)∧Aside0 (Kd.R Kd.string 9 w' w.heap.size (fun k_=>some k_≠(v152:Value).ownBlock) (.slice Ao7 y154.length co7) y154)∧Aside0 (w'.heap[gb150]?=some (.cells #[.int .i64 x151000_1,.int .i64 x151001_1,.int .i64 x151002_1] 47 (0,0)))∧Aside0 (Below w.heap.size w w'))
 case atStart=>exact ⟨(0),(0),(0),(0),zc_,H',⟨Nat.le_refl _⟩,⟨by refine zr ?_;exact Kd.R_mono HO153.out (fun _ hk=>hk.2)⟩,⟨by refine zr ?_;exact Kd.R_mono HO156.out (fun _ hk=>hk.2)⟩,⟨zb BK150.out⟩,⟨zbg_⟩⟩
 case round =>
  clear H';obtain ⟨x11_1,x151000_1,x151001_1,x151002_1,rfl,HA,HK1,HO_4,HO_9,BK150,HB⟩:=hrel
  cases gk with
  | zero=>exact absurd HA.out (by simp [spec_ciLine.l0])
  | succ k1 =>
   have H:=HA.out;clear HA
   simp only [spec_ciLine.l0] at H
   by_cases c8:x11_1<(y154.length:Int)
   ·rw [if_pos c8] at H
    have c8b0:=decide_eq_true c8;clear c8
    by_cases c9:0≤x11_1
    ·rw [if_pos c9] at H
     have c9b0:=decide_eq_true c9;clear c9
     by_cases c10:x11_1<(y154.length:Int)
     ·rw [if_pos c10] at H
      have c10b0:=decide_eq_true c10;clear c10;have HC11:=aM H;clear H;have p157:0≤(x11_1:Int):=of_decide_eq_true za_;have q157:x11_1<(y154.length:Int):=of_decide_eq_true za_;obtain ⟨ad157,e157,hx157_0⟩:=Kd.at_string (Kd.R_reads' HO_9.out).2.2 x11_1 p157 q157
      cases e157
      replace p157:=eq_true p157;replace q157:=eq_true q157
      go_upto_region 5 with (fail)
      go_cut [25] (fun v25 wc => ∃ (kq:Nat) (x25_10:Bool),v25 = .bool x25_10∧Aside0 (spec_ciLine.j1 kq t151 x11_1 y154 (y154.length:Int) x11_1 x25_10=some (r1,r2,r3,r4))∧Aside0 (kq≤k1)∧Aside0 (Kd.R Kd.string 9 wc w.heap.size (fun k_=>some k_≠((.slice (some ad157) y154.length co7):Value).ownBlock) v152 t151)∧Aside0 (Kd.R Kd.string 9 wc w.heap.size (fun k_=>some k_≠(v152:Value).ownBlock) (.slice (some ad157) y154.length co7) y154)∧Aside0 (wc.heap[gb150]?=some (.cells #[.int .i64 x151000_1,.int .i64 x151001_1,.int .i64 x151002_1] 47 (0,0)))∧Aside0 (Below w.heap.size w wc))
      case first =>
       have H:=HC11.out;clear HC11
       by_cases c12:0<(t151.length:Int)
       ·rw [if_pos c12] at H
        have c12b0:=decide_eq_true c12;have c12b1:decide (0<t151.length)=true:=decide_eq_true (by omega);clear c12;(first | rw [c12b0]|(simp only [i64_w,i32_w];rw [c12b0]) | skip)
        by_cases c13:(rdOf ByteArray.empty t151 0).toList=(rdOf ByteArray.empty y154 x11_1).toList
        ·rw [if_pos c13] at H
         have c13b0:=beq_iff_eq.mpr c13;have c13b1:=bne_eq_false_iff_eq.mpr c13;clear c13;have H':=aM H;clear H;obtain ⟨Ao14,co14,eo14⟩:=Kd.R_slice HO_4.out;subst eo14;have p158:0≤(0:Int):=(by omega);have q158:0<(t151.length:Int):=of_decide_eq_true za_;obtain ⟨ad158,e158,hx158_0⟩:=Kd.at_string (Kd.R_reads' HO_4.out).2.2 0 p158 q158
         cases e158
         have qi158:(0<t151.length)=True:=eq_true (by omega);(try rw [show ((0:Int)).toNat=0 from rfl] at hx158_0);(try rw [Addr.add_zero'] at hx158_0);replace p158:=eq_true p158;replace q158:=eq_true q158
         go_wp2
         go_meet
         case rel=>exact ⟨_,(((t151.length:Int) == 3)),zc_,H',⟨zcf_⟩,⟨zr HO_4.out⟩,⟨zr HO_9.out⟩,⟨zb BK150.out⟩,⟨zbg_⟩⟩
        ·rw [if_neg c13] at H
         have c13b0:=beq_eq_false_iff_ne.mpr c13;have c13b1:=bne_iff_ne.mpr c13;have H':=aM H;clear H;obtain ⟨Ao15,co15,eo15⟩:=Kd.R_slice HO_4.out;subst eo15;have p158:0≤(0:Int):=(by omega);have q158:0<(t151.length:Int):=of_decide_eq_true za_;obtain ⟨ad158,e158,hx158_0⟩:=Kd.at_string (Kd.R_reads' HO_4.out).2.2 0 p158 q158
         cases e158
         have qi158:(0<t151.length)=True:=eq_true (by omega);(try rw [show ((0:Int)).toNat=0 from rfl] at hx158_0);(try rw [Addr.add_zero'] at hx158_0);replace p158:=eq_true p158;replace q158:=eq_true q158
         go_wp2
         go_meet
         case rel=>exact ⟨_,(false),zc_,H',⟨zcf_⟩,⟨zr HO_4.out⟩,⟨zr HO_9.out⟩,⟨zb BK150.out⟩,⟨zbg_⟩⟩
       ·rw [if_neg c12] at H
        exact q3n_ H
      case rest =>
       clear HC11;(try clear c8b0);(try clear c9b0);(try clear c10b0);(try clear hx157_0);(try clear p157);(try clear q157);obtain ⟨kq,x25_10,rfl,HA,HJ10,HO_4,HO_9,BK150,HB⟩:=hcut
       cases kq with
       | zero=>exact absurd HA.out (by simp [spec_ciLine.j1])
       | succ kj10 =>
        have H:=HA.out;clear HA
        simp only [spec_ciLine.j1] at H
        by_cases c16:x25_10=true
        ·subst c16
         have H1:(if 1<(t151.length:Int) then ((spec_l1Read.f kj10 (rdOf ByteArray.empty t151 1)).bind fun t160=>(if 2<(t151.length:Int) then ((spec_l1Read.f kj10 (rdOf ByteArray.empty t151 2)).bind fun t162=>(some (wrap64 (x11_1+1),t160,t162,true))) else (none))) else (none))=some (r1,r2,r3,r4):=by rw [if_pos rfl] at H;exact H
         clear H;have H:=H1;clear H1
         by_cases c17:1<(t151.length:Int)
         ·rw [if_pos c17] at H
          have c17b0:=decide_eq_true c17;have c17b1:decide (1<t151.length)=true:=decide_eq_true (by omega);clear c17;replace H:=oB.mp H;obtain ⟨t160,A180,H⟩:=H;replace H:(if 2<(t151.length:Int) then ((spec_l1Read.f kj10 (rdOf ByteArray.empty t151 2)).bind fun t162=>(some (wrap64 (x11_1+1),t160,t162,true))) else (none))=some (r1,r2,r3,r4):=H;have A18:=aM A180;clear A180
          by_cases c19:2<(t151.length:Int)
          ·rw [if_pos c19] at H
           have c19b0:=decide_eq_true c19;have c19b1:decide (2<t151.length)=true:=decide_eq_true (by omega);clear c19;replace H:=oB.mp H;obtain ⟨t162,A200,H⟩:=H;replace H:(some (wrap64 (x11_1+1),t160,t162,true))=some (r1,r2,r3,r4):=H;have A20:=aM A200;clear A200
           simp only [Option.some.injEq,Prod.mk.injEq] at H
           obtain ⟨rfl,rfl,rfl,rfl⟩:=H;(try go_wp2);have n_:=z (kD HO_4.out)<|z (kD HO_9.out)<|z (blk_drew BK150.out)<|z1 (p1 HB.out)
           clear HO_4 HO_9 BK150 HB;obtain ⟨HO_4,HO_9,BK150,HB⟩:=n_;obtain ⟨Ao22,co22,eo22⟩:=Kd.R_slice HO_4.out;(first | subst eo22 | (injection eo22 with f1_ f2_ f3_;have f4_:=f1_.symm;have f5_:=f3_.symm;clear f1_ f2_ f3_;subst f4_;subst f5_));have p159:0≤(1:Int):=(by omega);have q159:1<(t151.length:Int):=of_decide_eq_true za_;obtain ⟨ad159,e159,hx159_0⟩:=Kd.at_string (Kd.R_reads' HO_4.out).2.2 1 p159 q159
           cases e159
           (try simp only [show (1:Int).toNat=1 from rfl,Nat.reduceMul,Nat.reduceEqDiff,Go.Addr.add,↓reduceIte] at hx159_0);have qi159:(1<t151.length)=True:=eq_true (by omega);(try rw [show ((1:Int)).toNat=1 from rfl] at hx159_0);replace p159:=eq_true p159;replace q159:=eq_true q159;have p161:0≤(2:Int):=(by omega);have q161:2<(t151.length:Int):=of_decide_eq_true za_;obtain ⟨ad161,e161,hx161_0⟩:=Kd.at_string (Kd.R_reads' HO_4.out).2.2 2 p161 q161;obtain rfl:ad159=ad161:=(by injection e161);(try simp only [show (2:Int).toNat=2 from rfl,Nat.reduceMul,Nat.reduceEqDiff,Go.Addr.add,↓reduceIte] at hx161_0);have qi161:(2<t151.length)=True:=eq_true (by omega);(try rw [show ((2:Int)).toNat=2 from rfl] at hx161_0);replace p161:=eq_true p161;replace q161:=eq_true q161
           refine start_ (n:=13) (S:=fun w'=>w'.cell? ⟨ad159.block,ad159.off+1,none⟩=some (.string (rdOf ByteArray.empty t151 1))∧w'.cell? ⟨ad159.block,ad159.off+2,none⟩=some (.string (rdOf ByteArray.empty t151 2))) (ds:=[]) #[fi,fi,fi,fi,fi,fi,fi,fi,fi,fi,fi,fi,fi] (by kernel_rfl) rfl rfl ⟨hx159_0,hx161_0⟩ (fun hHeld=>?_);refine with_tabW spec_ciLine.tab6 spec_ciLine.bits6 (fun HT_ HW_=>?_)
           generalize wc.drew=w21 at HO_4 HO_9 BK150 HB hx159_0 hx161_0 hHeld ⊢;refine py_ 0 26 HT_.out ?_;refine py_ 1 27 HT_.out ?_;refine py_ 2 28 HT_.out ?_;refine py_ 3 29 HT_.out ?_;refine py_ 6 32 HT_.out ?_;refine py_ 7 33 HT_.out ?_
           refine tw2_ 4 30 HT_.out HW_.out hHeld ?_
           refine tw2_ 8 34 HT_.out HW_.out hHeld ?_
           refine one_ (i:=5) (N:=some 31) #[ti,ti,ti,ti,ti,ti,ti,ti,ti,fi,fi,fi,fi] rfl rfl (one_of HT_.out (by kernel_rfl)) (by decide) (fun K hK=>?_)
           refine goes_ Tryd.func27 (by kernel_rfl) rfl #[.string (rdOf ByteArray.empty t151 1)] (by rfl) rfl rfl zd_ ?_
           with_reducible refine (spec_l1Read.calls kj10 (rdOf ByteArray.empty t151 1) t160 _ A18.out).mono ?_
           rintro e w' ⟨rfl,⟨nd,rfl⟩⟩
           refine ⟨_,rfl,?_⟩
           refine hK.out _ _ ⟨hHeld.1,hHeld.2⟩ (fun hHeld=>?_)
           clear hK K
           refine nz_ 31 ?_
           refine one_ (i:=9) (N:=some 35) #[ti,ti,ti,ti,ti,ti,ti,ti,ti,ti,fi,fi,fi] rfl rfl (one_of HT_.out (by kernel_rfl)) (by decide) (fun K hK=>?_)
           refine goes_ Tryd.func27 (by kernel_rfl) rfl #[.string (rdOf ByteArray.empty t151 2)] (by rfl) rfl rfl zd_ ?_
           with_reducible refine (spec_l1Read.calls kj10 (rdOf ByteArray.empty t151 2) t162 _ A20.out).mono ?_
           rintro e w' ⟨rfl,⟨nd,rfl⟩⟩
           refine ⟨_,rfl,?_⟩
           refine hK.out _ _ ⟨hHeld.1,hHeld.2⟩ (fun hHeld=>?_)
           clear hK K
           refine nz_ 35 ?_
           refine py_ 10 36 HT_.out ?_
           refine one_ (i:=11) (N:=none) #[ti,ti,ti,ti,ti,ti,ti,ti,ti,ti,ti,ti,fi] rfl rfl (one_of HT_.out (by kernel_rfl)) (by decide) (fun K hK=>?_)
           have hs23:w21.cell? ⟨gb150,0,none⟩=some (.int .i64 x151000_1):=(blk_cell BK150.out 0).trans rfl;have hfs23:=blk_frozen BK150.out 0;have hs24:w21.cell? ⟨gb150,1,none⟩=some (.int .i64 x151001_1):=(blk_cell BK150.out 1).trans rfl;have hfs24:=blk_frozen BK150.out 1;have hs25:w21.cell? ⟨gb150,2,none⟩=some (.int .i64 x151002_1):=(blk_cell BK150.out 2).trans rfl;have hfs25:=blk_frozen BK150.out 2
           refine skip_ (w1:=?_) (by rfl) rfl ?_ ?_
           rotate_left
           ·go_simp
            rfl
           refine hK.out _ _ ⟨((cell_far (p:=⟨gb150,_,none⟩) zca_ _).trans (((cell_far (p:=⟨gb150,_,none⟩) zca_ _).trans (((cell_far (p:=⟨gb150,_,none⟩) zca_ _).trans (hHeld.1)))))),((cell_far (p:=⟨gb150,_,none⟩) zca_ _).trans (((cell_far (p:=⟨gb150,_,none⟩) zca_ _).trans (((cell_far (p:=⟨gb150,_,none⟩) zca_ _).trans (hHeld.2))))))⟩ (fun hHeld=>?_)
           clear hK K;refine py_ 12 3 HT_.out ?_
           refine done_ (done_of HT_.out (by kernel_rfl)) ?_
           (try go_wp2)
           refine bodyPost_ret (results_ct rfl _ _ gb150 47 #[.int .i64 (wrap64 (x11_1+1)),.int .i64 t160,.int .i64 t162] (0,0) _ rfl (by refine zb ?_;refine blk_put (cs:=#[.int .i64 (wrap64 (x11_1+1)),.int .i64 t160,.int .i64 x151002_1]) ?_ 2 _ rfl;refine zb ?_;refine blk_put (cs:=#[.int .i64 (wrap64 (x11_1+1)),.int .i64 x151001_1,.int .i64 x151002_1]) ?_ 1 _ rfl;refine zb ?_;refine blk_put (cs:=#[.int .i64 x151000_1,.int .i64 x151001_1,.int .i64 x151002_1]) ?_ 0 _ rfl;refine zb ?_;exact BK150.out) Tryd.underlying47 rfl (by kernel_rfl)) rfl ?_
           exact ⟨zf_,zbg_⟩
          ·rw [if_neg c19] at H
           exact q3n_ H
         ·rw [if_neg c17] at H
          exact q3n_ H
        ·replace c16:=Bool.eq_false_iff.mpr c16
         subst c16;have H1:(spec_ciLine.l0 kj10 t151 y154 (y154.length:Int) (wrap64 (x11_1+1)))=some (r1,r2,r3,r4):=by rw [if_neg (show ¬ (false=true) by decide)] at H;exact H
         clear H;have H:=H1;clear H1;have H':=aM H;clear H
         go_wp2
         go_roundg kj10
         case measure=>have:=HK1.out;have:=HJ10.out;omega
         case rel=>exact ⟨(wrap64 (x11_1+1)),(x151000_1),(x151001_1),(x151002_1),zc_,H',⟨by have:=HK1.out;have:=HJ10.out;omega⟩,⟨zr HO_4.out⟩,⟨zr HO_9.out⟩,⟨zb BK150.out⟩,⟨zbg_⟩⟩
     ·rw [if_neg c10] at H
      exact q3n_ H
    ·rw [if_neg c9] at H
     exact q3n_ H
   ·rw [if_neg c8] at H
    have c8b0:=decide_eq_false c8;clear c8;have HC26:=aM H;clear H
    go_upto_region 8 with (fail)
    go_cut [46] (fun v46 wc => ∃ (kq:Nat) (x46_25:Bool),v46 = .bool x46_25∧Aside0 (spec_ciLine.j2 kq t151 x46_25=some (r1,r2,r3,r4))∧Aside0 (kq≤k1)∧Aside0 (Kd.R Kd.string 9 wc w.heap.size (fun _=>True) v152 t151)∧Aside0 (wc.heap[gb150]?=some (.cells #[.int .i64 x151000_1,.int .i64 x151001_1,.int .i64 x151002_1] 47 (0,0)))∧Aside0 (Below w.heap.size w wc))
    case first =>
     have H:=HC26.out;clear HC26
     by_cases c27:0<(t151.length:Int)
     ·rw [if_pos c27] at H
      have c27b0:=decide_eq_true c27;have c27b1:decide (0<t151.length)=true:=decide_eq_true (by omega);clear c27;(first | rw [c27b0]|(simp only [i64_w,i32_w];rw [c27b0]) | skip)
      by_cases c28:(rdOf ByteArray.empty t151 0).toList=([110,111,116]:List UInt8)
      ·rw [if_pos c28] at H
       have c28b0:=beq_iff_eq.mpr c28;have c28b1:=bne_eq_false_iff_eq.mpr c28;clear c28;have H':=aM H;clear H;obtain ⟨Ao29,co29,eo29⟩:=Kd.R_slice HO_4.out;subst eo29;have p163:0≤(0:Int):=(by omega);have q163:0<(t151.length:Int):=of_decide_eq_true za_;obtain ⟨ad163,e163,hx163_0⟩:=Kd.at_string (Kd.R_reads' HO_4.out).2.2 0 p163 q163
       cases e163
       have qi163:(0<t151.length)=True:=eq_true (by omega);(try rw [show ((0:Int)).toNat=0 from rfl] at hx163_0);(try rw [Addr.add_zero'] at hx163_0);replace p163:=eq_true p163;replace q163:=eq_true q163
       go_wp2
       go_meet
       case rel=>exact ⟨_,(((t151.length:Int) == 2)),zc_,H',⟨zcf_⟩,⟨by refine zr ?_;exact Kd.R_mono HO_4.out (fun _ hk=>trivial)⟩,⟨zb BK150.out⟩,⟨zbg_⟩⟩
      ·rw [if_neg c28] at H
       have c28b0:=beq_eq_false_iff_ne.mpr c28;have c28b1:=bne_iff_ne.mpr c28;have H':=aM H;clear H;obtain ⟨Ao30,co30,eo30⟩:=Kd.R_slice HO_4.out;subst eo30;have p163:0≤(0:Int):=(by omega);have q163:0<(t151.length:Int):=of_decide_eq_true za_;obtain ⟨ad163,e163,hx163_0⟩:=Kd.at_string (Kd.R_reads' HO_4.out).2.2 0 p163 q163
       cases e163
       have qi163:(0<t151.length)=True:=eq_true (by omega);(try rw [show ((0:Int)).toNat=0 from rfl] at hx163_0);(try rw [Addr.add_zero'] at hx163_0);replace p163:=eq_true p163;replace q163:=eq_true q163
       go_wp2
       go_meet
       case rel=>exact ⟨_,(false),zc_,H',⟨zcf_⟩,⟨by refine zr ?_;exact Kd.R_mono HO_4.out (fun _ hk=>trivial)⟩,⟨zb BK150.out⟩,⟨zbg_⟩⟩
     ·rw [if_neg c27] at H
      exact q3n_ H
    case rest =>
     clear HC26;(try clear c8b0);obtain ⟨kq,x46_25,rfl,HA,HJ25,HO_4,BK150,HB⟩:=hcut
     cases kq with
     | zero=>exact absurd HA.out (by simp [spec_ciLine.j2])
     | succ kj25 =>
      have H:=HA.out;clear HA
      simp only [spec_ciLine.j2] at H
      by_cases c31:x46_25=true
      ·subst c31
       have H1:(if 1<(t151.length:Int) then ((spec_l1Read.f kj25 (rdOf ByteArray.empty t151 1)).bind fun t165=>((spec_l1Read.f kj25 (rdOf ByteArray.empty t151 1)).bind fun t167=>(some (4,t165,t167,true)))) else (none))=some (r1,r2,r3,r4):=by rw [if_pos rfl] at H;exact H
       clear H;have H:=H1;clear H1
       by_cases c32:1<(t151.length:Int)
       ·rw [if_pos c32] at H
        have c32b0:=decide_eq_true c32;have c32b1:decide (1<t151.length)=true:=decide_eq_true (by omega);clear c32;replace H:=oB.mp H;obtain ⟨t165,A330,H⟩:=H;replace H:((spec_l1Read.f kj25 (rdOf ByteArray.empty t151 1)).bind fun t167=>(some (4,t165,t167,true)))=some (r1,r2,r3,r4):=H;have A33:=aM A330;clear A330;replace H:=oB.mp H;obtain ⟨t167,A340,H⟩:=H;replace H:(some (4,t165,t167,true))=some (r1,r2,r3,r4):=H;have A34:=aM A340;clear A340
        simp only [Option.some.injEq,Prod.mk.injEq] at H
        obtain ⟨rfl,rfl,rfl,rfl⟩:=H;(try go_wp2);have n_:=z (kD HO_4.out)<|z (blk_drew BK150.out)<|z1 (p1 HB.out)
        clear HO_4 BK150 HB;obtain ⟨HO_4,BK150,HB⟩:=n_;obtain ⟨Ao36,co36,eo36⟩:=Kd.R_slice HO_4.out;(first | subst eo36 | (injection eo36 with f1_ f2_ f3_;have f4_:=f1_.symm;have f5_:=f3_.symm;clear f1_ f2_ f3_;subst f4_;subst f5_));have p164:0≤(1:Int):=(by omega);have q164:1<(t151.length:Int):=of_decide_eq_true za_;obtain ⟨ad164,e164,hx164_0⟩:=Kd.at_string (Kd.R_reads' HO_4.out).2.2 1 p164 q164
        cases e164
        (try simp only [show (1:Int).toNat=1 from rfl,Nat.reduceMul,Nat.reduceEqDiff,Go.Addr.add,↓reduceIte] at hx164_0);have qi164:(1<t151.length)=True:=eq_true (by omega);(try rw [show ((1:Int)).toNat=1 from rfl] at hx164_0);replace p164:=eq_true p164;replace q164:=eq_true q164;have p166:0≤(1:Int):=(by omega);have q166:1<(t151.length:Int):=of_decide_eq_true za_;obtain ⟨ad166,e166,hx166_0⟩:=Kd.at_string (Kd.R_reads' HO_4.out).2.2 1 p166 q166;obtain rfl:ad164=ad166:=(by injection e166);(try simp only [show (1:Int).toNat=1 from rfl,Nat.reduceMul,Nat.reduceEqDiff,Go.Addr.add,↓reduceIte] at hx166_0);have qi166:(1<t151.length)=True:=eq_true (by omega);(try rw [show ((1:Int)).toNat=1 from rfl] at hx166_0);replace p166:=eq_true p166;replace q166:=eq_true q166
        refine start_ (n:=11) (S:=fun w'=>w'.cell? ⟨ad164.block,ad164.off+1,none⟩=some (.string (rdOf ByteArray.empty t151 1))∧w'.cell? ⟨ad164.block,ad164.off+1,none⟩=some (.string (rdOf ByteArray.empty t151 1))) (ds:=[]) #[fi,fi,fi,fi,fi,fi,fi,fi,fi,fi,fi] (by kernel_rfl) rfl rfl ⟨hx164_0,hx166_0⟩ (fun hHeld=>?_);refine with_tabW spec_ciLine.tab9 spec_ciLine.bits9 (fun HT_ HW_=>?_)
        generalize wc.drew=w35 at HO_4 BK150 HB hx164_0 hx166_0 hHeld ⊢;refine py_ 0 47 HT_.out ?_;refine py_ 1 48 HT_.out ?_;refine py_ 4 51 HT_.out ?_;refine py_ 5 52 HT_.out ?_
        refine tw2_ 2 49 HT_.out HW_.out hHeld ?_
        refine tw2_ 6 53 HT_.out HW_.out hHeld ?_
        refine one_ (i:=3) (N:=some 50) #[ti,ti,ti,ti,ti,ti,ti,fi,fi,fi,fi] rfl rfl (one_of HT_.out (by kernel_rfl)) (by decide) (fun K hK=>?_)
        refine goes_ Tryd.func27 (by kernel_rfl) rfl #[.string (rdOf ByteArray.empty t151 1)] (by rfl) rfl rfl zd_ ?_
        with_reducible refine (spec_l1Read.calls kj25 (rdOf ByteArray.empty t151 1) t165 _ A33.out).mono ?_
        rintro e w' ⟨rfl,⟨nd,rfl⟩⟩
        refine ⟨_,rfl,?_⟩
        refine hK.out _ _ ⟨hHeld.1,hHeld.2⟩ (fun hHeld=>?_)
        clear hK K
        refine nz_ 50 ?_
        refine one_ (i:=7) (N:=some 54) #[ti,ti,ti,ti,ti,ti,ti,ti,fi,fi,fi] rfl rfl (one_of HT_.out (by kernel_rfl)) (by decide) (fun K hK=>?_)
        refine goes_ Tryd.func27 (by kernel_rfl) rfl #[.string (rdOf ByteArray.empty t151 1)] (by rfl) rfl rfl zd_ ?_
        with_reducible refine (spec_l1Read.calls kj25 (rdOf ByteArray.empty t151 1) t167 _ A34.out).mono ?_
        rintro e w' ⟨rfl,⟨nd,rfl⟩⟩
        refine ⟨_,rfl,?_⟩
        refine hK.out _ _ ⟨hHeld.1,hHeld.2⟩ (fun hHeld=>?_)
        clear hK K
        refine nz_ 54 ?_
        refine py_ 8 55 HT_.out ?_
        refine one_ (i:=9) (N:=none) #[ti,ti,ti,ti,ti,ti,ti,ti,ti,ti,fi] rfl rfl (one_of HT_.out (by kernel_rfl)) (by decide) (fun K hK=>?_)
        have hs37:w35.cell? ⟨gb150,0,none⟩=some (.int .i64 x151000_1):=(blk_cell BK150.out 0).trans rfl;have hfs37:=blk_frozen BK150.out 0;have hs38:w35.cell? ⟨gb150,1,none⟩=some (.int .i64 x151001_1):=(blk_cell BK150.out 1).trans rfl;have hfs38:=blk_frozen BK150.out 1;have hs39:w35.cell? ⟨gb150,2,none⟩=some (.int .i64 x151002_1):=(blk_cell BK150.out 2).trans rfl;have hfs39:=blk_frozen BK150.out 2
        refine skip_ (w1:=?_) (by rfl) rfl ?_ ?_
        rotate_left
        ·go_simp
         rfl
        refine hK.out _ _ ⟨((cell_far (p:=⟨gb150,_,none⟩) zca_ _).trans (((cell_far (p:=⟨gb150,_,none⟩) zca_ _).trans (((cell_far (p:=⟨gb150,_,none⟩) zca_ _).trans (hHeld.1)))))),((cell_far (p:=⟨gb150,_,none⟩) zca_ _).trans (((cell_far (p:=⟨gb150,_,none⟩) zca_ _).trans (((cell_far (p:=⟨gb150,_,none⟩) zca_ _).trans (hHeld.2))))))⟩ (fun hHeld=>?_)
        clear hK K;refine py_ 10 3 HT_.out ?_
        refine done_ (done_of HT_.out (by kernel_rfl)) ?_
        (try go_wp2)
        refine bodyPost_ret (results_ct rfl _ _ gb150 47 #[.int .i64 4,.int .i64 t165,.int .i64 t167] (0,0) _ rfl (by refine zb ?_;refine blk_put (cs:=#[.int .i64 4,.int .i64 t165,.int .i64 x151002_1]) ?_ 2 _ rfl;refine zb ?_;refine blk_put (cs:=#[.int .i64 4,.int .i64 x151001_1,.int .i64 x151002_1]) ?_ 1 _ rfl;refine zb ?_;refine blk_put (cs:=#[.int .i64 x151000_1,.int .i64 x151001_1,.int .i64 x151002_1]) ?_ 0 _ rfl;refine zb ?_;exact BK150.out) Tryd.underlying47 rfl (by kernel_rfl)) rfl ?_
        exact ⟨zf_,zbg_⟩
       ·rw [if_neg c32] at H
        exact q3n_ H
      ·replace c31:=Bool.eq_false_iff.mpr c31
       subst c31;have H1:(some (0,0,0,false))=some (r1,r2,r3,r4):=by rw [if_neg (show ¬ (false=true) by decide)] at H;exact H
       clear H;have H:=H1;clear H1
       simp only [Option.some.injEq,Prod.mk.injEq] at H
       obtain ⟨rfl,rfl,rfl,rfl⟩:=H;obtain ⟨hcz40_0,hcz40_1,hcz40_2,hfz40_0,hfz40_1,hfz40_2⟩:=zk3 BK150.out
       go_wp2
       refine bodyPost_ret (results_ct rfl _ _ gb150 47 #[.int .i64 0,.int .i64 0,.int .i64 0] (0,0) _ rfl (by refine zb ?_;refine blk_put (cs:=#[.int .i64 0,.int .i64 0,.int .i64 x151002_1]) ?_ 2 _ rfl;refine zb ?_;refine blk_put (cs:=#[.int .i64 0,.int .i64 x151001_1,.int .i64 x151002_1]) ?_ 1 _ rfl;refine zb ?_;refine blk_put (cs:=#[.int .i64 x151000_1,.int .i64 x151001_1,.int .i64 x151002_1]) ?_ 0 _ rfl;refine zb ?_;exact BK150.out) Tryd.underlying47 rfl (by kernel_rfl)) rfl ?_
       exact ⟨zf_,zbg_⟩
mutual
def spec_ParseCircuit.l0:Nat→ByteArray→List ByteArray→List ByteArray→Int→Int→Int→List (S47)→Option (Int×(List (S47))×List Int×Bool)
 | 0,_,_,_,_,_,_,_=>none
 | k+1,x0,x4,x28,x29,x30,x176000,x176001=>if x30<x29 then (if 0≤x30 then (if x30<(x28.length:Int) then ((spec_ciLine.f k (rdOf ByteArray.empty x28 x30)).bind fun bt181=>(if bt181.2.2.2=true then (if x176001.length<5864062014805 then (spec_ParseCircuit.l0 k x0 x4 x28 x29 (wrap64 (x30+1)) x176000 (x176001 ++ [(⟨bt181.1,bt181.2.1,bt181.2.2.1⟩:S47)])) else (none)) else (some (0,([]:List (S47)),([]:List Int),false)))) else (none)) else (none)) else (if 0≤(wrap64 ((x4.length:Int) - 2)) then (if (wrap64 ((x4.length:Int) - 2))<(x4.length:Int) then ((spec_l1Split.f k (rdOf ByteArray.empty x4 (wrap64 ((x4.length:Int) - 2))) 32).bind fun t190=>(if 1≤(t190.length:Int) then ((some (t190.drop (1:Int).toNat:List ByteArray)).bind fun y193=>(spec_ParseCircuit.l1 k x0 y193 (y193.length:Int) 0 x176000 x176001 ([]:List Int))) else (none))) else (none)) else (none))
def spec_ParseCircuit.l1:Nat→ByteArray→List ByteArray→Int→Int→Int→List (S47)→List Int→Option (Int×(List (S47))×List Int×Bool)
 | 0,_,_,_,_,_,_,_=>none
 | k+1,x0,x56,x57,x58,x176000,x176001,x176002=>if x58<x57 then (if 0≤x58 then (if x58<(x56.length:Int) then ((spec_l1Read.f k (rdOf ByteArray.empty x56 x58)).bind fun t197=>(if x176002.length<17592186044416 then (spec_ParseCircuit.l1 k x0 x56 x57 (wrap64 (x58+1)) x176000 x176001 (x176002 ++ [t197])) else (none))) else (none)) else (none)) else ((spec_ciGood.f k x176000 x176001 x176002).bind fun t201=>(if t201=true then ((spec_ciText.f k x176000 x176001 x176002).bind fun t202=>(if t202.toList=x0.toList then (some (x176000,x176001,x176002,true)) else (some (0,([]:List (S47)),([]:List Int),false)))) else (some (0,([]:List (S47)),([]:List Int),false))))
end
def spec_ParseCircuit.f (k:Nat) (a0:ByteArray):Option (Int×(List (S47))×List Int×Bool):=(spec_l1Split.f k a0 10).bind fun t169=>((spec_l1In.f (t169.length:Int) 3 19).bind fun t172=>(if t172=true then (if 0<(t169.length:Int) then ((spec_l1Read.f k (rdOf ByteArray.empty t169 0)).bind fun t174=>(if 1≤(wrap64 ((t169.length:Int) - 2)) then (if (wrap64 ((t169.length:Int) - 2))≤(t169.length:Int) then ((some ((t169.take ((wrap64 ((t169.length:Int) - 2)):Int).toNat).drop 1:List ByteArray)).bind fun y176=>(spec_ParseCircuit.l0 k a0 t169 y176 (y176.length:Int) 0 t174 ([]:List (S47)))) else (none)) else (none))) else (none)) else (some (0,([]:List (S47)),([]:List Int),false))))
theorem spec_ParseCircuit.mono_l:∀ k,(∀ y0 y1 y2 y3 y4 y5 y6,LeO (spec_ParseCircuit.l0 k y0 y1 y2 y3 y4 y5 y6) (spec_ParseCircuit.l0 (k+1) y0 y1 y2 y3 y4 y5 y6))∧(∀ y0 y1 y2 y3 y4 y5 y6,LeO (spec_ParseCircuit.l1 k y0 y1 y2 y3 y4 y5 y6) (spec_ParseCircuit.l1 (k+1) y0 y1 y2 y3 y4 y5 y6))
 | 0=>⟨fun _ _ _ _ _ _ _ r h=>by simp [spec_ParseCircuit.l0] at h,fun _ _ _ _ _ _ _ r h=>by simp [spec_ParseCircuit.l1] at h⟩
 | k+1=>by
  obtain ⟨ih0,ih1⟩:=spec_ParseCircuit.mono_l k
  refine ⟨?_,?_⟩
  ·intro y0 y1 y2 y3 y4 y5 y6
   unfold spec_ParseCircuit.l0
   repeat' first
   | (with_reducible exact ih0 _ _ _ _ _ _ _)
   | (with_reducible exact ih1 _ _ _ _ _ _ _)
   | (with_reducible exact spec_ciGood.mono _ _ _ _)
   | (with_reducible exact spec_ciLine.mono _ _)
   | (with_reducible exact spec_ciText.mono _ _ _ _)
   | (with_reducible exact spec_l1Read.mono _ _)
   | (with_reducible exact spec_l1Split.mono _ _ _)
   | (with_reducible exact LeO.refl _)
   | (with_reducible exact LeO.none _)
   | (with_reducible refine LeO.ite ?_ ?_)
   | (with_reducible refine LeO.bind ?_ (fun _=>?_))
   | exact ih0 _ _ _ _ _ _ _
   | exact ih1 _ _ _ _ _ _ _
   | exact spec_ciGood.mono _ _ _ _
   | exact spec_ciLine.mono _ _
   | exact spec_ciText.mono _ _ _ _
   | exact spec_l1Read.mono _ _
   | exact spec_l1Split.mono _ _ _
   | exact LeO.none _
   | refine LeO.ite ?_ ?_
   | refine LeO.bind ?_ (fun _=>?_)
  ·intro y0 y1 y2 y3 y4 y5 y6
   unfold spec_ParseCircuit.l1
   repeat' first
   | (with_reducible exact ih0 _ _ _ _ _ _ _)
   | (with_reducible exact ih1 _ _ _ _ _ _ _)
   | (with_reducible exact spec_ciGood.mono _ _ _ _)
   | (with_reducible exact spec_ciLine.mono _ _)
   | (with_reducible exact spec_ciText.mono _ _ _ _)
   | (with_reducible exact spec_l1Read.mono _ _)
   | (with_reducible exact spec_l1Split.mono _ _ _)
   | (with_reducible exact LeO.refl _)
   | (with_reducible exact LeO.none _)
   | (with_reducible refine LeO.ite ?_ ?_)
   | (with_reducible refine LeO.bind ?_ (fun _=>?_))
   | exact ih0 _ _ _ _ _ _ _
   | exact ih1 _ _ _ _ _ _ _
   | exact spec_ciGood.mono _ _ _ _
   | exact spec_ciLine.mono _ _
   | exact spec_ciText.mono _ _ _ _
   | exact spec_l1Read.mono _ _
   | exact spec_l1Split.mono _ _ _
   | exact LeO.none _
   | refine LeO.ite ?_ ?_
   | refine LeO.bind ?_ (fun _=>?_)
theorem spec_ParseCircuit.mono:∀ a0 k,LeO (spec_ParseCircuit.f k a0) (spec_ParseCircuit.f (k+1) a0):=by
 intro a0 k
 obtain ⟨ih0,ih1⟩:=spec_ParseCircuit.mono_l k
 unfold spec_ParseCircuit.f
 repeat' first
   | (with_reducible exact ih0 _ _ _ _ _ _ _)
   | (with_reducible exact ih1 _ _ _ _ _ _ _)
   | (with_reducible exact spec_ciGood.mono _ _ _ _)
   | (with_reducible exact spec_ciLine.mono _ _)
   | (with_reducible exact spec_ciText.mono _ _ _ _)
   | (with_reducible exact spec_l1Read.mono _ _)
   | (with_reducible exact spec_l1Split.mono _ _ _)
   | (with_reducible exact LeO.refl _)
   | (with_reducible exact LeO.none _)
   | (with_reducible refine LeO.ite ?_ ?_)
   | (with_reducible refine LeO.bind ?_ (fun _=>?_))
   | exact ih0 _ _ _ _ _ _ _
   | exact ih1 _ _ _ _ _ _ _
   | exact spec_ciGood.mono _ _ _ _
   | exact spec_ciLine.mono _ _
   | exact spec_ciText.mono _ _ _ _
   | exact spec_l1Read.mono _ _
   | exact spec_l1Split.mono _ _ _
   | exact LeO.none _
   | refine LeO.ite ?_ ?_
   | refine LeO.bind ?_ (fun _=>?_)
def spec_ParseCircuit.T16:Bool×List (List Nat×List Nat):=(true,[([],[]),([0],[0]),([],[]),([2],[2]),([3],[3]),([1,4,3],[1,4]),([0,1,2,3,4,5],[]),([6,5,5,0,1,2,3,4,5],[5,6])])
def spec_ParseCircuit.B16:List Nat:=[0,1,0,4,12,31,63,127]
theorem spec_ParseCircuit.tab16:rtab .any (opsOf Tryd.f10 16)=spec_ParseCircuit.T16:=by kernel_rfl
theorem spec_ParseCircuit.bits16:waitsOk spec_ParseCircuit.T16.2 spec_ParseCircuit.B16=true:=by kernel_rfl
theorem spec_ParseCircuit.calls (k:Nat) (a0:ByteArray) (r1:Int) (r2:List (S47)) (r3:List Int) (r4:Bool) (w:World) (h:spec_ParseCircuit.f k a0=some (r1,r2,r3,r4)) :
  Calls Tryd.prog 10 #[.string a0] w fun e w' => ∃ v1_ v2_:Value,e = .returned (.tuple #[.agg #[.int .i64 r1,v1_,v2_],.bool r4])∧Kd.R k47 47 w' w.heap.size (fun _=>True) v1_ r2∧Kd.R (Kd.int .i64) 3 w' w.heap.size (fun _=>True) v2_ r3∧Below w.heap.size w w':=by
 have hu31:=Tryd.underlying31
 have hu47:=Tryd.underlying47
 have HB:=aM (Below.refl w.heap.size w)
 have H:((spec_l1Split.f k a0 10).bind fun t169=>((spec_l1In.f (t169.length:Int) 3 19).bind fun t172=>(if t172=true then (if 0<(t169.length:Int) then ((spec_l1Read.f k (rdOf ByteArray.empty t169 0)).bind fun t174=>(if 1≤(wrap64 ((t169.length:Int) - 2)) then (if (wrap64 ((t169.length:Int) - 2))≤(t169.length:Int) then ((some ((t169.take ((wrap64 ((t169.length:Int) - 2)):Int).toNat).drop 1:List ByteArray)).bind fun y176=>(spec_ParseCircuit.l0 k a0 t169 y176 (y176.length:Int) 0 t174 ([]:List (S47)))) else (none)) else (none))) else (none)) else (some (0,([]:List (S47)),([]:List Int),false)))))=some (r1,r2,r3,r4):=h
 clear h
 replace H:=oB.mp H
 obtain ⟨t169,A20,H⟩:=H
 replace H:((spec_l1In.f (t169.length:Int) 3 19).bind fun t172=>(if t172=true then (if 0<(t169.length:Int) then ((spec_l1Read.f k (rdOf ByteArray.empty t169 0)).bind fun t174=>(if 1≤(wrap64 ((t169.length:Int) - 2)) then (if (wrap64 ((t169.length:Int) - 2))≤(t169.length:Int) then ((some ((t169.take ((wrap64 ((t169.length:Int) - 2)):Int).toNat).drop 1:List ByteArray)).bind fun y176=>(spec_ParseCircuit.l0 k a0 t169 y176 (y176.length:Int) 0 t174 ([]:List (S47)))) else (none)) else (none))) else (none)) else (some (0,([]:List (S47)),([]:List Int),false))))=some (r1,r2,r3,r4):=H
 have A2:=aM A20
 clear A20
 replace H:=oB.mp H
 obtain ⟨t172,A30,H⟩:=H
 replace H:(if t172=true then (if 0<(t169.length:Int) then ((spec_l1Read.f k (rdOf ByteArray.empty t169 0)).bind fun t174=>(if 1≤(wrap64 ((t169.length:Int) - 2)) then (if (wrap64 ((t169.length:Int) - 2))≤(t169.length:Int) then ((some ((t169.take ((wrap64 ((t169.length:Int) - 2)):Int).toNat).drop 1:List ByteArray)).bind fun y176=>(spec_ParseCircuit.l0 k a0 t169 y176 (y176.length:Int) 0 t174 ([]:List (S47)))) else (none)) else (none))) else (none)) else (some (0,([]:List (S47)),([]:List Int),false)))=some (r1,r2,r3,r4):=H
 have A3:=aM A30
 clear A30
 by_cases c4:t172=true
 ·subst c4
  have H1:(if 0<(t169.length:Int) then ((spec_l1Read.f k (rdOf ByteArray.empty t169 0)).bind fun t174=>(if 1≤(wrap64 ((t169.length:Int) - 2)) then (if (wrap64 ((t169.length:Int) - 2))≤(t169.length:Int) then ((some ((t169.take ((wrap64 ((t169.length:Int) - 2)):Int).toNat).drop 1:List ByteArray)).bind fun y176=>(spec_ParseCircuit.l0 k a0 t169 y176 (y176.length:Int) 0 t174 ([]:List (S47)))) else (none)) else (none))) else (none))=some (r1,r2,r3,r4):=by rw [if_pos rfl] at H;exact H
  clear H;have H:=H1;clear H1
  by_cases c5:0<(t169.length:Int)
  ·rw [if_pos c5] at H
   have c5b0:=decide_eq_true c5;have c5b1:decide (0<t169.length)=true:=decide_eq_true (by omega);clear c5;replace H:=oB.mp H;obtain ⟨t174,A60,H⟩:=H;replace H:(if 1≤(wrap64 ((t169.length:Int) - 2)) then (if (wrap64 ((t169.length:Int) - 2))≤(t169.length:Int) then ((some ((t169.take ((wrap64 ((t169.length:Int) - 2)):Int).toNat).drop 1:List ByteArray)).bind fun y176=>(spec_ParseCircuit.l0 k a0 t169 y176 (y176.length:Int) 0 t174 ([]:List (S47)))) else (none)) else (none))=some (r1,r2,r3,r4):=H;have A6:=aM A60;clear A60
   by_cases c7:1≤(wrap64 ((t169.length:Int) - 2))
   ·rw [if_pos c7] at H
    have c7b0:=eq_true c7;have c7b1:=decide_eq_true c7;clear c7
    by_cases c8:(wrap64 ((t169.length:Int) - 2))≤(t169.length:Int)
    ·rw [if_pos c8] at H
     have c8b0:=eq_true c8;have c8b1:=decide_eq_true c8;clear c8;obtain ⟨y176,hy176⟩:∃ y_:List ByteArray,y_=((t169.take ((wrap64 ((t169.length:Int) - 2)):Int).toNat).drop 1):=⟨_,rfl⟩;replace H:(spec_ParseCircuit.l0 k a0 t169 y176 (y176.length:Int) 0 t174 ([]:List (S47)))=some (r1,r2,r3,r4):=q3y_ hy176 H
     have Ny176:=aM hy176;clear hy176;have H':=aM H;clear H
     go_enter Tryd.func10,Tryd.ntmps10
     go_wp2_with (first | ((with_reducible refine gate_dst (N:=2) rfl ?_);refine box_event ?hg (N:=2) ?hd (cs:=#[.int .i64 0,.slice none 0 0,.slice none 0 0]) (t:=31) ?hr ?_;(case hd=>rfl);(case hg=>rfl);(case hr=>exact ze_);intro gb168 hg w9 hbox hb;have n_:=z (below_step zb_ hb)<|z (hbox)<|z ((by rw [hg];exact (below_size zb_):w.heap.size≤gb168))<|z1 ((by rw [hg];exact (below_size zb_):w.heap.size≤gb168));clear HB;obtain ⟨HB,BK168,GW168,GE168⟩:=n_;clear hb hbox hg)|((with_reducible refine gate_callee (f:=25) rfl ?_);refine goesL_ (some 13) rfl rfl Tryd.func25 (by kernel_rfl) rfl #[.string a0,.int .u8 10] rfl zd_ ?_;(with_reducible refine (spec_l1Split.calls k a0 10 t169 _ A2.out).mono ?_);rintro e w10 ⟨v170,rfl,ho0,hb⟩;refine ⟨_,rfl,?_⟩;have n_:=z (Kd.R_lower ho0 (below_size zcg_))<|z (blk_below (zb BK168.out) hb)<|z1 (below_step zcg_ hb);clear BK168 HB;obtain ⟨HO171,BK168,HB⟩:=n_;clear hb;(try clear ho0);obtain ⟨Ao11,co11,eo11⟩:=Kd.R_slice HO171.out;subst eo11)|((with_reducible refine gate_callee (f:=26) rfl ?_);refine goesL_ (some 16) rfl rfl Tryd.func26 (by kernel_rfl) rfl #[.int .i64 (t169.length:Int),.int .i64 3,.int .i64 19] rfl zd_ ?_;(with_reducible refine (spec_l1In.calls (t169.length:Int) 3 19 true _ A3.out).mono ?_);rintro e w' ⟨rfl,⟨nd,rfl⟩⟩;refine ⟨_,rfl,?_⟩;(try (rw [drewN_self w10];generalize hq_:World.drewN w10 _=w10;have n0_:Aside0 (Kd.R Kd.string 9 w10 w.heap.size (fun _=>True) (.slice Ao11 t169.length co11) t169):=⟨by rw [← hq_];exact (zr HO171.out)⟩;have n1_:Aside0 (w10.heap[gb168]?=some (.cells #[.int .i64 0,.slice none 0 0,.slice none 0 0] 31 (0,0))):=⟨by rw [← hq_];exact (zb BK168.out)⟩;have n2_:Aside0 (Below w.heap.size w w10):=⟨zej_⟩;clear HO171 BK168 HB hq_;have HO171:=n0_;have BK168:=n1_;have HB:=n2_;clear n0_ n1_ n2_));have p173:0≤(0:Int):=(by omega);have q173:0<(t169.length:Int):=of_decide_eq_true za_;obtain ⟨ad173,e173,hx173_0⟩:=Kd.at_string (Kd.R_reads' HO171.out).2.2 0 p173 q173;cases e173;have qi173:(0<t169.length)=True:=eq_true (by omega);(try rw [show ((0:Int)).toNat=0 from rfl] at hx173_0);(try rw [Addr.add_zero'] at hx173_0);replace p173:=eq_true p173;replace q173:=eq_true q173)|((with_reducible refine gate_callee (f:=27) rfl ?_);refine goesL_ (some 22) rfl rfl Tryd.func27 (by kernel_rfl) rfl #[.string (rdOf ByteArray.empty t169 0)] rfl zd_ ?_;(with_reducible refine (spec_l1Read.calls k (rdOf ByteArray.empty t169 0) t174 _ A6.out).mono ?_);rintro e w' ⟨rfl,⟨nd,rfl⟩⟩;refine ⟨_,rfl,?_⟩;(try (rw [drewN_self w10];generalize hq_:World.drewN w10 _=w10;have n0_:Aside0 (Kd.R Kd.string 9 w10 w.heap.size (fun _=>True) (.slice (some ad173) t169.length co11) t169):=⟨by rw [← hq_];exact (zr HO171.out)⟩;have n1_:Aside0 (w10.heap[gb168]?=some (.cells #[.int .i64 0,.slice none 0 0,.slice none 0 0] 31 (0,0))):=⟨by rw [← hq_];exact (zb BK168.out)⟩;have n2_:Aside0 (Below w.heap.size w w10):=⟨zej_⟩;clear HO171 BK168 HB hq_;have HO171:=n0_;have BK168:=n1_;have HB:=n2_;clear n0_ n1_ n2_)))|((with_reducible refine gate_dst (N:=5) rfl ?_);refine box_event ?hg (N:=5) ?hd (cs:=#[.int .i64 0,.slice none 0 0,.slice none 0 0]) (t:=31) ?hr ?_;(case hd=>rfl);(case hg=>rfl);(case hr=>exact ze_);intro gb175 hg w12 hbox hb;have n_:=z (Kd.R_below (zr HO171.out) hb)<|z (blk_below (zb BK168.out) hb)<|z (below_step zcg_ hb)<|z (hbox)<|z ((by rw [hg];exact (below_size zcg_):w.heap.size≤gb175))<|z ((by rw [hg];exact (below_size zcg_):w.heap.size≤gb175))<|z ((by rw [hg];exact Nat.ne_of_lt (blk_lt (zb BK168.out)):gb168≠gb175))<|z1 ((by rw [hg];exact Nat.ne_of_gt (blk_lt (zb BK168.out)):gb175≠gb168));clear HO171 BK168 HB;obtain ⟨HO171,BK168,HB,BK175,GW175,GE175,NB168_175,NB175_168⟩:=n_;clear hb hbox hg;have hnb13:=NB175_168.out;have hnc13:=NB168_175.out;obtain ⟨hcz14_0,hcz14_1,hcz14_2,hfz14_0,hfz14_1,hfz14_2⟩:=zk3 BK175.out)|((with_reducible refine gate_store (t:=31) (p:=5) rfl ?_);refine store_event (t:=31) (p:=5) (v:=?vo_w15) (w1:=(((w12.setCell ⟨gb175,0,none⟩ (.int .i64 t174)).setCell ⟨gb175,1,none⟩ (.slice none 0 0)).setCell ⟨gb175,2,none⟩ (.slice none 0 0))) ?hg ?ho ?hn ?hr ?_;(case ho=>rfl);(case hg=>rfl);(case hn=>rfl);(case hr=>exact ze_);intro w15 hw;have n0_:Aside0 (Kd.R Kd.string 9 w15 w.heap.size (fun _=>True) (.slice (some ad173) t169.length co11) t169):=⟨(by rw [hw];exact (by refine zr ?_;exact Kd.R_mono (Kd.R_far (p:=⟨gb175,2,none⟩) (Kd.R_far (p:=⟨gb175,1,none⟩) (Kd.R_far (p:=⟨gb175,0,none⟩) (Kd.R_types HO171.out BK175.out (by decide)) (fun _ hk=>hk.2) (.int .i64 t174)) (fun _ hk=>hk.2) (.slice none 0 0)) (fun _ hk=>hk.2) (.slice none 0 0)) (fun _ hk=>trivial)))⟩;have n1_:Aside0 (w15.heap[gb168]?=some (.cells #[.int .i64 0,.slice none 0 0,.slice none 0 0] 31 (0,0))):=⟨(by rw [hw];exact (by refine zb ?_;refine blk_far ?_ NB168_175.out _;refine zb ?_;refine blk_far ?_ NB168_175.out _;refine zb ?_;refine blk_far ?_ NB168_175.out _;refine zb ?_;exact BK168.out))⟩;have n2_:Aside0 (w15.heap[gb175]?=some (.cells #[.int .i64 t174,.slice none 0 0,.slice none 0 0] 31 (0,0))):=⟨(by rw [hw];exact (by refine zb ?_;refine blk_put (cs:=#[.int .i64 t174,.slice none 0 0,.slice none 0 0]) ?_ 2 _ rfl;refine zb ?_;refine blk_put (cs:=#[.int .i64 t174,.slice none 0 0,.slice none 0 0]) ?_ 1 _ rfl;refine zb ?_;refine blk_put (cs:=#[.int .i64 0,.slice none 0 0,.slice none 0 0]) ?_ 0 _ rfl;refine zb ?_;exact BK175.out))⟩;have n3_:Aside0 (Below w.heap.size w w15):=⟨(by rw [hw];exact zbb_)⟩;clear hw HO171 BK168 BK175 HB;have HO171:=n0_;have BK168:=n1_;have BK175:=n2_;have HB:=n3_;clear n0_ n1_ n2_ n3_;have q16:((wrap64 ((t169.length:Int) - 2)):Int)≤((t169.length:Int):Int):=of_decide_eq_true za_;obtain ⟨i016,hi016,_,hsz16,_⟩:=info_parts info9;have hroom16:t169.length≤co11:=(Kd.R_reads' HO171.out).2.1;have hC16:Kd.C Kd.string _ (some ad173) t169.length t169:=(Kd.R_reads' HO171.out).2.2;have ql16:(1:Int)≤((wrap64 ((t169.length:Int) - 2)):Int):=of_decide_eq_true za_;have hcut16:=cut_mid (P:=Tryd.prog) 52 9 .i64 .i64 Tryd.underlying52 hi016 1 hsz16 (some ad173) t169.length co11 1 (wrap64 ((t169.length:Int) - 2)) (by omega) ql16 q16 hroom16;have hr16:=Kd.C_mid (lo:=(1:Int).toNat) (hi:=((wrap64 ((t169.length:Int) - 2)):Int).toNat) (c:=co11) hC16 (by omega) (by omega) hroom16;obtain ⟨A16,hA16⟩:∃ A1,A1=(if co11=(1:Int).toNat then (some ad173) else ((some ad173):Option Addr).map (·.add ((1:Int).toNat * 1))):=⟨_,rfl⟩;obtain ⟨c16,hc16⟩:∃ c1,c1=co11 - (1:Int).toNat:=⟨_,rfl⟩;have hy16:y176.length=((wrap64 ((t169.length:Int) - 2)):Int).toNat - (1:Int).toNat:=(by rw [Ny176.out,lD,lT] <;> omega);rw [show ((t169).take ((wrap64 ((t169.length:Int) - 2)):Int).toNat).drop (1:Int).toNat=y176 from Ny176.out.symm] at hr16;replace hr16:Kd.C Kd.string _ A16 y176.length y176:=(by rw [hA16];exact hr16);rw [← hy16,← hA16,← hc16] at hcut16;have HR179:=aM hr16;have HC179:=aM (show y176.length≤c16 from by rw [hy16,hc16];exact Nat.sub_le_sub_right (Nat.le_trans (by omega) hroom16) _);clear hr16 hC16 hroom16 hi016 hsz16 hc16;have KY16:=aM hy16;have KA16:=aM hA16;clear hy16 hA16;have KL16:=aM (show ((wrap64 ((t169.length:Int) - 2)):Int).toNat≤t169.length from by omega);have KM16:=aM (show 1≤((wrap64 ((t169.length:Int) - 2)):Int).toNat from by omega);replace q16:=eq_true q16))
     go_loopg [30] k (fun kq v30 w' => ∃ (x30_1:Int) (x169000_1:Int) (x176001_1:List (S47)) (u176001:Value),v30 = .int .i64 x30_1∧Aside0 (spec_ParseCircuit.l0 kq a0 t169 y176 (y176.length:Int) x30_1 t174 x176001_1=some (r1,r2,r3,r4))∧Aside0 (kq≤k)∧Aside0 (Kd.R Kd.string 9 w' w.heap.size (fun _=>True) (.slice (some ad173) t169.length co11) t169)∧Aside0 (Kd.R k47 47 w' w.heap.size (fun _=>True) u176001 x176001_1)∧Aside0 (w'.heap[gb168]?=some (.cells #[.int .i64 x169000_1,(.slice none 0 0),(.slice none 0 0)] 31 (0,0)))∧Aside0 (w'.heap[gb175]?=some (.cells #[.int .i64 t174,u176001,(.slice none 0 0)] 31 (0,0)))∧Aside0 (Kd.C Kd.string w' A16 y176.length y176)∧Aside0 (Below w.heap.size w w'))
     case atStart=>exact ⟨(0),(0),(([]:List (S47))),(.slice none 0 0),zc_,H',⟨Nat.le_refl _⟩,⟨zr HO171.out⟩,⟨zi_⟩,⟨zb BK168.out⟩,⟨zb BK175.out⟩,⟨zdg_⟩,⟨zbb_⟩⟩
     case round =>
      clear H';(try clear c1);(try clear c5b0);(try clear c5b1);(try clear c7b0);(try clear c7b1);(try clear c8b0);(try clear c8b1);(try clear c16);(try clear q16);(try clear hcz14_0);(try clear hcz14_1);(try clear hcz14_2);(try clear hfz14_0);(try clear hfz14_1);(try clear hfz14_2);(try clear hx173_0);(try clear p173);(try clear q173);obtain ⟨x30_1,x169000_1,x176001_1,u176001,rfl,HA,HK1,HO_4,HO_176001,BK168,BK175,HR179,HB⟩:=hrel
      cases gk with
      | zero=>exact absurd HA.out (by simp [spec_ParseCircuit.l0])
      | succ k1 =>
       have H:=HA.out;clear HA
       simp only [spec_ParseCircuit.l0] at H
       by_cases c17:x30_1<(y176.length:Int)
       ·rw [if_pos c17] at H
        have c17b0:=decide_eq_true c17;clear c17
        by_cases c18:0≤x30_1
        ·rw [if_pos c18] at H
         have c18b0:=decide_eq_true c18;clear c18
         by_cases c19:x30_1<(y176.length:Int)
         ·rw [if_pos c19] at H
          have c19b0:=decide_eq_true c19;clear c19;replace H:=oB.mp H;obtain ⟨⟨t181,t182,t183,t184⟩,A200,H⟩:=H;replace H:(if t184=true then (if x176001_1.length<5864062014805 then (spec_ParseCircuit.l0 k1 a0 t169 y176 (y176.length:Int) (wrap64 (x30_1+1)) t174 (x176001_1 ++ [(⟨t181,t182,t183⟩:S47)])) else (none)) else (some (0,([]:List (S47)),([]:List Int),false)))=some (r1,r2,r3,r4):=H;have A20:=aM A200;clear A200
          by_cases c21:t184=true
          ·subst c21
           have H1:(if x176001_1.length<5864062014805 then (spec_ParseCircuit.l0 k1 a0 t169 y176 (y176.length:Int) (wrap64 (x30_1+1)) t174 (x176001_1 ++ [(⟨t181,t182,t183⟩:S47)])) else (none))=some (r1,r2,r3,r4):=by rw [if_pos rfl] at H;exact H
           clear H;have H:=H1;clear H1
           by_cases c22:x176001_1.length<5864062014805
           ·rw [if_pos c22] at H
            have LMc22:=aM c22;clear c22;obtain ⟨y186,hy186⟩:∃ y_:List (S47),y_=(x176001_1 ++ [(⟨t181,t182,t183⟩:S47)]):=⟨_,rfl⟩;replace H:(spec_ParseCircuit.l0 k1 a0 t169 y176 (y176.length:Int) (wrap64 (x30_1+1)) t174 y186)=some (r1,r2,r3,r4):=q3y_ hy186 H
            have Ny186:=aM hy186;clear hy186;have H':=aM H;clear H;have p180:0≤(x30_1:Int):=of_decide_eq_true za_;have q180:x30_1<(y176.length:Int):=of_decide_eq_true za_;obtain ⟨ad180,e180,hx180_0⟩:=Kd.at_string HR179.out x30_1 p180 q180
            cases e180
            (try (replace hx180_0:=q3h_ HB.out hx180_0));replace p180:=eq_true p180;replace q180:=eq_true q180
            go_wp2_with (first | ((with_reducible refine gate_callee (f:=28) rfl ?_);refine goesL_ (some 36) rfl rfl Tryd.func28 (by kernel_rfl) rfl #[.string (rdOf ByteArray.empty y176 x30_1)] rfl zd_ ?_;(with_reducible refine (spec_ciLine.calls k1 (rdOf ByteArray.empty y176 x30_1) t181 t182 t183 true _ A20.out).mono ?_);rintro e w23 ⟨rfl,hb⟩;refine ⟨_,rfl,?_⟩;have n_:=z (Kd.R_below (zr HO_4.out) hb)<|z (Kd.R_below (zr HO_176001.out) hb)<|z (blk_below (zb BK168.out) hb)<|z (blk_below (zb BK175.out) hb)<|z (Kd.C_below zdg_ hb)<|z1 (below_step zbb_ hb);clear HO_4 HO_176001 BK168 BK175 HR179 HB;obtain ⟨HO_4,HO_176001,BK168,BK175,HR179,HB⟩:=n_;clear hb)|((with_reducible refine gate_dst (N:=8) rfl ?_);refine box_event ?hg (N:=8) ?hd (cs:=#[.int .i64 0,.int .i64 0,.int .i64 0]) (t:=47) ?hr ?_;(case hd=>rfl);(case hg=>rfl);(case hr=>exact ze_);intro gb185 hg w24 hbox hb;have n_:=z (Kd.R_below (zr HO_4.out) hb)<|z (Kd.R_below (Kd.R_elderB (zr HO_176001.out) gb185 (Nat.le_of_eq hg.symm)) hb)<|z (blk_below (zb BK168.out) hb)<|z (blk_below (zb BK175.out) hb)<|z (Kd.C_below zdg_ hb)<|z (below_step zbb_ hb)<|z (hbox)<|z ((by rw [hg];exact (below_size zbb_):w.heap.size≤gb185))<|z ((by rw [hg];exact (below_size zbb_):w.heap.size≤gb185))<|z ((by rw [hg];exact Nat.ne_of_lt (blk_lt (zb BK168.out)):gb168≠gb185))<|z ((by rw [hg];exact Nat.ne_of_gt (blk_lt (zb BK168.out)):gb185≠gb168))<|z ((by rw [hg];exact Nat.ne_of_lt (blk_lt (zb BK175.out)):gb175≠gb185))<|z1 ((by rw [hg];exact Nat.ne_of_gt (blk_lt (zb BK175.out)):gb185≠gb175));clear HO_4 HO_176001 BK168 BK175 HR179 HB;obtain ⟨HO_4,HO_176001,BK168,BK175,HR179,HB,BK185,GW185,GE185,NB168_185,NB185_168,NB175_185,NB185_175⟩:=n_;clear hb hbox hg;have hnb25:=NB185_168.out;have hnc25:=NB168_185.out;have hnb26:=NB185_175.out;have hnc26:=NB175_185.out;obtain ⟨hcz27_0,hcz27_1,hcz27_2,hfz27_0,hfz27_1,hfz27_2⟩:=zk3 BK185.out;have hnb28:=NB175_168.out;have hnc28:=NB168_175.out;obtain ⟨hcz29_0,hcz29_1,hcz29_2,hfz29_0,hfz29_1,hfz29_2⟩:=zk3 BK175.out)|((with_reducible refine gate_builtin (b := .append) (xs:=#[.tmp 43,.tmp 45]) rfl ?_);at_builtin;refine Kd.R_append k47 (w0:=w) w.heap.size rfl (.tmp 43) (.tmp 45) 29 47 (.agg #[(.int .i64 0),(.int .i64 0),(.int .i64 0)]) 24 rfl Tryd.underlying29 info47 rfl (by decide) (by omega) u176001 x176001_1 (⟨t181,t182,t183⟩:S47) [.int .i64 t181,.int .i64 t182,.int .i64 t183] (fun k_=>k_≠gb185) (fun _=>False) rfl ze_ ?aP (fun _ hk=>hk.elim) ?aF ?aO ?aB ?aS ?aL ?_;(case aP=>exact k47_mkM _ _ _ (⟨t181,t182,t183⟩:S47));(case aB=>exact zef_);(case aF=>exact (fun k_ hk=>Kd.freshB (g:=gb185) (o := .cells #[.int .i64 t181,.int .i64 t182,.int .i64 t183] 47 (0,0)) (by refine zb ?_;refine blk_put (cs:=#[.int .i64 t181,.int .i64 t182,.int .i64 0]) ?_ 2 _ rfl;refine zb ?_;refine blk_put (cs:=#[.int .i64 t181,.int .i64 0,.int .i64 0]) ?_ 1 _ rfl;refine zb ?_;refine blk_put (cs:=#[.int .i64 0,.int .i64 0,.int .i64 0]) ?_ 0 _ rfl;refine zb ?_;exact BK185.out) k_ hk));(case aO=>exact (by refine zr ?_;exact Kd.R_mono (Kd.R_far (p:=⟨gb185,2,none⟩) (Kd.R_far (p:=⟨gb185,1,none⟩) (Kd.R_far (p:=⟨gb185,0,none⟩) (Kd.R_mono HO_176001.out (fun k_ hk=>(⟨hk,hk.2⟩:_∧k_≠gb185))) (fun _ hk=>hk.2) (.int .i64 t181)) (fun _ hk=>hk.2) (.int .i64 t182)) (fun _ hk=>hk.2) (.int .i64 t183)) (fun _ hk=>hk.1.2)));(case aS=>exact (below_size zef_));(case aL=>have:=LMc22.out;omega);intro v187 w30 ho hb hg hat;rw [← Ny186.out] at ho;have n0_:=aM (Kd.R_over' (by refine zr ?_;exact (Kd.R_mono (Kd.R_far (p:=⟨gb185,2,none⟩) (Kd.R_far (p:=⟨gb185,1,none⟩) (Kd.R_far (p:=⟨gb185,0,none⟩) (Kd.R_types HO_4.out BK185.out (by decide)) (fun _ hk=>hk.2) (.int .i64 t181)) (fun _ hk=>hk.2) (.int .i64 t182)) (fun _ hk=>hk.2) (.int .i64 t183)) (fun _ h_=>h_.1))) (Kd.R_typed (by refine zr ?_;exact (Kd.R_mono (Kd.R_far (p:=⟨gb185,2,none⟩) (Kd.R_far (p:=⟨gb185,1,none⟩) (Kd.R_far (p:=⟨gb185,0,none⟩) (Kd.R_mono HO_176001.out (fun k_ hk=>(⟨hk,hk.2⟩:_∧k_≠gb185))) (fun _ hk=>hk.2) (.int .i64 t181)) (fun _ hk=>hk.2) (.int .i64 t182)) (fun _ hk=>hk.2) (.int .i64 t183)) (fun _ h_=>h_.1)))) (by decide) hg);have n1_:=aM (blk_grown (g:=gb168) (o := .cells #[.int .i64 x169000_1,.slice none 0 0,.slice none 0 0] 31 (0,0)) (by refine zb ?_;refine blk_far ?_ NB168_185.out _;refine zb ?_;refine blk_far ?_ NB168_185.out _;refine zb ?_;refine blk_far ?_ NB168_185.out _;refine zb ?_;exact BK168.out) hg (Kd.R_ne HO_176001.out BK168.out (by decide)));have n2_:=aM (blk_grown (g:=gb175) (o := .cells #[.int .i64 t174,u176001,.slice none 0 0] 31 (0,0)) (by refine zb ?_;refine blk_far ?_ NB175_185.out _;refine zb ?_;refine blk_far ?_ NB175_185.out _;refine zb ?_;refine blk_far ?_ NB175_185.out _;refine zb ?_;exact BK175.out) hg (Kd.R_ne HO_176001.out BK175.out (by decide)));have n3_:=aM (blk_grown (g:=gb185) (o := .cells #[.int .i64 t181,.int .i64 t182,.int .i64 t183] 47 (0,0)) (by refine zb ?_;refine blk_put (cs:=#[.int .i64 t181,.int .i64 t182,.int .i64 0]) ?_ 2 _ rfl;refine zb ?_;refine blk_put (cs:=#[.int .i64 t181,.int .i64 0,.int .i64 0]) ?_ 1 _ rfl;refine zb ?_;refine blk_put (cs:=#[.int .i64 0,.int .i64 0,.int .i64 0]) ?_ 0 _ rfl;refine zb ?_;exact BK185.out) hg (Kd.R_away HO_176001.out (fun _ hk=>hk.2)));have n4_:=aM (hb);have n5_:=aM ((show Kd.C Kd.string w30 (some ad180) y176.length y176 from by have h_:=Kd.C_mid (lo:=(1:Int).toNat) (hi:=((wrap64 ((t169.length:Int) - 2)):Int).toNat) (c:=co11) ((Kd.R_reads' n0_.out).2.2) KM16.out KL16.out ((Kd.R_reads' n0_.out).2.1);rw [show ((t169).take ((wrap64 ((t169.length:Int) - 2)):Int).toNat).drop (1:Int).toNat=y176 from Ny176.out.symm] at h_;rw [KA16.out];exact h_));have n6_:=aM (ho);clear HO_4 BK168 BK175 BK185 HB HR179 HO_176001;have HO_4:=n0_;have BK168:=n1_;have BK175:=n2_;have BK185:=n3_;have HB:=n4_;have HR179:=n5_;have HO188:=n6_;clear n0_ n1_ n2_ n3_ n4_ n5_ n6_ ho hb hg hat;obtain ⟨Ao31,co31,eo31⟩:=Kd.R_slice HO188.out;subst eo31;obtain ⟨hcz32_0,hcz32_1,hcz32_2,hfz32_0,hfz32_1,hfz32_2⟩:=zk3 BK175.out))
            go_roundg k1
            case measure=>have:=HK1.out;omega
            case rel=>exact ⟨(wrap64 (x30_1+1)),(x169000_1),(y186),(.slice Ao31 y186.length co31),zc_,H',⟨zbd_⟩,⟨by refine zr ?_;exact Kd.R_mono (Kd.R_far (p:=⟨gb175,1,none⟩) (Kd.R_types HO_4.out BK175.out (by decide)) (fun _ hk=>hk.2) (.slice Ao31 y186.length co31)) (fun _ hk=>trivial)⟩,⟨by refine zr ?_;exact Kd.R_mono (Kd.R_far (p:=⟨gb175,1,none⟩) (Kd.R_types HO188.out BK175.out (by decide)) (fun _ hk=>hk.2) (.slice Ao31 y186.length co31)) (fun _ hk=>trivial)⟩,⟨by refine zb ?_;refine blk_far ?_ NB168_175.out _;refine zb ?_;exact BK168.out⟩,⟨by refine zb ?_;refine blk_put (cs:=#[.int .i64 t174,u176001,.slice none 0 0]) ?_ 1 _ rfl;refine zb ?_;exact BK175.out⟩,⟨by have h0_:Kd.R Kd.string 9 (w30.setCell ⟨gb175,1,none⟩ (.slice Ao31 y186.length co31)) w.heap.size _ _ t169:=(by refine zr ?_;exact (Kd.R_mono (Kd.R_far (p:=⟨gb175,1,none⟩) (Kd.R_types HO_4.out BK175.out (by decide)) (fun _ hk=>hk.2) (.slice Ao31 y186.length co31)) (fun _ h_=>h_.1)));have h_:=Kd.C_mid (lo:=(1:Int).toNat) (hi:=((wrap64 ((t169.length:Int) - 2)):Int).toNat) (c:=co11) ((Kd.R_reads' h0_).2.2) KM16.out KL16.out ((Kd.R_reads' h0_).2.1);rw [show ((t169).take ((wrap64 ((t169.length:Int) - 2)):Int).toNat).drop (1:Int).toNat=y176 from Ny176.out.symm] at h_;rw [KA16.out];exact h_⟩,⟨zef_⟩⟩
           ·rw [if_neg c22] at H
            exact q3n_ H
          ·replace c21:=Bool.eq_false_iff.mpr c21
           subst c21;have H1:(some (0,([]:List (S47)),([]:List Int),false))=some (r1,r2,r3,r4):=by rw [if_neg (show ¬ (false=true) by decide)] at H;exact H
           clear H;have H:=H1;clear H1
           simp only [Option.some.injEq,Prod.mk.injEq] at H
           obtain ⟨rfl,rfl,rfl,rfl⟩:=H;have p180:0≤(x30_1:Int):=of_decide_eq_true za_;have q180:x30_1<(y176.length:Int):=of_decide_eq_true za_;obtain ⟨ad180,e180,hx180_0⟩:=Kd.at_string HR179.out x30_1 p180 q180
           cases e180
           (try (replace hx180_0:=q3h_ HB.out hx180_0));replace p180:=eq_true p180;replace q180:=eq_true q180
           go_wp2_with (first | ((with_reducible refine gate_callee (f:=28) rfl ?_);refine goesL_ (some 36) rfl rfl Tryd.func28 (by kernel_rfl) rfl #[.string (rdOf ByteArray.empty y176 x30_1)] rfl zd_ ?_;(with_reducible refine (spec_ciLine.calls k1 (rdOf ByteArray.empty y176 x30_1) t181 t182 t183 false _ A20.out).mono ?_);rintro e w33 ⟨rfl,hb⟩;refine ⟨_,rfl,?_⟩;have n_:=z (Kd.R_below (zr HO_4.out) hb)<|z (Kd.R_below (zr HO_176001.out) hb)<|z (blk_below (zb BK168.out) hb)<|z (blk_below (zb BK175.out) hb)<|z (Kd.C_below zdg_ hb)<|z1 (below_step zbb_ hb);clear HO_4 HO_176001 BK168 BK175 HR179 HB;obtain ⟨HO_4,HO_176001,BK168,BK175,HR179,HB⟩:=n_;clear hb)|((with_reducible refine gate_dst (N:=8) rfl ?_);refine box_event ?hg (N:=8) ?hd (cs:=#[.int .i64 0,.int .i64 0,.int .i64 0]) (t:=47) ?hr ?_;(case hd=>rfl);(case hg=>rfl);(case hr=>exact ze_);intro gb185 hg w34 hbox hb;have n_:=z (Kd.R_below (zr HO_4.out) hb)<|z (Kd.R_below (Kd.R_elderB (zr HO_176001.out) gb185 (Nat.le_of_eq hg.symm)) hb)<|z (blk_below (zb BK168.out) hb)<|z (blk_below (zb BK175.out) hb)<|z (Kd.C_below zdg_ hb)<|z (below_step zbb_ hb)<|z (hbox)<|z ((by rw [hg];exact (below_size zbb_):w.heap.size≤gb185))<|z ((by rw [hg];exact (below_size zbb_):w.heap.size≤gb185))<|z ((by rw [hg];exact Nat.ne_of_lt (blk_lt (zb BK168.out)):gb168≠gb185))<|z ((by rw [hg];exact Nat.ne_of_gt (blk_lt (zb BK168.out)):gb185≠gb168))<|z ((by rw [hg];exact Nat.ne_of_lt (blk_lt (zb BK175.out)):gb175≠gb185))<|z1 ((by rw [hg];exact Nat.ne_of_gt (blk_lt (zb BK175.out)):gb185≠gb175));clear HO_4 HO_176001 BK168 BK175 HR179 HB;obtain ⟨HO_4,HO_176001,BK168,BK175,HR179,HB,BK185,GW185,GE185,NB168_185,NB185_168,NB175_185,NB185_175⟩:=n_;clear hb hbox hg;have hnb35:=NB185_168.out;have hnc35:=NB168_185.out;have hnb36:=NB185_175.out;have hnc36:=NB175_185.out;obtain ⟨hcz37_0,hcz37_1,hcz37_2,hfz37_0,hfz37_1,hfz37_2⟩:=zk3 BK185.out;have hnb38:=NB168_175.out;have hnc38:=NB175_168.out;obtain ⟨hcz39_0,hcz39_1,hcz39_2,hfz39_0,hfz39_1,hfz39_2⟩:=zk3 BK168.out))
           refine bodyPost_ret (results_ct rfl _ _ gb168 31 #[.int .i64 0,.slice none 0 0,.slice none 0 0] (0,0) _ rfl (by refine zb ?_;refine blk_put (cs:=#[.int .i64 0,.slice none 0 0,.slice none 0 0]) ?_ 2 _ rfl;refine zb ?_;refine blk_put (cs:=#[.int .i64 0,.slice none 0 0,.slice none 0 0]) ?_ 1 _ rfl;refine zb ?_;refine blk_put (cs:=#[.int .i64 x169000_1,.slice none 0 0,.slice none 0 0]) ?_ 0 _ rfl;refine zb ?_;refine blk_far ?_ NB168_185.out _;refine zb ?_;refine blk_far ?_ NB168_185.out _;refine zb ?_;refine blk_far ?_ NB168_185.out _;refine zb ?_;exact BK168.out) Tryd.underlying31 rfl (by kernel_rfl)) rfl ?_
           exact ⟨_,_,zf_,zi_,zi_,zef_⟩
         ·rw [if_neg c19] at H
          exact q3n_ H
        ·rw [if_neg c18] at H
         exact q3n_ H
       ·rw [if_neg c17] at H
        have c17b0:=decide_eq_false c17;clear c17;obtain ⟨ji40,hji40⟩:∃ j_:Int,(wrap64 ((t169.length:Int) - 2))=j_:=⟨_,rfl⟩;replace H:(if 0≤(ji40) then (if (ji40)<(t169.length:Int) then ((spec_l1Split.f k1 (rdOf ByteArray.empty t169 (ji40)) 32).bind fun t190=>(if 1≤(t190.length:Int) then ((some (t190.drop (1:Int).toNat:List ByteArray)).bind fun y193=>(spec_ParseCircuit.l1 k1 a0 y193 (y193.length:Int) 0 t174 x176001_1 ([]:List Int))) else (none))) else (none)) else (none))=some (r1,r2,r3,r4):=by first | (rw [hji40] at H;exact H)|(simp only [hji40] at H ⊢;exact H)
        (try rw [hji40] at c7b0);(try rw [hji40] at c7b1);(try rw [hji40] at c8b0);(try rw [hji40] at c8b1);have hji40w:(IntKind.i64.wrap ((t169.length:Int) - 2))=ji40:=(i64_w _).trans hji40
        by_cases c41:0≤(ji40)
        ·rw [if_pos c41] at H
         have c41b0:=decide_eq_true c41;clear c41
         by_cases c42:(ji40)<(t169.length:Int)
         ·rw [if_pos c42] at H
          have c42b0:=decide_eq_true c42;clear c42;replace H:=oB.mp H;obtain ⟨t190,A430,H⟩:=H;replace H:(if 1≤(t190.length:Int) then ((some (t190.drop (1:Int).toNat:List ByteArray)).bind fun y193=>(spec_ParseCircuit.l1 k1 a0 y193 (y193.length:Int) 0 t174 x176001_1 ([]:List Int))) else (none))=some (r1,r2,r3,r4):=H;have A43:=aM A430;clear A430
          by_cases c44:1≤(t190.length:Int)
          ·rw [if_pos c44] at H
           have c44b0:=eq_true c44;have c44b1:=decide_eq_true c44;clear c44;obtain ⟨y193,hy193⟩:∃ y_:List ByteArray,y_=(t190.drop (1:Int).toNat):=⟨_,rfl⟩;replace H:(spec_ParseCircuit.l1 k1 a0 y193 (y193.length:Int) 0 t174 x176001_1 ([]:List Int))=some (r1,r2,r3,r4):=q3y_ hy193 H
           have Ny193:=aM hy193;clear hy193;have H':=aM H;clear H;have p189:0≤((ji40):Int):=of_decide_eq_true za_;have q189:(ji40)<(t169.length:Int):=of_decide_eq_true za_;obtain ⟨ad189,e189,hx189_0⟩:=Kd.at_string (Kd.R_reads' HO_4.out).2.2 (ji40) p189 q189;obtain rfl:ad173=ad189:=(by injection e189);replace p189:=eq_true p189;replace q189:=eq_true q189
           go_wp2_with (first | ((with_reducible refine gate_callee (f:=25) rfl ?_);refine goesL_ (some 55) rfl rfl Tryd.func25 (by kernel_rfl) rfl #[.string (rdOf ByteArray.empty t169 (ji40)),.int .u8 32] rfl (by (try simp only [mT,mC,mN]);first | done | (simp only [hji40];rfl) | rfl | (simp only [lD,lT];rfl)) ?_;(with_reducible refine (spec_l1Split.calls k1 (rdOf ByteArray.empty t169 (ji40)) 32 t190 _ A43.out).mono ?_);rintro e w45 ⟨v191,rfl,ho0,hb⟩;refine ⟨_,rfl,?_⟩;have n_:=z (Kd.R_elder' (zr HO_4.out) (Kd.R_base ho0) hb)<|z (Kd.R_below (zr HO_176001.out) hb)<|z (Kd.R_lower (Kd.R_new' ho0 (Kd.R_lt (zr HO_4.out))) (below_size zbb_))<|z (blk_below (zb BK168.out) hb)<|z (blk_below (zb BK175.out) hb)<|z (Kd.C_below zdg_ hb)<|z1 (below_step zbb_ hb);clear HO_4 HO_176001 BK168 BK175 HR179 HB;obtain ⟨HO_4,HO_176001,HO192,BK168,BK175,HR179,HB⟩:=n_;clear hb;(try clear ho0);obtain ⟨Ao46,co46,eo46⟩:=Kd.R_slice HO192.out;subst eo46;have n_:=aM (Kd.R_mono (ok':=(fun k_=>some k_≠(.slice (some ad173) t169.length co11:Value).ownBlock)) HO192.out (fun k_ hk=>hk.2));clear HO192;have HO192:=n_;clear n_;have q47:(1:Int)≤((t190.length:Int):Int):=of_decide_eq_true za_;obtain ⟨i047,hi047,_,hsz47,_⟩:=info_parts info9;have hcut47:=cut_from (P:=Tryd.prog) 52 9 .i64 Tryd.underlying52 hi047 1 hsz47 Ao46 t190.length co46 1 (by omega) q47;have hr47:=Kd.Q_drop (k:=(1:Int).toNat) (Kd.Q_of_R HO192.out) (by omega);obtain ⟨A47,hA47⟩:∃ A1,A1=(if co46=(1:Int).toNat then Ao46 else (Ao46:Option Addr).map (·.add ((1:Int).toNat * 1))):=⟨_,rfl⟩;obtain ⟨c47,hc47⟩:∃ c1,c1=co46 - (1:Int).toNat:=⟨_,rfl⟩;have hy47:y193.length=t190.length - (1:Int).toNat:=(by rw [Ny193.out,lD]);rw [← Ny193.out] at hr47;rw [← hy47,← hA47,← hc47] at hcut47;replace hr47:Kd.Q Kd.string 9 w45 w.heap.size (fun k_=>some k_≠(.slice (some ad173) t169.length co11:Value).ownBlock) (.slice A47 y193.length c47) y193:=(by rw [hA47,hc47,hy47];exact hr47);have HE47:Aside0 ((Value.slice A47 y193.length c47).ownBlock=(.slice Ao46 t190.length co46:Value).ownBlock):=⟨by rw [hA47];split <;> (cases (Ao46:Option Addr) <;> first | rfl | (simp only [Value.ownBlock,Option.map,Go.Addr.add];split <;> rfl))⟩;clear hy47 hi047 hsz47 HO192 hA47 hc47;have HO195:=aM hr47;clear hr47;replace q47:=eq_true q47;have n_:=aM (Kd.R_mono (ok':=fun k_=>(True∧some k_≠(.slice A47 y193.length c47:Value).ownBlock)) HO_4.out (fun k_ hk=>⟨trivial,(by rw [HE47.out];exact hk.2)⟩));clear HO_4;have HO_4:=n_;clear n_))
           go_loopg [58] k1 (fun kq v58 w' => ∃ (x58_2:Int) (x176002_2:List Int) (u176002:Value),v58 = .int .i64 x58_2∧Aside0 (spec_ParseCircuit.l1 kq a0 y193 (y193.length:Int) x58_2 t174 x176001_1 x176002_2=some (r1,r2,r3,r4))∧Aside0 (kq≤k1)∧Aside0 (Kd.Q Kd.string 9 w' w.heap.size (fun _=>True) (.slice A47 y193.length c47) y193)∧Aside0 (Kd.R k47 47 w' w.heap.size (fun _=>True) u176001 x176001_1)∧Aside0 (Kd.R (Kd.int .i64) 3 w' w.heap.size (fun _=>True) u176002 x176002_2)∧Aside0 (w'.heap[gb168]?=some (.cells #[.int .i64 x169000_1,(.slice none 0 0),(.slice none 0 0)] 31 (0,0)))∧Aside0 (w'.heap[gb175]?=some (.cells #[.int .i64 t174,u176001,u176002] 31 (0,0)))∧Aside0 (Below w.heap.size w w'))
           case atStart=>exact ⟨(0),(([]:List Int)),(.slice none 0 0),zc_,H',⟨Nat.le_refl _⟩,⟨by refine zq ?_;exact Kd.Q_mono HO195.out (fun _ hk=>trivial)⟩,⟨zr HO_176001.out⟩,⟨zi_⟩,⟨zb BK168.out⟩,⟨zb BK175.out⟩,⟨zbb_⟩⟩
           case round =>
            clear H';(try clear c1);(try clear c7b0);(try clear c7b1);(try clear c8b0);(try clear c8b1);(try clear c17b0);(try clear c41b0);(try clear c42b0);(try clear c44b0);(try clear c44b1);(try clear c47);(try clear q47);(try clear hx189_0);(try clear p189);(try clear q189);obtain ⟨x58_2,x176002_2,u176002,rfl,HA,HK2,HO_56,HO_176001,HO_176002,BK168,BK175,HB⟩:=hrel
            cases gk with
            | zero=>exact absurd HA.out (by simp [spec_ParseCircuit.l1])
            | succ k2 =>
             have H:=HA.out;clear HA
             simp only [spec_ParseCircuit.l1] at H
             by_cases c48:x58_2<(y193.length:Int)
             ·rw [if_pos c48] at H
              have c48b0:=decide_eq_true c48;clear c48
              by_cases c49:0≤x58_2
              ·rw [if_pos c49] at H
               have c49b0:=decide_eq_true c49;clear c49
               by_cases c50:x58_2<(y193.length:Int)
               ·rw [if_pos c50] at H
                have c50b0:=decide_eq_true c50;clear c50;replace H:=oB.mp H;obtain ⟨t197,A510,H⟩:=H;replace H:(if x176002_2.length<17592186044416 then (spec_ParseCircuit.l1 k2 a0 y193 (y193.length:Int) (wrap64 (x58_2+1)) t174 x176001_1 (x176002_2 ++ [t197])) else (none))=some (r1,r2,r3,r4):=H;have A51:=aM A510;clear A510
                by_cases c52:x176002_2.length<17592186044416
                ·rw [if_pos c52] at H
                 have LMc52:=aM c52;clear c52;obtain ⟨y198,hy198⟩:∃ y_:List Int,y_=(x176002_2 ++ [t197]):=⟨_,rfl⟩;replace H:(spec_ParseCircuit.l1 k2 a0 y193 (y193.length:Int) (wrap64 (x58_2+1)) t174 x176001_1 y198)=some (r1,r2,r3,r4):=q3y_ hy198 H
                 have Ny198:=aM hy198;clear hy198;have H':=aM H;clear H;have p196:0≤(x58_2:Int):=of_decide_eq_true za_;have q196:x58_2<(y193.length:Int):=of_decide_eq_true za_;obtain ⟨ad196,e196,hx196_0⟩:=Kd.at_string (Kd.Q_reads' HO_56.out).2.2 x58_2 p196 q196
                 cases e196
                 replace p196:=eq_true p196;replace q196:=eq_true q196;(try go_wp2);have n_:=z (qD HO_56.out)<|z (kD HO_176001.out)<|z (kD HO_176002.out)<|z (blk_drew BK168.out)<|z (blk_drew BK175.out)<|z1 (p1 HB.out)
                 clear HO_56 HO_176001 HO_176002 BK168 BK175 HB;obtain ⟨HO_56,HO_176001,HO_176002,BK168,BK175,HB⟩:=n_
                 refine start_ (n:=8) (S:=fun w'=>w'.cell? ⟨gb175,0,none⟩=some (.int .i64 t174)∧w'.cell? ⟨gb175,1,none⟩=some (u176001)∧w'.cell? ⟨gb175,2,none⟩=some (u176002)) (ds:=[7]) #[fi,fi,fi,fi,fi,fi,fi,fi] (by kernel_rfl) rfl rfl ⟨(blk_cell BK175.out 0).trans rfl,(blk_cell BK175.out 1).trans rfl,(blk_cell BK175.out 2).trans rfl⟩ (fun hHeld=>?_);refine with_tabW spec_ParseCircuit.tab16 spec_ParseCircuit.bits16 (fun HT_ HW_=>?_)
                 generalize wr.drew=w53 at HO_56 HO_176001 HO_176002 BK168 BK175 HB hHeld ⊢;refine py_ 0 62 HT_.out ?_;refine py_ 2 64 HT_.out ?_
                 refine tw3_ 1 63 HT_.out HW_.out hHeld ?_
                 refine one_ (i:=3) (N:=some 65) #[ti,ti,ti,ti,fi,fi,fi,fi] rfl rfl (one_of HT_.out (by kernel_rfl)) (by decide) (fun K hK=>?_)
                 refine goes_ Tryd.func27 (by kernel_rfl) rfl #[.string (rdOf ByteArray.empty y193 x58_2)] (by rfl) rfl rfl zd_ ?_
                 with_reducible refine (spec_l1Read.calls k2 (rdOf ByteArray.empty y193 x58_2) t197 _ A51.out).mono ?_
                 rintro e w' ⟨rfl,⟨nd,rfl⟩⟩
                 refine ⟨_,rfl,?_⟩
                 refine hK.out _ _ ⟨(blk_cell BK175.out 0).trans rfl,(blk_cell BK175.out 1).trans rfl,(blk_cell BK175.out 2).trans rfl⟩ (fun hHeld=>?_)
                 clear hK K
                 refine nz_ 65 ?_
                 refine one_ (i:=4) (N:=some 66) #[ti,ti,ti,ti,ti,fi,fi,fi] rfl rfl (one_of HT_.out (by kernel_rfl)) (by decide) (fun K hK=>?_)
                 refine value_ (w1:=?_) (v:=?_) (by rfl) rfl ?_ ?_
                 rotate_left 2
                 ·go_simp
                  constructor
                  ·rfl
                  ·rfl
                 refine hK.out _ _ ⟨(blk_cell (blk_alloc BK175.out _) 0).trans rfl,(blk_cell (blk_alloc BK175.out _) 1).trans rfl,(blk_cell (blk_alloc BK175.out _) 2).trans rfl⟩ (fun hHeld=>?_)
                 clear hK K
                 refine nz_ 66 ?_
                 refine one_ (i:=5) (N:=some 67) #[ti,ti,ti,ti,ti,ti,fi,fi] rfl rfl (one_of HT_.out (by kernel_rfl)) (by decide) (fun K hK=>?_)
                 refine Kd.R_append_step (Kd.int .i64) (w0:=w) w.heap.size (by rfl) (.tmp 63) (.tmp 66) 23 3 (.int .i64 0) 8 rfl Tryd.underlying23 info3 rfl (by decide) (by omega) u176002 x176002_2 t197 [.int .i64 t197] (fun _=>True) (fun _=>False) rfl rfl ?aP (fun _ hk=>hk.elim) ?aF ?aO ?aB ?aS ?aL ?_
                 (case aP=>exact rfl)
                 (case aB=>exact zbb_)
                 (case aF=>exact zdf_)
                 (case aO=>exact (zr HO_176002.out))
                 (case aS=>exact (below_size zbb_))
                 (case aL=>have:=LMc52.out;omega)
                 intro v199 w54 ho hb hg hat
                 rw [← Ny198.out] at ho;have n_:=z (Kd.Q_over' (zq HO_56.out) (Kd.R_typed (zr HO_176002.out)) (by decide) hg)<|z (Kd.R_over' (zr HO_176001.out) (Kd.R_typed (zr HO_176002.out)) (by decide) hg)<|z (blk_grown (g:=gb168) (o := .cells #[.int .i64 x169000_1,.slice none 0 0,.slice none 0 0] 31 (0,0)) (zb BK168.out) hg (Kd.R_ne HO_176002.out BK168.out (by decide)))<|z (blk_grown (g:=gb175) (o := .cells #[.int .i64 t174,u176001,u176002] 31 (0,0)) (zb BK175.out) hg (Kd.R_ne HO_176002.out BK175.out (by decide)))<|z (hb)<|z1 (ho)
                 clear HO_56 HO_176001 BK168 BK175 HB HO_176002;obtain ⟨HO_56,HO_176001,BK168,BK175,HB,HO200⟩:=n_;clear ho hb hg hat;obtain ⟨Ao55,co55,eo55⟩:=Kd.R_slice HO200.out;(first | subst eo55 | (injection eo55 with f1_ f2_ f3_;have f4_:=f1_.symm;have f5_:=f3_.symm;clear f1_ f2_ f3_;subst f4_;subst f5_))
                 refine hK.out _ _ ⟨(blk_cell BK175.out 0).trans rfl,(blk_cell BK175.out 1).trans rfl,(blk_cell BK175.out 2).trans rfl⟩ (fun hHeld=>?_)
                 clear hK K
                 refine nz_ 67 ?_
                 refine py_ 6 68 HT_.out ?_
                 refine last_ (i:=7) (N:=none) #[ti,ti,ti,ti,ti,ti,ti,ti] rfl rfl (one_of HT_.out (by kernel_rfl)) (by decide) (fun K hK=>?_)
                 have hs56:w54.cell? ⟨gb175,2,none⟩=some (u176002):=(blk_cell BK175.out 2).trans rfl;have hfs56:=blk_frozen BK175.out 2;have hns56_0:=NB168_175.out;have hms56_0:=NB175_168.out
                 refine skip_ (w1:=?_) (by rfl) rfl ?_ ?_
                 rotate_left
                 ·go_simp
                  rfl
                 refine hK.out _ _ ?_
                 clear hK K
                 refine done_ (done_of HT_.out (by kernel_rfl)) ?_
                 (try go_wp2)
                 go_roundg k2
                 case measure=>have:=HK1.out;have:=HK2.out;omega
                 case rel=>exact ⟨(wrap64 (x58_2+1)),(y198),(.slice Ao55 y198.length co55),zc_,H',⟨by have:=HK1.out;have:=HK2.out;omega⟩,⟨by refine zq ?_;exact Kd.Q_mono (Kd.Q_far (p:=⟨gb175,2,none⟩) (Kd.Q_types HO_56.out BK175.out (by decide)) (fun _ hk=>hk.2) (.slice Ao55 y198.length co55)) (fun _ hk=>trivial)⟩,⟨by refine zr ?_;exact Kd.R_mono (Kd.R_far (p:=⟨gb175,2,none⟩) (Kd.R_types HO_176001.out BK175.out (by decide)) (fun _ hk=>hk.2) (.slice Ao55 y198.length co55)) (fun _ hk=>trivial)⟩,⟨by refine zr ?_;exact Kd.R_mono (Kd.R_far (p:=⟨gb175,2,none⟩) (Kd.R_types HO200.out BK175.out (by decide)) (fun _ hk=>hk.2) (.slice Ao55 y198.length co55)) (fun _ hk=>trivial)⟩,⟨by refine zb ?_;refine blk_far ?_ NB168_175.out _;refine zb ?_;exact BK168.out⟩,⟨by refine zb ?_;refine blk_put (cs:=#[.int .i64 t174,u176001,u176002]) ?_ 2 _ rfl;refine zb ?_;exact BK175.out⟩,⟨zbb_⟩⟩
                ·rw [if_neg c52] at H
                 exact q3n_ H
               ·rw [if_neg c50] at H
                exact q3n_ H
              ·rw [if_neg c49] at H
               exact q3n_ H
             ·rw [if_neg c48] at H
              have c48b0:=decide_eq_false c48;clear c48;replace H:=oB.mp H;obtain ⟨t201,A570,H⟩:=H;replace H:(if t201=true then ((spec_ciText.f k2 t174 x176001_1 x176002_2).bind fun t202=>(if t202.toList=a0.toList then (some (t174,x176001_1,x176002_2,true)) else (some (0,([]:List (S47)),([]:List Int),false)))) else (some (0,([]:List (S47)),([]:List Int),false)))=some (r1,r2,r3,r4):=H;have A57:=aM A570;clear A570
              by_cases c58:t201=true
              ·subst c58
               have H1:((spec_ciText.f k2 t174 x176001_1 x176002_2).bind fun t202=>(if t202.toList=a0.toList then (some (t174,x176001_1,x176002_2,true)) else (some (0,([]:List (S47)),([]:List Int),false))))=some (r1,r2,r3,r4):=by rw [if_pos rfl] at H;exact H
               clear H;have H:=H1;clear H1;replace H:=oB.mp H;obtain ⟨t202,A590,H⟩:=H;replace H:(if t202.toList=a0.toList then (some (t174,x176001_1,x176002_2,true)) else (some (0,([]:List (S47)),([]:List Int),false)))=some (r1,r2,r3,r4):=H;have A59:=aM A590;clear A590
               by_cases c60:t202.toList=a0.toList
               ·rw [if_pos c60] at H
                have c60b0:=beq_iff_eq.mpr c60;have c60b1:=bne_eq_false_iff_eq.mpr c60;clear c60
                simp only [Option.some.injEq,Prod.mk.injEq] at H
                obtain ⟨rfl,rfl,rfl,rfl⟩:=H;have hnb61:=NB175_168.out;have hnc61:=NB168_175.out;obtain ⟨hcz62_0,hcz62_1,hcz62_2,hfz62_0,hfz62_1,hfz62_2⟩:=zk3 BK175.out;obtain ⟨Ao63,co63,eo63⟩:=Kd.R_slice HO_176001.out;subst eo63;obtain ⟨Ao64,co64,eo64⟩:=Kd.R_slice HO_176002.out;subst eo64
                go_wp2_with (first | ((with_reducible refine gate_callee (f:=16) rfl ?_);refine goesL_ (some 71) rfl rfl Tryd.func16 (by kernel_rfl) rfl #[.agg #[.int .i64 t174,.slice Ao63 x176001_1.length co63,.slice Ao64 x176002_2.length co64]] rfl zd_ ?_;(with_reducible refine (spec_ciGood.calls k2 t174 _ _ x176001_1 _ _ x176002_2 true _ ?side1 ?side2 ?side3 ?side4 A57.out).mono ?_);(case side1=>exact zdi_);(case side2=>exact zdj_);(case side3=>exact zea_);(case side4=>exact zeb_);rintro e w65 ⟨rfl,hb⟩;refine ⟨_,rfl,?_⟩;have n_:=z (Kd.Q_below (zq HO_56.out) hb)<|z (Kd.R_below (zr HO_176001.out) hb)<|z (Kd.R_below (zr HO_176002.out) hb)<|z (blk_below (zb BK168.out) hb)<|z (blk_below (zb BK175.out) hb)<|z1 (below_step zbb_ hb);clear HO_56 HO_176001 HO_176002 BK168 BK175 HB;obtain ⟨HO_56,HO_176001,HO_176002,BK168,BK175,HB⟩:=n_;clear hb;obtain ⟨hcz66_0,hcz66_1,hcz66_2,hfz66_0,hfz66_1,hfz66_2⟩:=zk3 BK175.out)|(go_at_call 17;(with_reducible refine (spec_ciText.calls k2 t174 _ _ x176001_1 _ _ x176002_2 t202 _ ?side1 ?side2 ?side3 ?side4 A59.out).mono ?_);(case side1=>exact zdi_);(case side2=>exact zdj_);(case side3=>exact zea_);(case side4=>exact zeb_);rintro e w67 ⟨rfl,hb⟩;have n_:=z (Kd.Q_below (zq HO_56.out) hb)<|z (Kd.R_below (zr HO_176001.out) hb)<|z (Kd.R_below (zr HO_176002.out) hb)<|z (blk_below (zb BK168.out) hb)<|z (blk_below (zb BK175.out) hb)<|z1 (below_step zbb_ hb);clear HO_56 HO_176001 HO_176002 BK168 BK175 HB;obtain ⟨HO_56,HO_176001,HO_176002,BK168,BK175,HB⟩:=n_;clear hb;obtain ⟨hcz68_0,hcz68_1,hcz68_2,hfz68_0,hfz68_1,hfz68_2⟩:=zk3 BK175.out;obtain ⟨hcz69_0,hcz69_1,hcz69_2,hfz69_0,hfz69_1,hfz69_2⟩:=zk3 BK168.out))
                refine bodyPost_ret (results_ct rfl _ _ gb168 31 #[.int .i64 t174,.slice Ao63 x176001_1.length co63,.slice Ao64 x176002_2.length co64] (0,0) _ rfl (by refine zb ?_;refine blk_put (cs:=#[.int .i64 t174,.slice Ao63 x176001_1.length co63,.slice none 0 0]) ?_ 2 _ rfl;refine zb ?_;refine blk_put (cs:=#[.int .i64 t174,.slice none 0 0,.slice none 0 0]) ?_ 1 _ rfl;refine zb ?_;refine blk_put (cs:=#[.int .i64 x169000_1,.slice none 0 0,.slice none 0 0]) ?_ 0 _ rfl;refine zb ?_;exact BK168.out) Tryd.underlying31 rfl (by kernel_rfl)) rfl ?_
                exact ⟨_,_,zfa_,by refine zr ?_;exact Kd.R_mono (Kd.R_far (p:=⟨gb168,2,none⟩) (Kd.R_far (p:=⟨gb168,1,none⟩) (Kd.R_far (p:=⟨gb168,0,none⟩) (Kd.R_types HO_176001.out BK168.out (by decide)) (fun _ hk=>hk.2) (.int .i64 t174)) (fun _ hk=>hk.2) (.slice Ao63 x176001_1.length co63)) (fun _ hk=>hk.2) (.slice Ao64 x176002_2.length co64)) (fun _ hk=>trivial),by refine zr ?_;exact Kd.R_mono (Kd.R_far (p:=⟨gb168,2,none⟩) (Kd.R_far (p:=⟨gb168,1,none⟩) (Kd.R_far (p:=⟨gb168,0,none⟩) (Kd.R_types HO_176002.out BK168.out (by decide)) (fun _ hk=>hk.2) (.int .i64 t174)) (fun _ hk=>hk.2) (.slice Ao63 x176001_1.length co63)) (fun _ hk=>hk.2) (.slice Ao64 x176002_2.length co64)) (fun _ hk=>trivial),zbb_⟩
               ·rw [if_neg c60] at H
                have c60b0:=beq_eq_false_iff_ne.mpr c60;have c60b1:=bne_iff_ne.mpr c60
                simp only [Option.some.injEq,Prod.mk.injEq] at H
                obtain ⟨rfl,rfl,rfl,rfl⟩:=H;have hnb70:=NB175_168.out;have hnc70:=NB168_175.out;obtain ⟨hcz71_0,hcz71_1,hcz71_2,hfz71_0,hfz71_1,hfz71_2⟩:=zk3 BK175.out;obtain ⟨Ao72,co72,eo72⟩:=Kd.R_slice HO_176001.out;subst eo72;obtain ⟨Ao73,co73,eo73⟩:=Kd.R_slice HO_176002.out;subst eo73
                go_wp2_with (first | ((with_reducible refine gate_callee (f:=16) rfl ?_);refine goesL_ (some 71) rfl rfl Tryd.func16 (by kernel_rfl) rfl #[.agg #[.int .i64 t174,.slice Ao72 x176001_1.length co72,.slice Ao73 x176002_2.length co73]] rfl zd_ ?_;(with_reducible refine (spec_ciGood.calls k2 t174 _ _ x176001_1 _ _ x176002_2 true _ ?side1 ?side2 ?side3 ?side4 A57.out).mono ?_);(case side1=>exact zdi_);(case side2=>exact zdj_);(case side3=>exact zea_);(case side4=>exact zeb_);rintro e w74 ⟨rfl,hb⟩;refine ⟨_,rfl,?_⟩;have n_:=z (Kd.Q_below (zq HO_56.out) hb)<|z (Kd.R_below (zr HO_176001.out) hb)<|z (Kd.R_below (zr HO_176002.out) hb)<|z (blk_below (zb BK168.out) hb)<|z (blk_below (zb BK175.out) hb)<|z1 (below_step zbb_ hb);clear HO_56 HO_176001 HO_176002 BK168 BK175 HB;obtain ⟨HO_56,HO_176001,HO_176002,BK168,BK175,HB⟩:=n_;clear hb;obtain ⟨hcz75_0,hcz75_1,hcz75_2,hfz75_0,hfz75_1,hfz75_2⟩:=zk3 BK175.out)|(go_at_call 17;(with_reducible refine (spec_ciText.calls k2 t174 _ _ x176001_1 _ _ x176002_2 t202 _ ?side1 ?side2 ?side3 ?side4 A59.out).mono ?_);(case side1=>exact zdi_);(case side2=>exact zdj_);(case side3=>exact zea_);(case side4=>exact zeb_);rintro e w76 ⟨rfl,hb⟩;have n_:=z (Kd.Q_below (zq HO_56.out) hb)<|z (Kd.R_below (zr HO_176001.out) hb)<|z (Kd.R_below (zr HO_176002.out) hb)<|z (blk_below (zb BK168.out) hb)<|z (blk_below (zb BK175.out) hb)<|z1 (below_step zbb_ hb);clear HO_56 HO_176001 HO_176002 BK168 BK175 HB;obtain ⟨HO_56,HO_176001,HO_176002,BK168,BK175,HB⟩:=n_;clear hb;obtain ⟨hcz77_0,hcz77_1,hcz77_2,hfz77_0,hfz77_1,hfz77_2⟩:=zk3 BK168.out))
                refine bodyPost_ret (results_ct rfl _ _ gb168 31 #[.int .i64 0,.slice none 0 0,.slice none 0 0] (0,0) _ rfl (by refine zb ?_;refine blk_put (cs:=#[.int .i64 0,.slice none 0 0,.slice none 0 0]) ?_ 2 _ rfl;refine zb ?_;refine blk_put (cs:=#[.int .i64 0,.slice none 0 0,.slice none 0 0]) ?_ 1 _ rfl;refine zb ?_;refine blk_put (cs:=#[.int .i64 x169000_1,.slice none 0 0,.slice none 0 0]) ?_ 0 _ rfl;refine zb ?_;exact BK168.out) Tryd.underlying31 rfl (by kernel_rfl)) rfl ?_
                exact ⟨_,_,zfa_,zi_,zi_,zbb_⟩
              ·replace c58:=Bool.eq_false_iff.mpr c58
               subst c58;have H1:(some (0,([]:List (S47)),([]:List Int),false))=some (r1,r2,r3,r4):=by rw [if_neg (show ¬ (false=true) by decide)] at H;exact H
               clear H;have H:=H1;clear H1
               simp only [Option.some.injEq,Prod.mk.injEq] at H
               obtain ⟨rfl,rfl,rfl,rfl⟩:=H;have hnb78:=NB175_168.out;have hnc78:=NB168_175.out;obtain ⟨hcz79_0,hcz79_1,hcz79_2,hfz79_0,hfz79_1,hfz79_2⟩:=zk3 BK175.out;obtain ⟨Ao80,co80,eo80⟩:=Kd.R_slice HO_176001.out;subst eo80;obtain ⟨Ao81,co81,eo81⟩:=Kd.R_slice HO_176002.out;subst eo81
               go_wp2_with (first | ((with_reducible refine gate_callee (f:=16) rfl ?_);refine goesL_ (some 71) rfl rfl Tryd.func16 (by kernel_rfl) rfl #[.agg #[.int .i64 t174,.slice Ao80 x176001_1.length co80,.slice Ao81 x176002_2.length co81]] rfl zd_ ?_;(with_reducible refine (spec_ciGood.calls k2 t174 _ _ x176001_1 _ _ x176002_2 false _ ?side1 ?side2 ?side3 ?side4 A57.out).mono ?_);(case side1=>exact zdi_);(case side2=>exact zdj_);(case side3=>exact zea_);(case side4=>exact zeb_);rintro e w82 ⟨rfl,hb⟩;refine ⟨_,rfl,?_⟩;have n_:=z (Kd.Q_below (zq HO_56.out) hb)<|z (Kd.R_below (zr HO_176001.out) hb)<|z (Kd.R_below (zr HO_176002.out) hb)<|z (blk_below (zb BK168.out) hb)<|z (blk_below (zb BK175.out) hb)<|z1 (below_step zbb_ hb);clear HO_56 HO_176001 HO_176002 BK168 BK175 HB;obtain ⟨HO_56,HO_176001,HO_176002,BK168,BK175,HB⟩:=n_;clear hb;obtain ⟨hcz83_0,hcz83_1,hcz83_2,hfz83_0,hfz83_1,hfz83_2⟩:=zk3 BK168.out))
               refine bodyPost_ret (results_ct rfl _ _ gb168 31 #[.int .i64 0,.slice none 0 0,.slice none 0 0] (0,0) _ rfl (by refine zb ?_;refine blk_put (cs:=#[.int .i64 0,.slice none 0 0,.slice none 0 0]) ?_ 2 _ rfl;refine zb ?_;refine blk_put (cs:=#[.int .i64 0,.slice none 0 0,.slice none 0 0]) ?_ 1 _ rfl;refine zb ?_;refine blk_put (cs:=#[.int .i64 x169000_1,.slice none 0 0,.slice none 0 0]) ?_ 0 _ rfl;refine zb ?_;exact BK168.out) Tryd.underlying31 rfl (by kernel_rfl)) rfl ?_
               exact ⟨_,_,zfa_,zi_,zi_,zbb_⟩
          ·rw [if_neg c44] at H
           exact q3n_ H
         ·rw [if_neg c42] at H
          exact q3n_ H
        ·rw [if_neg c41] at H
         exact q3n_ H
    ·rw [if_neg c8] at H
     exact q3n_ H
   ·rw [if_neg c7] at H
    exact q3n_ H
  ·rw [if_neg c5] at H
   exact q3n_ H
 ·replace c4:=Bool.eq_false_iff.mpr c4
  subst c4;have H1:(some (0,([]:List (S47)),([]:List Int),false))=some (r1,r2,r3,r4):=by rw [if_neg (show ¬ (false=true) by decide)] at H;exact H
  clear H;have H:=H1;clear H1
  simp only [Option.some.injEq,Prod.mk.injEq] at H
  obtain ⟨rfl,rfl,rfl,rfl⟩:=H
  go_enter Tryd.func10,Tryd.ntmps10
  go_wp2_with (first | ((with_reducible refine gate_dst (N:=2) rfl ?_);refine box_event ?hg (N:=2) ?hd (cs:=#[.int .i64 0,.slice none 0 0,.slice none 0 0]) (t:=31) ?hr ?_;(case hd=>rfl);(case hg=>rfl);(case hr=>exact ze_);intro gb168 hg w84 hbox hb;have n_:=z (below_step zb_ hb)<|z (hbox)<|z ((by rw [hg];exact (below_size zb_):w.heap.size≤gb168))<|z1 ((by rw [hg];exact (below_size zb_):w.heap.size≤gb168));clear HB;obtain ⟨HB,BK168,GW168,GE168⟩:=n_;clear hb hbox hg)|((with_reducible refine gate_callee (f:=25) rfl ?_);refine goesL_ (some 13) rfl rfl Tryd.func25 (by kernel_rfl) rfl #[.string a0,.int .u8 10] rfl zd_ ?_;(with_reducible refine (spec_l1Split.calls k a0 10 t169 _ A2.out).mono ?_);rintro e w85 ⟨v170,rfl,ho0,hb⟩;refine ⟨_,rfl,?_⟩;have n_:=z (Kd.R_lower ho0 (below_size zcg_))<|z (blk_below (zb BK168.out) hb)<|z1 (below_step zcg_ hb);clear BK168 HB;obtain ⟨HO171,BK168,HB⟩:=n_;clear hb;(try clear ho0);obtain ⟨Ao86,co86,eo86⟩:=Kd.R_slice HO171.out;subst eo86)|((with_reducible refine gate_callee (f:=26) rfl ?_);refine goesL_ (some 16) rfl rfl Tryd.func26 (by kernel_rfl) rfl #[.int .i64 (t169.length:Int),.int .i64 3,.int .i64 19] rfl zd_ ?_;(with_reducible refine (spec_l1In.calls (t169.length:Int) 3 19 false _ A3.out).mono ?_);rintro e w' ⟨rfl,⟨nd,rfl⟩⟩;refine ⟨_,rfl,?_⟩;(try (rw [drewN_self w85];generalize hq_:World.drewN w85 _=w85;have n0_:Aside0 (Kd.R Kd.string 9 w85 w.heap.size (fun _=>True) (.slice Ao86 t169.length co86) t169):=⟨by rw [← hq_];exact (zr HO171.out)⟩;have n1_:Aside0 (w85.heap[gb168]?=some (.cells #[.int .i64 0,.slice none 0 0,.slice none 0 0] 31 (0,0))):=⟨by rw [← hq_];exact (zb BK168.out)⟩;have n2_:Aside0 (Below w.heap.size w w85):=⟨zej_⟩;clear HO171 BK168 HB hq_;have HO171:=n0_;have BK168:=n1_;have HB:=n2_;clear n0_ n1_ n2_));obtain ⟨hcz87_0,hcz87_1,hcz87_2,hfz87_0,hfz87_1,hfz87_2⟩:=zk3 BK168.out))
  refine bodyPost_ret (results_ct rfl _ _ gb168 31 #[.int .i64 0,.slice none 0 0,.slice none 0 0] (0,0) _ rfl (by refine zb ?_;refine blk_put (cs:=#[.int .i64 0,.slice none 0 0,.slice none 0 0]) ?_ 2 _ rfl;refine zb ?_;refine blk_put (cs:=#[.int .i64 0,.slice none 0 0,.slice none 0 0]) ?_ 1 _ rfl;refine zb ?_;refine blk_put (cs:=#[.int .i64 0,.slice none 0 0,.slice none 0 0]) ?_ 0 _ rfl;refine zb ?_;exact BK168.out) Tryd.underlying31 rfl (by kernel_rfl)) rfl ?_
  exact ⟨_,_,zf_,zi_,zi_,zcg_⟩
end Go.Proofs.YtanpidphaanjiaaDoor.QFnExactParseCircuit
