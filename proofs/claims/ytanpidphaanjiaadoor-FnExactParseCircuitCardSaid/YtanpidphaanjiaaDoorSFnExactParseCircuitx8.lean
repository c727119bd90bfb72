/- Functions of FnExactParseCircuit, each as a Lean function, with the proof that the Go code comes to its answers. -/
import Derived.Test.YtanpidphaanjiaaDoorSFnExactParseCircuitx2
namespace Go.Proofs.YtanpidphaanjiaaDoor.QFnExactParseCircuit
open Go.RowKit Go.Proofs.YtanpidphaanjiaaDoorW.PrintWords Go.Proofs.YtanpidphaanjiaaDoorW.PrintLast Go.Proofs.YtanpidphaanjiaaDoorW.PrintMore
open Go.Proofs.YtanpidphaanjiaaDoorW.PrintWords renaming pw_below_drewN→pN,below_drew1→p1,below_alloc→pA
open Go.Proofs.YtanpidphaanjiaaDoorW.PrintWords.Kd renaming R_alloc→kA,R_drewN→kN,R_drew→kD,Q_alloc→qA,Q_drewN→qN,Q_drew→qD,C_alloc→cA,C_drewN→cN,C_drew→cD
open Go.Proofs.YtanpidphaanjiaaDoorW.PrintWords.Aside0 renaming mk→aM
open List renaming setIfInBounds_toArray→sI,set_cons_zero→s0,set_cons_succ→sS,map_toArray→mT,length_take→lT,length_drop→lD,map_cons→mC,map_nil→mN
attribute [local go_sem] max2_int min2_int max_two min_two max_three min_three max_four min_four
set_option maxHeartbeats 8000000
set_option maxRecDepth 100000
set_option linter.unusedVariables false
set_option linter.unusedSimpArgs false
open Option renaming bind_eq_some_iff→oB,bind_some→oS
mutual
def impl_IsCircuit.j0:Nat→Bool→Int→List (S47)→List Int→Option (Bool)
 | 0,_,_,_,_=>none
 | k+1,x32,x204000,x204001,x204002=>if x32=true then (some false) else (impl_IsCircuit.l0 k x204001 (x204001.length:Int) 0 x204000 x204001 x204002)
def impl_IsCircuit.l0:Nat→List (S47)→Int→Int→Int→List (S47)→List Int→Option (Bool)
 | 0,_,_,_,_,_,_=>none
 | k+1,x34,x35,x36,x204000,x204001,x204002=>if x36<x35 then (if 0≤x36 then (if x36<(x34.length:Int) then (if ((rd_T47 x34 x36).f0)<1 then (some false) else (if ((rd_T47 x34 x36).f0)>4 then (some false) else (if ((rd_T47 x34 x36).f1)<0 then (some false) else (if ((rd_T47 x34 x36).f1)≥(wrap64 (x204000+x36)) then (some false) else (if ((rd_T47 x34 x36).f2)<0 then (some false) else (if ((rd_T47 x34 x36).f2)≥(wrap64 (x204000+x36)) then (some false) else (if ((rd_T47 x34 x36).f0)=4 then (if ((rd_T47 x34 x36).f1)=((rd_T47 x34 x36).f2) then (impl_IsCircuit.l0 k x34 x35 (wrap64 (x36+1)) x204000 x204001 x204002) else (some false)) else (impl_IsCircuit.l0 k x34 x35 (wrap64 (x36+1)) x204000 x204001 x204002)))))))) else (none)) else (none)) else (impl_IsCircuit.l1 k x204002 (x204002.length:Int) 0 x204000 x204001 x204002)
def impl_IsCircuit.l1:Nat→List Int→Int→Int→Int→List (S47)→List Int→Option (Bool)
 | 0,_,_,_,_,_,_=>none
 | k+1,x91,x92,x93,x204000,x204001,x204002=>if x93<x92 then (if 0≤x93 then (if x93<(x91.length:Int) then (if (rd x91 x93)<0 then (some false) else (if (rd x91 x93)≥(wrap64 (x204000+(x204001.length:Int))) then (some false) else (impl_IsCircuit.l1 k x91 x92 (wrap64 (x93+1)) x204000 x204001 x204002))) else (none)) else (none)) else (some true)
end
def impl_IsCircuit.f (k:Nat) (a0_0:Int) (l0_1:List (S47)) (l0_2:List Int):Option (Bool):=if a0_0<0 then (impl_IsCircuit.j0 k true a0_0 l0_1 l0_2) else (if a0_0>4 then (impl_IsCircuit.j0 k true a0_0 l0_1 l0_2) else (if (l0_1.length:Int)>16 then (impl_IsCircuit.j0 k true a0_0 l0_1 l0_2) else (if (l0_2.length:Int)<1 then (impl_IsCircuit.j0 k true a0_0 l0_1 l0_2) else (impl_IsCircuit.j0 k (decide ((l0_2.length:Int)>4)) a0_0 l0_1 l0_2))))
theorem impl_IsCircuit.mono_l:∀ k,(∀ y0 y1 y2 y3,LeO (impl_IsCircuit.j0 k y0 y1 y2 y3) (impl_IsCircuit.j0 (k+1) y0 y1 y2 y3))∧(∀ y0 y1 y2 y3 y4 y5,LeO (impl_IsCircuit.l0 k y0 y1 y2 y3 y4 y5) (impl_IsCircuit.l0 (k+1) y0 y1 y2 y3 y4 y5))∧(∀ y0 y1 y2 y3 y4 y5,LeO (impl_IsCircuit.l1 k y0 y1 y2 y3 y4 y5) (impl_IsCircuit.l1 (k+1) y0 y1 y2 y3 y4 y5))
 | 0=>⟨fun _ _ _ _ r h=>by simp [impl_IsCircuit.j0] at h,fun _ _ _ _ _ _ r h=>by simp [impl_IsCircuit.l0] at h,fun _ _ _ _ _ _ r h=>by simp [impl_IsCircuit.l1] at h⟩
 | k+1=>by
  obtain ⟨ih0,ih1,ih2⟩:=impl_IsCircuit.mono_l k
  refine ⟨?_,?_,?_⟩
  ·intro y0 y1 y2 y3
   unfold impl_IsCircuit.j0
   repeat' first
   | (with_reducible exact ih0 _ _ _ _)
   | (with_reducible exact ih1 _ _ _ _ _ _)
   | (with_reducible exact ih2 _ _ _ _ _ _)
   | (with_reducible exact LeO.refl _)
   | (with_reducible exact LeO.none _)
   | (with_reducible refine LeO.ite ?_ ?_)
   | (with_reducible refine LeO.bind ?_ (fun _=>?_))
   | exact ih0 _ _ _ _
   | exact ih1 _ _ _ _ _ _
   | exact ih2 _ _ _ _ _ _
   | exact LeO.none _
   | refine LeO.ite ?_ ?_
   | refine LeO.bind ?_ (fun _=>?_)
  ·intro y0 y1 y2 y3 y4 y5
   unfold impl_IsCircuit.l0
   repeat' first
   | (with_reducible exact ih0 _ _ _ _)
   | (with_reducible exact ih1 _ _ _ _ _ _)
   | (with_reducible exact ih2 _ _ _ _ _ _)
   | (with_reducible exact LeO.refl _)
   | (with_reducible exact LeO.none _)
   | (with_reducible refine LeO.ite ?_ ?_)
   | (with_reducible refine LeO.bind ?_ (fun _=>?_))
   | exact ih0 _ _ _ _
   | exact ih1 _ _ _ _ _ _
   | exact ih2 _ _ _ _ _ _
   | exact LeO.none _
   | refine LeO.ite ?_ ?_
   | refine LeO.bind ?_ (fun _=>?_)
  ·intro y0 y1 y2 y3 y4 y5
   unfold impl_IsCircuit.l1
   repeat' first
   | (with_reducible exact ih0 _ _ _ _)
   | (with_reducible exact ih1 _ _ _ _ _ _)
   | (with_reducible exact ih2 _ _ _ _ _ _)
   | (with_reducible exact LeO.refl _)
   | (with_reducible exact LeO.none _)
   | (with_reducible refine LeO.ite ?_ ?_)
   | (with_reducible refine LeO.bind ?_ (fun _=>?_))
   | exact ih0 _ _ _ _
   | exact ih1 _ _ _ _ _ _
   | exact ih2 _ _ _ _ _ _
   | exact LeO.none _
   | refine LeO.ite ?_ ?_
   | refine LeO.bind ?_ (fun _=>?_)
theorem impl_IsCircuit.mono:∀ a0 a1 a2 k,LeO (impl_IsCircuit.f k a0 a1 a2) (impl_IsCircuit.f (k+1) a0 a1 a2):=by
 intro a0 a1 a2 k
 obtain ⟨ih0,ih1,ih2⟩:=impl_IsCircuit.mono_l k
 unfold impl_IsCircuit.f
 repeat' first
   | (with_reducible exact ih0 _ _ _ _)
   | (with_reducible exact ih1 _ _ _ _ _ _)
   | (with_reducible exact ih2 _ _ _ _ _ _)
   | (with_reducible exact LeO.refl _)
   | (with_reducible exact LeO.none _)
   | (with_reducible refine LeO.ite ?_ ?_)
   | (with_reducible refine LeO.bind ?_ (fun _=>?_))
   | exact ih0 _ _ _ _
   | exact ih1 _ _ _ _ _ _
   | exact ih2 _ _ _ _ _ _
   | exact LeO.none _
   | refine LeO.ite ?_ ?_
   | refine LeO.bind ?_ (fun _=>?_)
theorem impl_IsCircuit.calls (k:Nat) (a0_0:Int) (A0_1:Option Addr) (c0_1:Nat) (l0_1:List (S47)) (A0_2:Option Addr) (c0_2:Nat) (l0_2:List Int) (r:Bool) (w:World) (hr0_1:Kd.C k47 w A0_1 l0_1.length l0_1) (hc0_1:l0_1.length≤c0_1) (hr0_2:Kd.C (Kd.int .i64) w A0_2 l0_2.length l0_2) (hc0_2:l0_2.length≤c0_2) (h:impl_IsCircuit.f k a0_0 l0_1 l0_2=some r) :
  Calls Tryd.prog 20 #[.agg #[.int .i64 a0_0,.slice A0_1 l0_1.length c0_1,.slice A0_2 l0_2.length c0_2]] w fun e w'=>e = .returned (.bool r)∧Below w.heap.size w w':=by
 have hu31:=Tryd.underlying31
 have hu47:=Tryd.underlying47
 have HR0_1:=aM hr0_1
 have HC0_1:=aM hc0_1
 clear hr0_1 hc0_1
 have HR0_2:=aM hr0_2
 have HC0_2:=aM hc0_2
 clear hr0_2 hc0_2
 have HB:=aM (Below.refl w.heap.size w)
 have H:(if a0_0<0 then (impl_IsCircuit.j0 k true a0_0 l0_1 l0_2) else (if a0_0>4 then (impl_IsCircuit.j0 k true a0_0 l0_1 l0_2) else (if (l0_1.length:Int)>16 then (impl_IsCircuit.j0 k true a0_0 l0_1 l0_2) else (if (l0_2.length:Int)<1 then (impl_IsCircuit.j0 k true a0_0 l0_1 l0_2) else (impl_IsCircuit.j0 k (decide ((l0_2.length:Int)>4)) a0_0 l0_1 l0_2)))))=some r:=h
 clear h
 have HC2:=aM H
 clear H
 go_enter Tryd.func20,Tryd.ntmps20
 go_upto_region 1 with (first | ((with_reducible refine gate_dst (N:=1) rfl ?_);(try (refine gate_guard (by rfl) ?_;dsimp only));refine box_event ?hg (N:=1) ?hd (cs:=#[.int .i64 a0_0,.slice A0_1 l0_1.length c0_1,.slice A0_2 l0_2.length c0_2]) (t:=31) ?hr ?_;(case hd=>rfl);(case hg=>rfl);(case hr=>exact ze_);intro gb203 hg w3 hbox hb;have n_:=z (below_step zb_ hb)<|z (hbox)<|z ((by rw [hg];exact (below_size zb_):w.heap.size≤gb203))<|z1 ((by rw [hg];exact (below_size zb_):w.heap.size≤gb203));clear HB;obtain ⟨HB,BK203,GW203,GE203⟩:=n_;clear hb hbox hg))
 (try simp only [Act.put,sI,s0,sS])
 go_cut [32] (fun v32 wc => ∃ (kq:Nat) (x32_1:Bool),v32 = .bool x32_1∧Aside0 (impl_IsCircuit.j0 kq x32_1 a0_0 l0_1 l0_2=some r)∧Aside0 (kq≤k)∧Aside0 (wc.heap[gb203]?=some (.cells #[.int .i64 a0_0,(.slice A0_1 l0_1.length c0_1),(.slice A0_2 l0_2.length c0_2)] 31 (0,0)))∧Aside0 (Below w.heap.size w wc))
 case first =>
  have H:=HC2.out;clear HC2
  by_cases c4:a0_0<0
  ·rw [if_pos c4] at H
   have c4b0:=decide_eq_true c4;clear c4;(first | rw [c4b0]|(simp only [i64_w,i32_w];rw [c4b0]) | skip);have H':=aM H;clear H;obtain ⟨hcz5_0,hcz5_1,hcz5_2,hfz5_0,hfz5_1,hfz5_2⟩:=zk3 BK203.out
   go_wp2
   go_meet
   case rel=>exact ⟨_,(true),zc_,H',⟨zbc_⟩,⟨zb BK203.out⟩,⟨zh_⟩⟩
  ·rw [if_neg c4] at H
   have c4b0:=decide_eq_false c4;clear c4;(first | rw [c4b0]|(simp only [i64_w,i32_w];rw [c4b0]) | skip)
   by_cases c6:a0_0>4
   ·rw [if_pos c6] at H
    have c6b0:decide (4<a0_0)=true:=decide_eq_true c6;clear c6;have H':=aM H;clear H;obtain ⟨hcz7_0,hcz7_1,hcz7_2,hfz7_0,hfz7_1,hfz7_2⟩:=zk3 BK203.out
    go_wp2
    go_meet
    case rel=>exact ⟨_,(true),zc_,H',⟨zbc_⟩,⟨zb BK203.out⟩,⟨zh_⟩⟩
   ·rw [if_neg c6] at H
    have c6b0:decide (4<a0_0)=false:=decide_eq_false c6;clear c6
    by_cases c8:(l0_1.length:Int)>16
    ·rw [if_pos c8] at H
     have c8b0:decide (16<(l0_1.length:Int))=true:=decide_eq_true c8;have c8b1:decide (16<l0_1.length)=true:=decide_eq_true (by omega);clear c8;have H':=aM H;clear H;obtain ⟨hcz9_0,hcz9_1,hcz9_2,hfz9_0,hfz9_1,hfz9_2⟩:=zk3 BK203.out
     go_wp2
     go_meet
     case rel=>exact ⟨_,(true),zc_,H',⟨zbc_⟩,⟨zb BK203.out⟩,⟨zh_⟩⟩
    ·rw [if_neg c8] at H
     have c8b0:decide (16<(l0_1.length:Int))=false:=decide_eq_false c8;have c8b1:decide (16<l0_1.length)=false:=decide_eq_false (by omega);clear c8
     by_cases c10:(l0_2.length:Int)<1
     ·rw [if_pos c10] at H
      have c10b0:=decide_eq_true c10;have c10b1:decide (l0_2.length<1)=true:=decide_eq_true (by omega);clear c10;have H':=aM H;clear H;obtain ⟨hcz11_0,hcz11_1,hcz11_2,hfz11_0,hfz11_1,hfz11_2⟩:=zk3 BK203.out
      go_wp2
      go_meet
      case rel=>exact ⟨_,(true),zc_,H',⟨zbc_⟩,⟨zb BK203.out⟩,⟨zh_⟩⟩
     ·rw [if_neg c10] at H
      have c10b0:=decide_eq_false c10;have c10b1:decide (l0_2.length<1)=false:=decide_eq_false (by omega);clear c10;have H':=aM H;clear H;obtain ⟨hcz12_0,hcz12_1,hcz12_2,hfz12_0,hfz12_1,hfz12_2⟩:=zk3 BK203.out
      go_wp2
      go_meet
      case rel=>exact ⟨_,(decide ((l0_2.length:Int)>4)),zc_,H',⟨zbc_⟩,⟨zb BK203.out⟩,⟨zh_⟩⟩
 case rest =>
  clear HC2;obtain ⟨kq,x32_1,rfl,HA,HJ1,BK203,HB⟩:=hcut
  cases kq with
  | zero=>exact absurd HA.out (by simp [impl_IsCircuit.j0])
  | succ kj1 =>
   have H:=HA.out;clear HA
   simp only [impl_IsCircuit.j0] at H
   by_cases c13:x32_1=true
   ·subst c13
    have H1:(some false)=some r:=by rw [if_pos rfl] at H;exact H
    clear H;have H:=H1;clear H1;obtain rfl:=Option.some.inj H
    go_wp2
    go_ret
    exact ⟨zf_,zh_⟩
   ·replace c13:=Bool.eq_false_iff.mpr c13
    subst c13;have H1:(impl_IsCircuit.l0 kj1 l0_1 (l0_1.length:Int) 0 a0_0 l0_1 l0_2)=some r:=by rw [if_neg (show ¬ (false=true) by decide)] at H;exact H
    clear H;have H:=H1;clear H1;have H':=aM H;clear H;obtain ⟨hcz14_0,hcz14_1,hcz14_2,hfz14_0,hfz14_1,hfz14_2⟩:=zk3 BK203.out
    go_wp2
    go_loopg [36] kj1 (fun kq v36 w' => ∃ (x36_2:Int),v36 = .int .i64 x36_2∧Aside0 (impl_IsCircuit.l0 kq l0_1 (l0_1.length:Int) x36_2 a0_0 l0_1 l0_2=some r)∧Aside0 (kq≤kj1)∧Aside0 (w'.heap[gb203]?=some (.cells #[.int .i64 a0_0,(.slice A0_1 l0_1.length c0_1),(.slice A0_2 l0_2.length c0_2)] 31 (0,0)))∧Aside0 (Below w.heap.size w w'))
    case atStart=>exact ⟨(0),zc_,H',⟨Nat.le_refl _⟩,⟨zb BK203.out⟩,⟨zh_⟩⟩
    case round =>
     clear H';(try clear hcz14_0);(try clear hcz14_1);(try clear hcz14_2);(try clear hfz14_0);(try clear hfz14_1);(try clear hfz14_2);obtain ⟨x36_2,rfl,HA,HK2,BK203,HB⟩:=hrel
     cases gk with
     | zero=>exact absurd HA.out (by simp [impl_IsCircuit.l0])
     | succ k2 =>
      have H:=HA.out;clear HA
      simp only [impl_IsCircuit.l0] at H
      by_cases c15:x36_2<(l0_1.length:Int)
      ·rw [if_pos c15] at H
       have c15b0:=decide_eq_true c15;clear c15
       by_cases c16:0≤x36_2
       ·rw [if_pos c16] at H
        have c16b0:=decide_eq_true c16;clear c16
        by_cases c17:x36_2<(l0_1.length:Int)
        ·rw [if_pos c17] at H
         have c17b0:=decide_eq_true c17;clear c17
         by_cases c18:((rd_T47 l0_1 x36_2).f0)<1
         ·rw [if_pos c18] at H
          have c18b0:=decide_eq_true c18;clear c18;obtain rfl:=Option.some.inj H;have p204:0≤(x36_2:Int):=of_decide_eq_true za_;have q204:x36_2<(l0_1.length:Int):=of_decide_eq_true za_;obtain ⟨ad204,e204,hx204_0,hx204_1,hx204_2⟩:=at_T47 HR0_1.out x36_2 p204 q204
          cases e204
          (try (replace hx204_0:=q3h_ HB.out hx204_0));(try (replace hx204_1:=q3h_ HB.out hx204_1));(try (replace hx204_2:=q3h_ HB.out hx204_2));replace p204:=eq_true p204;replace q204:=eq_true q204
          go_wp2_with (first | ((with_reducible refine gate_dst (N:=4) rfl ?_);(try (refine gate_guard (by rfl) ?_;dsimp only));refine box_event ?hg (N:=4) ?hd (cs:=#[.int .i64 0,.int .i64 0,.int .i64 0]) (t:=47) ?hr ?_;(case hd=>rfl);(case hg=>rfl);(case hr=>exact ze_);intro gb205 hg w19 hbox hb;have n_:=z (blk_below (zb BK203.out) hb)<|z (below_step zh_ hb)<|z (hbox)<|z ((by rw [hg];exact (below_size zh_):w.heap.size≤gb205))<|z ((by rw [hg];exact (below_size zh_):w.heap.size≤gb205))<|z ((by rw [hg];exact Nat.ne_of_lt (blk_lt (zb BK203.out)):gb203≠gb205))<|z1 ((by rw [hg];exact Nat.ne_of_gt (blk_lt (zb BK203.out)):gb205≠gb203));clear BK203 HB;obtain ⟨BK203,HB,BK205,GW205,GE205,NB203_205,NB205_203⟩:=n_;clear hb hbox hg;have hnb20:=NB205_203.out;have hnc20:=NB203_205.out;obtain ⟨hcz21_0,hcz21_1,hcz21_2,hfz21_0,hfz21_1,hfz21_2⟩:=zk3 BK205.out))
          go_ret
          exact ⟨zf_,zce_⟩
         ·rw [if_neg c18] at H
          have c18b0:=decide_eq_false c18;clear c18
          by_cases c22:((rd_T47 l0_1 x36_2).f0)>4
          ·rw [if_pos c22] at H
           have c22b0:decide (4<((rd_T47 l0_1 x36_2).f0))=true:=decide_eq_true c22;clear c22;obtain rfl:=Option.some.inj H;have p204:0≤(x36_2:Int):=of_decide_eq_true za_;have q204:x36_2<(l0_1.length:Int):=of_decide_eq_true za_;obtain ⟨ad204,e204,hx204_0,hx204_1,hx204_2⟩:=at_T47 HR0_1.out x36_2 p204 q204
           cases e204
           (try (replace hx204_0:=q3h_ HB.out hx204_0));(try (replace hx204_1:=q3h_ HB.out hx204_1));(try (replace hx204_2:=q3h_ HB.out hx204_2));replace p204:=eq_true p204;replace q204:=eq_true q204
           go_wp2_with (first | ((with_reducible refine gate_dst (N:=4) rfl ?_);(try (refine gate_guard (by rfl) ?_;dsimp only));refine box_event ?hg (N:=4) ?hd (cs:=#[.int .i64 0,.int .i64 0,.int .i64 0]) (t:=47) ?hr ?_;(case hd=>rfl);(case hg=>rfl);(case hr=>exact ze_);intro gb205 hg w23 hbox hb;have n_:=z (blk_below (zb BK203.out) hb)<|z (below_step zh_ hb)<|z (hbox)<|z ((by rw [hg];exact (below_size zh_):w.heap.size≤gb205))<|z ((by rw [hg];exact (below_size zh_):w.heap.size≤gb205))<|z ((by rw [hg];exact Nat.ne_of_lt (blk_lt (zb BK203.out)):gb203≠gb205))<|z1 ((by rw [hg];exact Nat.ne_of_gt (blk_lt (zb BK203.out)):gb205≠gb203));clear BK203 HB;obtain ⟨BK203,HB,BK205,GW205,GE205,NB203_205,NB205_203⟩:=n_;clear hb hbox hg;have hnb24:=NB205_203.out;have hnc24:=NB203_205.out;obtain ⟨hcz25_0,hcz25_1,hcz25_2,hfz25_0,hfz25_1,hfz25_2⟩:=zk3 BK205.out))
           go_ret
           exact ⟨zf_,zce_⟩
          ·rw [if_neg c22] at H
           have c22b0:decide (4<((rd_T47 l0_1 x36_2).f0))=false:=decide_eq_false c22;clear c22
           by_cases c26:((rd_T47 l0_1 x36_2).f1)<0
           ·rw [if_pos c26] at H
            have c26b0:=decide_eq_true c26;clear c26;obtain rfl:=Option.some.inj H;have p204:0≤(x36_2:Int):=of_decide_eq_true za_;have q204:x36_2<(l0_1.length:Int):=of_decide_eq_true za_;obtain ⟨ad204,e204,hx204_0,hx204_1,hx204_2⟩:=at_T47 HR0_1.out x36_2 p204 q204
            cases e204
            (try (replace hx204_0:=q3h_ HB.out hx204_0));(try (replace hx204_1:=q3h_ HB.out hx204_1));(try (replace hx204_2:=q3h_ HB.out hx204_2));replace p204:=eq_true p204;replace q204:=eq_true q204
            go_wp2_with (first | ((with_reducible refine gate_dst (N:=4) rfl ?_);(try (refine gate_guard (by rfl) ?_;dsimp only));refine box_event ?hg (N:=4) ?hd (cs:=#[.int .i64 0,.int .i64 0,.int .i64 0]) (t:=47) ?hr ?_;(case hd=>rfl);(case hg=>rfl);(case hr=>exact ze_);intro gb205 hg w27 hbox hb;have n_:=z (blk_below (zb BK203.out) hb)<|z (below_step zh_ hb)<|z (hbox)<|z ((by rw [hg];exact (below_size zh_):w.heap.size≤gb205))<|z ((by rw [hg];exact (below_size zh_):w.heap.size≤gb205))<|z ((by rw [hg];exact Nat.ne_of_lt (blk_lt (zb BK203.out)):gb203≠gb205))<|z1 ((by rw [hg];exact Nat.ne_of_gt (blk_lt (zb BK203.out)):gb205≠gb203));clear BK203 HB;obtain ⟨BK203,HB,BK205,GW205,GE205,NB203_205,NB205_203⟩:=n_;clear hb hbox hg;have hnb28:=NB205_203.out;have hnc28:=NB203_205.out;obtain ⟨hcz29_0,hcz29_1,hcz29_2,hfz29_0,hfz29_1,hfz29_2⟩:=zk3 BK205.out))
            go_ret
            exact ⟨zf_,zce_⟩
           ·rw [if_neg c26] at H
            have c26b0:=decide_eq_false c26;clear c26
            by_cases c30:((rd_T47 l0_1 x36_2).f1)≥(wrap64 (a0_0+x36_2))
            ·rw [if_pos c30] at H
             have c30b0:decide ((wrap64 (a0_0+x36_2))≤((rd_T47 l0_1 x36_2).f1))=true:=decide_eq_true c30;clear c30;obtain rfl:=Option.some.inj H;have p204:0≤(x36_2:Int):=of_decide_eq_true za_;have q204:x36_2<(l0_1.length:Int):=of_decide_eq_true za_;obtain ⟨ad204,e204,hx204_0,hx204_1,hx204_2⟩:=at_T47 HR0_1.out x36_2 p204 q204
             cases e204
             (try (replace hx204_0:=q3h_ HB.out hx204_0));(try (replace hx204_1:=q3h_ HB.out hx204_1));(try (replace hx204_2:=q3h_ HB.out hx204_2));replace p204:=eq_true p204;replace q204:=eq_true q204
             go_wp2_with (first | ((with_reducible refine gate_dst (N:=4) rfl ?_);(try (refine gate_guard (by rfl) ?_;dsimp only));refine box_event ?hg (N:=4) ?hd (cs:=#[.int .i64 0,.int .i64 0,.int .i64 0]) (t:=47) ?hr ?_;(case hd=>rfl);(case hg=>rfl);(case hr=>exact ze_);intro gb205 hg w31 hbox hb;have n_:=z (blk_below (zb BK203.out) hb)<|z (below_step zh_ hb)<|z (hbox)<|z ((by rw [hg];exact (below_size zh_):w.heap.size≤gb205))<|z ((by rw [hg];exact (below_size zh_):w.heap.size≤gb205))<|z ((by rw [hg];exact Nat.ne_of_lt (blk_lt (zb BK203.out)):gb203≠gb205))<|z1 ((by rw [hg];exact Nat.ne_of_gt (blk_lt (zb BK203.out)):gb205≠gb203));clear BK203 HB;obtain ⟨BK203,HB,BK205,GW205,GE205,NB203_205,NB205_203⟩:=n_;clear hb hbox hg;have hnb32:=NB205_203.out;have hnc32:=NB203_205.out;obtain ⟨hcz33_0,hcz33_1,hcz33_2,hfz33_0,hfz33_1,hfz33_2⟩:=zk3 BK205.out;obtain ⟨hcz34_0,hcz34_1,hcz34_2,hfz34_0,hfz34_1,hfz34_2⟩:=zk3 BK203.out))
             go_ret
             exact ⟨zf_,zce_⟩
            ·rw [if_neg c30] at H
             have c30b0:decide ((wrap64 (a0_0+x36_2))≤((rd_T47 l0_1 x36_2).f1))=false:=decide_eq_false c30;clear c30
             by_cases c35:((rd_T47 l0_1 x36_2).f2)<0
             ·rw [if_pos c35] at H
              have c35b0:=decide_eq_true c35;clear c35;obtain rfl:=Option.some.inj H;have p204:0≤(x36_2:Int):=of_decide_eq_true za_;have q204:x36_2<(l0_1.length:Int):=of_decide_eq_true za_;obtain ⟨ad204,e204,hx204_0,hx204_1,hx204_2⟩:=at_T47 HR0_1.out x36_2 p204 q204
              cases e204
              (try (replace hx204_0:=q3h_ HB.out hx204_0));(try (replace hx204_1:=q3h_ HB.out hx204_1));(try (replace hx204_2:=q3h_ HB.out hx204_2));replace p204:=eq_true p204;replace q204:=eq_true q204
              go_wp2_with (first | ((with_reducible refine gate_dst (N:=4) rfl ?_);(try (refine gate_guard (by rfl) ?_;dsimp only));refine box_event ?hg (N:=4) ?hd (cs:=#[.int .i64 0,.int .i64 0,.int .i64 0]) (t:=47) ?hr ?_;(case hd=>rfl);(case hg=>rfl);(case hr=>exact ze_);intro gb205 hg w36 hbox hb;have n_:=z (blk_below (zb BK203.out) hb)<|z (below_step zh_ hb)<|z (hbox)<|z ((by rw [hg];exact (below_size zh_):w.heap.size≤gb205))<|z ((by rw [hg];exact (below_size zh_):w.heap.size≤gb205))<|z ((by rw [hg];exact Nat.ne_of_lt (blk_lt (zb BK203.out)):gb203≠gb205))<|z1 ((by rw [hg];exact Nat.ne_of_gt (blk_lt (zb BK203.out)):gb205≠gb203));clear BK203 HB;obtain ⟨BK203,HB,BK205,GW205,GE205,NB203_205,NB205_203⟩:=n_;clear hb hbox hg;have hnb37:=NB205_203.out;have hnc37:=NB203_205.out;obtain ⟨hcz38_0,hcz38_1,hcz38_2,hfz38_0,hfz38_1,hfz38_2⟩:=zk3 BK205.out;obtain ⟨hcz39_0,hcz39_1,hcz39_2,hfz39_0,hfz39_1,hfz39_2⟩:=zk3 BK203.out))
              go_ret
              exact ⟨zf_,zce_⟩
             ·rw [if_neg c35] at H
              have c35b0:=decide_eq_false c35;clear c35
              by_cases c40:((rd_T47 l0_1 x36_2).f2)≥(wrap64 (a0_0+x36_2))
              ·rw [if_pos c40] at H
               have c40b0:decide ((wrap64 (a0_0+x36_2))≤((rd_T47 l0_1 x36_2).f2))=true:=decide_eq_true c40;clear c40;obtain rfl:=Option.some.inj H;have p204:0≤(x36_2:Int):=of_decide_eq_true za_;have q204:x36_2<(l0_1.length:Int):=of_decide_eq_true za_;obtain ⟨ad204,e204,hx204_0,hx204_1,hx204_2⟩:=at_T47 HR0_1.out x36_2 p204 q204
               cases e204
               (try (replace hx204_0:=q3h_ HB.out hx204_0));(try (replace hx204_1:=q3h_ HB.out hx204_1));(try (replace hx204_2:=q3h_ HB.out hx204_2));replace p204:=eq_true p204;replace q204:=eq_true q204
               go_wp2_with (first | ((with_reducible refine gate_dst (N:=4) rfl ?_);(try (refine gate_guard (by rfl) ?_;dsimp only));refine box_event ?hg (N:=4) ?hd (cs:=#[.int .i64 0,.int .i64 0,.int .i64 0]) (t:=47) ?hr ?_;(case hd=>rfl);(case hg=>rfl);(case hr=>exact ze_);intro gb205 hg w41 hbox hb;have n_:=z (blk_below (zb BK203.out) hb)<|z (below_step zh_ hb)<|z (hbox)<|z ((by rw [hg];exact (below_size zh_):w.heap.size≤gb205))<|z ((by rw [hg];exact (below_size zh_):w.heap.size≤gb205))<|z ((by rw [hg];exact Nat.ne_of_lt (blk_lt (zb BK203.out)):gb203≠gb205))<|z1 ((by rw [hg];exact Nat.ne_of_gt (blk_lt (zb BK203.out)):gb205≠gb203));clear BK203 HB;obtain ⟨BK203,HB,BK205,GW205,GE205,NB203_205,NB205_203⟩:=n_;clear hb hbox hg;have hnb42:=NB205_203.out;have hnc42:=NB203_205.out;obtain ⟨hcz43_0,hcz43_1,hcz43_2,hfz43_0,hfz43_1,hfz43_2⟩:=zk3 BK205.out;obtain ⟨hcz44_0,hcz44_1,hcz44_2,hfz44_0,hfz44_1,hfz44_2⟩:=zk3 BK203.out))
               go_ret
               exact ⟨zf_,zce_⟩
              ·rw [if_neg c40] at H
               have c40b0:decide ((wrap64 (a0_0+x36_2))≤((rd_T47 l0_1 x36_2).f2))=false:=decide_eq_false c40;clear c40
               by_cases c45:((rd_T47 l0_1 x36_2).f0)=4
               ·rw [if_pos c45] at H
                have c45b0:=beq_iff_eq.mpr c45;have c45b1:=bne_eq_false_iff_eq.mpr c45;clear c45
                by_cases c46:((rd_T47 l0_1 x36_2).f1)=((rd_T47 l0_1 x36_2).f2)
                ·rw [if_pos c46] at H
                 have c46b0:=beq_iff_eq.mpr c46;have c46b1:=bne_eq_false_iff_eq.mpr c46;clear c46;have H':=aM H;clear H;have p204:0≤(x36_2:Int):=of_decide_eq_true za_;have q204:x36_2<(l0_1.length:Int):=of_decide_eq_true za_;obtain ⟨ad204,e204,hx204_0,hx204_1,hx204_2⟩:=at_T47 HR0_1.out x36_2 p204 q204
                 cases e204
                 (try (replace hx204_0:=q3h_ HB.out hx204_0));(try (replace hx204_1:=q3h_ HB.out hx204_1));(try (replace hx204_2:=q3h_ HB.out hx204_2));replace p204:=eq_true p204;replace q204:=eq_true q204
                 go_wp2_with (first | ((with_reducible refine gate_dst (N:=4) rfl ?_);(try (refine gate_guard (by rfl) ?_;dsimp only));refine box_event ?hg (N:=4) ?hd (cs:=#[.int .i64 0,.int .i64 0,.int .i64 0]) (t:=47) ?hr ?_;(case hd=>rfl);(case hg=>rfl);(case hr=>exact ze_);intro gb205 hg w47 hbox hb;have n_:=z (blk_below (zb BK203.out) hb)<|z (below_step zh_ hb)<|z (hbox)<|z ((by rw [hg];exact (below_size zh_):w.heap.size≤gb205))<|z ((by rw [hg];exact (below_size zh_):w.heap.size≤gb205))<|z ((by rw [hg];exact Nat.ne_of_lt (blk_lt (zb BK203.out)):gb203≠gb205))<|z1 ((by rw [hg];exact Nat.ne_of_gt (blk_lt (zb BK203.out)):gb205≠gb203));clear BK203 HB;obtain ⟨BK203,HB,BK205,GW205,GE205,NB203_205,NB205_203⟩:=n_;clear hb hbox hg;have hnb48:=NB205_203.out;have hnc48:=NB203_205.out;obtain ⟨hcz49_0,hcz49_1,hcz49_2,hfz49_0,hfz49_1,hfz49_2⟩:=zk3 BK205.out;obtain ⟨hcz50_0,hcz50_1,hcz50_2,hfz50_0,hfz50_1,hfz50_2⟩:=zk3 BK203.out))
                 go_roundg k2
                 case measure=>have:=HJ1.out;have:=HK2.out;omega
                 case rel=>exact ⟨(wrap64 (x36_2+1)),zc_,H',⟨by have:=HJ1.out;have:=HK2.out;omega⟩,⟨by refine zb ?_;refine blk_far ?_ NB203_205.out _;refine zb ?_;refine blk_far ?_ NB203_205.out _;refine zb ?_;refine blk_far ?_ NB203_205.out _;refine zb ?_;exact BK203.out⟩,⟨zce_⟩⟩
                ·rw [if_neg c46] at H
                 have c46b0:=beq_eq_false_iff_ne.mpr c46;have c46b1:=bne_iff_ne.mpr c46;obtain rfl:=Option.some.inj H;have p204:0≤(x36_2:Int):=of_decide_eq_true za_;have q204:x36_2<(l0_1.length:Int):=of_decide_eq_true za_;obtain ⟨ad204,e204,hx204_0,hx204_1,hx204_2⟩:=at_T47 HR0_1.out x36_2 p204 q204
                 cases e204
                 (try (replace hx204_0:=q3h_ HB.out hx204_0));(try (replace hx204_1:=q3h_ HB.out hx204_1));(try (replace hx204_2:=q3h_ HB.out hx204_2));replace p204:=eq_true p204;replace q204:=eq_true q204
                 go_wp2_with (first | ((with_reducible refine gate_dst (N:=4) rfl ?_);(try (refine gate_guard (by rfl) ?_;dsimp only));refine box_event ?hg (N:=4) ?hd (cs:=#[.int .i64 0,.int .i64 0,.int .i64 0]) (t:=47) ?hr ?_;(case hd=>rfl);(case hg=>rfl);(case hr=>exact ze_);intro gb205 hg w51 hbox hb;have n_:=z (blk_below (zb BK203.out) hb)<|z (below_step zh_ hb)<|z (hbox)<|z ((by rw [hg];exact (below_size zh_):w.heap.size≤gb205))<|z ((by rw [hg];exact (below_size zh_):w.heap.size≤gb205))<|z ((by rw [hg];exact Nat.ne_of_lt (blk_lt (zb BK203.out)):gb203≠gb205))<|z1 ((by rw [hg];exact Nat.ne_of_gt (blk_lt (zb BK203.out)):gb205≠gb203));clear BK203 HB;obtain ⟨BK203,HB,BK205,GW205,GE205,NB203_205,NB205_203⟩:=n_;clear hb hbox hg;have hnb52:=NB205_203.out;have hnc52:=NB203_205.out;obtain ⟨hcz53_0,hcz53_1,hcz53_2,hfz53_0,hfz53_1,hfz53_2⟩:=zk3 BK205.out;obtain ⟨hcz54_0,hcz54_1,hcz54_2,hfz54_0,hfz54_1,hfz54_2⟩:=zk3 BK203.out))
                 go_ret
                 exact ⟨zf_,zce_⟩
               ·rw [if_neg c45] at H
                have c45b0:=beq_eq_false_iff_ne.mpr c45;have c45b1:=bne_iff_ne.mpr c45;have H':=aM H;clear H;have p204:0≤(x36_2:Int):=of_decide_eq_true za_;have q204:x36_2<(l0_1.length:Int):=of_decide_eq_true za_;obtain ⟨ad204,e204,hx204_0,hx204_1,hx204_2⟩:=at_T47 HR0_1.out x36_2 p204 q204
                cases e204
                (try (replace hx204_0:=q3h_ HB.out hx204_0));(try (replace hx204_1:=q3h_ HB.out hx204_1));(try (replace hx204_2:=q3h_ HB.out hx204_2));replace p204:=eq_true p204;replace q204:=eq_true q204
                go_wp2_with (first | ((with_reducible refine gate_dst (N:=4) rfl ?_);(try (refine gate_guard (by rfl) ?_;dsimp only));refine box_event ?hg (N:=4) ?hd (cs:=#[.int .i64 0,.int .i64 0,.int .i64 0]) (t:=47) ?hr ?_;(case hd=>rfl);(case hg=>rfl);(case hr=>exact ze_);intro gb205 hg w55 hbox hb;have n_:=z (blk_below (zb BK203.out) hb)<|z (below_step zh_ hb)<|z (hbox)<|z ((by rw [hg];exact (below_size zh_):w.heap.size≤gb205))<|z ((by rw [hg];exact (below_size zh_):w.heap.size≤gb205))<|z ((by rw [hg];exact Nat.ne_of_lt (blk_lt (zb BK203.out)):gb203≠gb205))<|z1 ((by rw [hg];exact Nat.ne_of_gt (blk_lt (zb BK203.out)):gb205≠gb203));clear BK203 HB;obtain ⟨BK203,HB,BK205,GW205,GE205,NB203_205,NB205_203⟩:=n_;clear hb hbox hg;have hnb56:=NB205_203.out;have hnc56:=NB203_205.out;obtain ⟨hcz57_0,hcz57_1,hcz57_2,hfz57_0,hfz57_1,hfz57_2⟩:=zk3 BK205.out;obtain ⟨hcz58_0,hcz58_1,hcz58_2,hfz58_0,hfz58_1,hfz58_2⟩:=zk3 BK203.out))
                go_roundg k2
                case measure=>have:=HJ1.out;have:=HK2.out;omega
                case rel=>exact ⟨(wrap64 (x36_2+1)),zc_,H',⟨by have:=HJ1.out;have:=HK2.out;omega⟩,⟨by refine zb ?_;refine blk_far ?_ NB203_205.out _;refine zb ?_;refine blk_far ?_ NB203_205.out _;refine zb ?_;refine blk_far ?_ NB203_205.out _;refine zb ?_;exact BK203.out⟩,⟨zce_⟩⟩
        ·rw [if_neg c17] at H
         exact q3n_ H
       ·rw [if_neg c16] at H
        exact q3n_ H
      ·rw [if_neg c15] at H
       have c15b0:=decide_eq_false c15;clear c15;have H':=aM H;clear H;obtain ⟨hcz59_0,hcz59_1,hcz59_2,hfz59_0,hfz59_1,hfz59_2⟩:=zk3 BK203.out
       go_wp2
       go_loopg [93] k2 (fun kq v93 w' => ∃ (x93_3:Int),v93 = .int .i64 x93_3∧Aside0 (impl_IsCircuit.l1 kq l0_2 (l0_2.length:Int) x93_3 a0_0 l0_1 l0_2=some r)∧Aside0 (kq≤k2)∧Aside0 (w'.heap[gb203]?=some (.cells #[.int .i64 a0_0,(.slice A0_1 l0_1.length c0_1),(.slice A0_2 l0_2.length c0_2)] 31 (0,0)))∧Aside0 (Below w.heap.size w w'))
       case atStart=>exact ⟨(0),zc_,H',⟨Nat.le_refl _⟩,⟨zb BK203.out⟩,⟨zh_⟩⟩
       case round =>
        clear H';(try clear c15b0);(try clear hcz59_0);(try clear hcz59_1);(try clear hcz59_2);(try clear hfz59_0);(try clear hfz59_1);(try clear hfz59_2);obtain ⟨x93_3,rfl,HA,HK3,BK203,HB⟩:=hrel
        cases gk with
        | zero=>exact absurd HA.out (by simp [impl_IsCircuit.l1])
        | succ k3 =>
         have H:=HA.out;clear HA
         simp only [impl_IsCircuit.l1] at H
         by_cases c60:x93_3<(l0_2.length:Int)
         ·rw [if_pos c60] at H
          have c60b0:=decide_eq_true c60;clear c60
          by_cases c61:0≤x93_3
          ·rw [if_pos c61] at H
           have c61b0:=decide_eq_true c61;clear c61
           by_cases c62:x93_3<(l0_2.length:Int)
           ·rw [if_pos c62] at H
            have c62b0:=decide_eq_true c62;clear c62
            by_cases c63:(rd l0_2 x93_3)<0
            ·rw [if_pos c63] at H
             have c63b0:=decide_eq_true c63;clear c63;obtain rfl:=Option.some.inj H;have p206:0≤(x93_3:Int):=of_decide_eq_true za_;have q206:x93_3<(l0_2.length:Int):=of_decide_eq_true za_;obtain ⟨ad206,e206,hx206_0⟩:=Kd.at_int HR0_2.out x93_3 p206 q206
             cases e206
             (try (replace hx206_0:=q3h_ HB.out hx206_0));replace p206:=eq_true p206;replace q206:=eq_true q206
             go_wp2
             go_ret
             exact ⟨zf_,zh_⟩
            ·rw [if_neg c63] at H
             have c63b0:=decide_eq_false c63;clear c63
             by_cases c64:(rd l0_2 x93_3)≥(wrap64 (a0_0+(l0_1.length:Int)))
             ·rw [if_pos c64] at H
              have c64b0:decide ((wrap64 (a0_0+(l0_1.length:Int)))≤(rd l0_2 x93_3))=true:=decide_eq_true c64;clear c64;obtain rfl:=Option.some.inj H;have p206:0≤(x93_3:Int):=of_decide_eq_true za_;have q206:x93_3<(l0_2.length:Int):=of_decide_eq_true za_;obtain ⟨ad206,e206,hx206_0⟩:=Kd.at_int HR0_2.out x93_3 p206 q206
              cases e206
              (try (replace hx206_0:=q3h_ HB.out hx206_0));replace p206:=eq_true p206;replace q206:=eq_true q206;obtain ⟨hcz65_0,hcz65_1,hcz65_2,hfz65_0,hfz65_1,hfz65_2⟩:=zk3 BK203.out
              go_wp2
              go_ret
              exact ⟨zf_,zh_⟩
             ·rw [if_neg c64] at H
              have c64b0:decide ((wrap64 (a0_0+(l0_1.length:Int)))≤(rd l0_2 x93_3))=false:=decide_eq_false c64;clear c64;have H':=aM H;clear H;have p206:0≤(x93_3:Int):=of_decide_eq_true za_;have q206:x93_3<(l0_2.length:Int):=of_decide_eq_true za_;obtain ⟨ad206,e206,hx206_0⟩:=Kd.at_int HR0_2.out x93_3 p206 q206
              cases e206
              (try (replace hx206_0:=q3h_ HB.out hx206_0));replace p206:=eq_true p206;replace q206:=eq_true q206;obtain ⟨hcz66_0,hcz66_1,hcz66_2,hfz66_0,hfz66_1,hfz66_2⟩:=zk3 BK203.out
              go_wp2
              go_roundg k3
              case measure=>have:=HJ1.out;have:=HK2.out;have:=HK3.out;omega
              case rel=>exact ⟨(wrap64 (x93_3+1)),zc_,H',⟨by have:=HJ1.out;have:=HK2.out;have:=HK3.out;omega⟩,⟨zb BK203.out⟩,⟨zh_⟩⟩
           ·rw [if_neg c62] at H
            exact q3n_ H
          ·rw [if_neg c61] at H
           exact q3n_ H
         ·rw [if_neg c60] at H
          have c60b0:=decide_eq_false c60;clear c60;obtain rfl:=Option.some.inj H
          go_wp2
          go_ret
          exact ⟨zf_,zh_⟩
def strings_explode.f (_:ByteArray) (_:Int):Option (List ByteArray):=none
theorem strings_explode.calls (a0:ByteArray) (a1:Int) (r:List ByteArray) (w:World) (h:strings_explode.f a0 a1=some r) :
  Calls Tryd.prog 51 #[.string a0,.int .i64 a1] w fun e w' => ∃ v0_:Value,e = .returned (v0_)∧Kd.R Kd.string 9 w' w.heap.size (fun _=>True) v0_ r∧Below w.heap.size w w':=by
 cases h
def strings_Count.f (a0:ByteArray) (a1:ByteArray):Option Int:=match a1.data.toList with | [c]=>some (Lib.countByte a0.data.toList c:Int) | _=>none
theorem strings_Count.calls (a0:ByteArray) (a1:ByteArray) (r:Int) (w:World) (h:strings_Count.f a0 a1=some r) :
  Calls Tryd.prog 52 #[.string a0,.string a1] w fun e w'=>e = .returned (.int .i64 r)∧Drawn0 w w':=by
 unfold strings_Count.f at h
 obtain ⟨⟨l⟩⟩:=a1
 match l,h with
 | [c],h =>
  obtain rfl:=Option.some.inj h
  refine (Tryd.strings_Count_one a0 c w).mono ?_
  rintro e w' ⟨rfl,rfl⟩
  exact ⟨rfl,Drawn0.refl _⟩
 | [],h=>cases h
 | _ :: _ :: _,h=>cases h
def strings_Index.f (a0:ByteArray) (a1:ByteArray):Option Int:=match a1.data.toList with | [c]=>some (Lib.indexByte a0.data.toList c) | _=>none
theorem strings_Index.calls (a0:ByteArray) (a1:ByteArray) (r:Int) (w:World) (h:strings_Index.f a0 a1=some r) :
  Calls Tryd.prog 53 #[.string a0,.string a1] w fun e w'=>e = .returned (.int .i64 r)∧Drawn0 w w':=by
 unfold strings_Index.f at h
 obtain ⟨⟨l⟩⟩:=a1
 match l,h with
 | [c],h =>
  obtain rfl:=Option.some.inj h
  refine (Tryd.strings_Index_one a0 c w).mono ?_
  rintro e w' ⟨rfl,rfl⟩
  exact ⟨rfl,Drawn0.refl _⟩
 | [],h=>cases h
 | _ :: _ :: _,h=>cases h
mutual
def strings_genSplit.j0:Nat→ByteArray→ByteArray→Int→Int→Option (List ByteArray)
 | 0,_,_,_,_=>none
 | k+1,x0,x1,x2,x3=>if 0≤(mn x3 (wrap64 ((x0.size:Int)+1))) then (if (mn x3 (wrap64 ((x0.size:Int)+1)):Int).toNat≤17592186044416 then (strings_genSplit.l0 k x0 x1 x2 (wrap64 ((mn x3 (wrap64 ((x0.size:Int)+1))) - 1)) (List.replicate (mn x3 (wrap64 ((x0.size:Int)+1)):Int).toNat (⟨#[]⟩:ByteArray)) 0) else (none)) else (none)
def strings_genSplit.l0:Nat→ByteArray→ByteArray→Int→Int→List ByteArray→Int→Option (List ByteArray)
 | 0,_,_,_,_,_,_=>none
 | k+1,x0,x1,x2,x3,x9,x10=>if x10<x3 then ((strings_Index.f x0 x1).bind fun t214=>(if t214<0 then (if 0≤x10 then (if x10<(x9.length:Int) then (if 0≤(wrap64 (x10+1)) then (if (wrap64 (x10+1))≤(x9.length:Int) then (some ((x9.set (x10:Int).toNat x0).take ((wrap64 (x10+1)):Int).toNat)) else (none)) else (none)) else (none)) else (none)) else (if 0≤(wrap64 (t214+x2)) then (if (wrap64 (t214+x2))≤(x0.size:Int) then (if 0≤x10 then (if x10<(x9.length:Int) then (if 0≤(wrap64 (t214+(x1.size:Int))) then (if (wrap64 (t214+(x1.size:Int)))≤(x0.size:Int) then (strings_genSplit.l0 k (x0.extract ((wrap64 (t214+(x1.size:Int))):Int).toNat x0.size) x1 x2 x3 (x9.set (x10:Int).toNat (x0.extract 0 ((wrap64 (t214+x2)):Int).toNat)) (wrap64 (x10+1))) else (none)) else (none)) else (none)) else (none)) else (none)) else (none)))) else (if 0≤x10 then (if x10<(x9.length:Int) then (if 0≤(wrap64 (x10+1)) then (if (wrap64 (x10+1))≤(x9.length:Int) then (some ((x9.set (x10:Int).toNat x0).take ((wrap64 (x10+1)):Int).toNat)) else (none)) else (none)) else (none)) else (none))
end
def strings_genSplit.f (k:Nat) (a0:ByteArray) (a1:ByteArray) (a2:Int) (a3:Int):Option (List ByteArray):=if a3=0 then (some ([]:List ByteArray)) else (if a1.toList=([]:List UInt8) then ((strings_explode.f a0 a3).bind fun t207=>(some t207)) else (if a3<0 then ((strings_Count.f a0 a1).bind fun t210=>(strings_genSplit.j0 k a0 a1 a2 (wrap64 (t210+1)))) else (strings_genSplit.j0 k a0 a1 a2 a3)))
theorem strings_genSplit.mono_l:∀ k,(∀ y0 y1 y2 y3,LeO (strings_genSplit.j0 k y0 y1 y2 y3) (strings_genSplit.j0 (k+1) y0 y1 y2 y3))∧(∀ y0 y1 y2 y3 y4 y5,LeO (strings_genSplit.l0 k y0 y1 y2 y3 y4 y5) (strings_genSplit.l0 (k+1) y0 y1 y2 y3 y4 y5))
 | 0=>⟨fun _ _ _ _ r h=>by simp [strings_genSplit.j0] at h,fun _ _ _ _ _ _ r h=>by simp [strings_genSplit.l0] at h⟩
 | k+1=>by
  obtain ⟨ih0,ih1⟩:=strings_genSplit.mono_l k
  refine ⟨?_,?_⟩
  ·intro y0 y1 y2 y3
   unfold strings_genSplit.j0
   repeat' first
   | (with_reducible exact ih0 _ _ _ _)
   | (with_reducible exact ih1 _ _ _ _ _ _)
   | (with_reducible exact LeO.refl _)
   | (with_reducible exact LeO.none _)
   | (with_reducible refine LeO.ite ?_ ?_)
   | (with_reducible refine LeO.bind ?_ (fun _=>?_))
   | exact ih0 _ _ _ _
   | exact ih1 _ _ _ _ _ _
   | exact LeO.none _
   | refine LeO.ite ?_ ?_
   | refine LeO.bind ?_ (fun _=>?_)
  ·intro y0 y1 y2 y3 y4 y5
   unfold strings_genSplit.l0
   repeat' first
   | (with_reducible exact ih0 _ _ _ _)
   | (with_reducible exact ih1 _ _ _ _ _ _)
   | (with_reducible exact LeO.refl _)
   | (with_reducible exact LeO.none _)
   | (with_reducible refine LeO.ite ?_ ?_)
   | (with_reducible refine LeO.bind ?_ (fun _=>?_))
   | exact ih0 _ _ _ _
   | exact ih1 _ _ _ _ _ _
   | exact LeO.none _
   | refine LeO.ite ?_ ?_
   | refine LeO.bind ?_ (fun _=>?_)
theorem strings_genSplit.mono:∀ a0 a1 a2 a3 k,LeO (strings_genSplit.f k a0 a1 a2 a3) (strings_genSplit.f (k+1) a0 a1 a2 a3):=by
 intro a0 a1 a2 a3 k
 obtain ⟨ih0,ih1⟩:=strings_genSplit.mono_l k
 unfold strings_genSplit.f
 repeat' first
   | (with_reducible exact ih0 _ _ _ _)
   | (with_reducible exact ih1 _ _ _ _ _ _)
   | (with_reducible exact LeO.refl _)
   | (with_reducible exact LeO.none _)
   | (with_reducible refine LeO.ite ?_ ?_)
   | (with_reducible refine LeO.bind ?_ (fun _=>?_))
   | exact ih0 _ _ _ _
   | exact ih1 _ _ _ _ _ _
   | exact LeO.none _
   | refine LeO.ite ?_ ?_
   | refine LeO.bind ?_ (fun _=>?_)
theorem strings_genSplit.calls (k:Nat) (a0:ByteArray) (a1:ByteArray) (a2:Int) (a3:Int) (r:List ByteArray) (w:World) (h:strings_genSplit.f k a0 a1 a2 a3=some r) :
  Calls Tryd.prog 45 #[.string a0,.string a1,.int .i64 a2,.int .i64 a3] w fun e w' => ∃ v0_:Value,e = .returned (v0_)∧Kd.R Kd.string 9 w' w.heap.size (fun _=>True) v0_ r∧Below w.heap.size w w':=by
 have HB:=aM (Below.refl w.heap.size w)
 have H:(if a3=0 then (some ([]:List ByteArray)) else (if a1.toList=([]:List UInt8) then ((strings_explode.f a0 a3).bind fun t207=>(some t207)) else (if a3<0 then ((strings_Count.f a0 a1).bind fun t210=>(strings_genSplit.j0 k a0 a1 a2 (wrap64 (t210+1)))) else (strings_genSplit.j0 k a0 a1 a2 a3))))=some r:=h
 clear h
 by_cases c5:a3=0
 ·rw [if_pos c5] at H
  have c5b0:=beq_iff_eq.mpr c5;have c5b1:=bne_eq_false_iff_eq.mpr c5;clear c5;obtain rfl:=Option.some.inj H
  go_enter Tryd.func45,Tryd.ntmps45
  go_wp2
  go_ret
  exact ⟨_,zf_,zi_,zb_⟩
 ·rw [if_neg c5] at H
  have c5b0:=beq_eq_false_iff_ne.mpr c5;have c5b1:=bne_iff_ne.mpr c5
  by_cases c6:a1.toList=([]:List UInt8)
  ·rw [if_pos c6] at H
   have c6b0:=beq_iff_eq.mpr c6;have c6b1:=bne_eq_false_iff_eq.mpr c6;clear c6;replace H:=oB.mp H;obtain ⟨t207,A70,H⟩:=H;replace H:(some t207)=some r:=H;have A7:=aM A70;clear A70;obtain rfl:=Option.some.inj H
   go_enter Tryd.func45,Tryd.ntmps45
   go_wp2_with (first | ((with_reducible refine gate_callee (f:=51) rfl ?_);refine goesL_ (some 18) rfl rfl Tryd.func51 (by kernel_rfl) rfl #[.string a0,.int .i64 a3] rfl zd_ ?_;(with_reducible refine (strings_explode.calls a0 a3 t207 _ A7.out).mono ?_);rintro e w8 ⟨v208,rfl,ho0,hb⟩;refine ⟨_,rfl,?_⟩;have n_:=z (Kd.R_lower ho0 (below_size zb_))<|z1 (below_step zb_ hb);clear HB;obtain ⟨HO209,HB⟩:=n_;clear hb;(try clear ho0)))
   go_ret
   exact ⟨_,zf_,by refine zr ?_;exact HO209.out,zb_⟩
  ·rw [if_neg c6] at H
   have c6b0:=beq_eq_false_iff_ne.mpr c6;have c6b1:=bne_iff_ne.mpr c6;have HC9:=aM H;clear H
   go_enter Tryd.func45,Tryd.ntmps45
   go_upto_if 20 with (fail)
   go_cut [3] (fun v3 wc => ∃ (kq:Nat) (x3_8:Int),v3 = .int .i64 x3_8∧Aside0 (strings_genSplit.j0 kq a0 a1 a2 x3_8=some r)∧Aside0 (kq≤k)∧Aside0 (Below w.heap.size w wc))
   case first =>
    have H:=HC9.out;clear HC9
    by_cases c10:a3<0
    ·rw [if_pos c10] at H
     have c10b0:=decide_eq_true c10;clear c10;(first | rw [c10b0]|(simp only [i64_w,i32_w];rw [c10b0]) | skip);replace H:=oB.mp H;obtain ⟨t210,A110,H⟩:=H;replace H:(strings_genSplit.j0 k a0 a1 a2 (wrap64 (t210+1)))=some r:=H;have A11:=aM A110;clear A110;have H':=aM H;clear H
     go_wp2_with (first | ((with_reducible refine gate_callee (f:=52) rfl ?_);refine goesL_ (some 23) rfl rfl Tryd.func52 (by kernel_rfl) rfl #[.string a0,.string a1] rfl zd_ ?_;(with_reducible refine (strings_Count.calls a0 a1 t210 _ A11.out).mono ?_);rintro e w' ⟨rfl,⟨nd,rfl⟩⟩;refine ⟨_,rfl,?_⟩))
     go_meet
     case rel=>exact ⟨_,(wrap64 (t210+1)),zc_,H',⟨zbc_⟩,⟨zb_⟩⟩
    ·rw [if_neg c10] at H
     have c10b0:=decide_eq_false c10;clear c10;(first | rw [c10b0]|(simp only [i64_w,i32_w];rw [c10b0]) | skip);have H':=aM H;clear H
     go_wp2
     go_meet
     case rel=>exact ⟨_,(a3),zc_,H',⟨zbc_⟩,⟨zb_⟩⟩
   case rest =>
    clear HC9;(try clear c5);(try clear c5b0);(try clear c5b1);(try clear c6);(try clear c6b0);(try clear c6b1);obtain ⟨kq,x3_8,rfl,HA,HJ8,HB⟩:=hcut
    cases kq with
    | zero=>exact absurd HA.out (by simp [strings_genSplit.j0])
    | succ kj8 =>
     have H:=HA.out;clear HA
     simp only [strings_genSplit.j0] at H
     obtain ⟨ji12,hji12⟩:∃ j_:Int,(mn x3_8 (wrap64 ((a0.size:Int)+1)))=j_:=⟨_,rfl⟩;replace H:(if 0≤(ji12) then (if (ji12:Int).toNat≤17592186044416 then (strings_genSplit.l0 kj8 a0 a1 a2 (wrap64 ((ji12) - 1)) (List.replicate (ji12:Int).toNat (⟨#[]⟩:ByteArray)) 0) else (none)) else (none))=some r:=by first | (rw [hji12] at H;exact H)|(simp only [hji12] at H ⊢;exact H)
     have hji12_:(if (wrap64 ((a0.size:Int)+1))<x3_8 then (wrap64 ((a0.size:Int)+1)) else x3_8)=ji12:=hji12
     by_cases c13:0≤(ji12)
     ·rw [if_pos c13] at H
      have c13b0:=eq_true c13;have c13b1:=decide_eq_true c13;clear c13
      by_cases c14:(ji12:Int).toNat≤17592186044416
      ·rw [if_pos c14] at H
       have c14b0:=eq_true c14;have c14b1:=decide_eq_true c14;clear c14;obtain ⟨y211,hy211⟩:∃ y_:List ByteArray,y_=(List.replicate (ji12:Int).toNat (⟨#[]⟩:ByteArray)):=⟨_,rfl⟩;replace H:(strings_genSplit.l0 kj8 a0 a1 a2 (wrap64 ((ji12) - 1)) y211 0)=some r:=q3y_ hy211 H
       have Ny211:=aM hy211;clear hy211;have H':=aM H;clear H
       go_wp2_with (first | ((with_reducible refine gate_dst (N:=31) rfl ?_);refine Kd.R_make Kd.string _ 9 rfl (N:=31) rfl 52 _ _ rfl ji12 rfl rfl Tryd.underlying52 (.string ⟨#[]⟩) 16 info9 rfl (by decide) (by omega) (⟨#[]⟩:ByteArray) (ok:=fun _=>True) (okp:=fun _=>True) rfl (fun _ hk=>hk) trivial (of_decide_eq_true za_) (Nat.le_trans (Nat.mul_le_mul_right _ (of_decide_eq_true za_:ji12.toNat≤17592186044416)) (by omega)) (Below.refl _ _) (Nat.le_refl _) ?_;intro v212 w15 ho16 hb hg_ hnew_;clear hg_ hnew_;(first | rw [← Ny211.out] at ho16 | (simp only [Int.reduceToNat] at ho16;rw [← Ny211.out] at ho16));have n_:=z (Kd.R_lower ho16 (below_size zb_))<|z1 (below_step zb_ hb);clear HB;obtain ⟨HO213,HB⟩:=n_;clear hb ho16))
       go_loopg [0,10] kj8 (fun kq v0 v10 w' => ∃ (x0_2:ByteArray) (x9_2:List ByteArray) (x10_2:Int),v0 = .string x0_2∧v10 = .int .i64 x10_2∧Aside0 (strings_genSplit.l0 kq x0_2 a1 a2 (wrap64 ((ji12) - 1)) x9_2 x10_2=some r)∧Aside0 (kq≤kj8)∧Aside0 (Kd.R Kd.string 9 w' w.heap.size (fun _=>True) v212 x9_2)∧Aside0 (Below w.heap.size w w'))
       case atStart=>exact ⟨(a0),(y211),(0),zc_,zc_,H',⟨Nat.le_refl _⟩,⟨zr HO213.out⟩,⟨zb_⟩⟩
       case round =>
        clear H';(try clear c13b0);(try clear c13b1);(try clear c14b0);(try clear c14b1);obtain ⟨x0_2,x9_2,x10_2,rfl,rfl,HA,HK2,HO_9,HB⟩:=hrel
        cases gk with
        | zero=>exact absurd HA.out (by simp [strings_genSplit.l0])
        | succ k2 =>
         have H:=HA.out;clear HA
         simp only [strings_genSplit.l0] at H
         by_cases c17:x10_2<(wrap64 ((ji12) - 1))
         ·rw [if_pos c17] at H
          have c17b0:=decide_eq_true c17;clear c17;replace H:=oB.mp H;obtain ⟨t214,A180,H⟩:=H;replace H:(if t214<0 then (if 0≤x10_2 then (if x10_2<(x9_2.length:Int) then (if 0≤(wrap64 (x10_2+1)) then (if (wrap64 (x10_2+1))≤(x9_2.length:Int) then (some ((x9_2.set (x10_2:Int).toNat x0_2).take ((wrap64 (x10_2+1)):Int).toNat)) else (none)) else (none)) else (none)) else (none)) else (if 0≤(wrap64 (t214+a2)) then (if (wrap64 (t214+a2))≤(x0_2.size:Int) then (if 0≤x10_2 then (if x10_2<(x9_2.length:Int) then (if 0≤(wrap64 (t214+(a1.size:Int))) then (if (wrap64 (t214+(a1.size:Int)))≤(x0_2.size:Int) then (strings_genSplit.l0 k2 (x0_2.extract ((wrap64 (t214+(a1.size:Int))):Int).toNat x0_2.size) a1 a2 (wrap64 ((ji12) - 1)) (x9_2.set (x10_2:Int).toNat (x0_2.extract 0 ((wrap64 (t214+a2)):Int).toNat)) (wrap64 (x10_2+1))) else (none)) else (none)) else (none)) else (none)) else (none)) else (none)))=some r:=H;have A18:=aM A180;clear A180
          by_cases c19:t214<0
          ·rw [if_pos c19] at H
           have c19b0:=decide_eq_true c19;clear c19
           by_cases c20:0≤x10_2
           ·rw [if_pos c20] at H
            have c20b0:=decide_eq_true c20;clear c20
            by_cases c21:x10_2<(x9_2.length:Int)
            ·rw [if_pos c21] at H
             have c21b0:=decide_eq_true c21;clear c21;obtain ⟨y215,hy215⟩:∃ y_:List ByteArray,y_=(x9_2.set (x10_2:Int).toNat x0_2):=⟨_,rfl⟩;replace H:(if 0≤(wrap64 (x10_2+1)) then (if (wrap64 (x10_2+1))≤(x9_2.length:Int) then (some (y215.take ((wrap64 (x10_2+1)):Int).toNat)) else (none)) else (none))=some r:=q3y_ hy215 H
             have Ny215:=aM hy215;clear hy215;obtain ⟨ji23,hji23⟩:∃ j_:Int,(wrap64 (x10_2+1))=j_:=⟨_,rfl⟩;replace H:(if 0≤(ji23) then (if (ji23)≤(x9_2.length:Int) then (some (y215.take ((ji23):Int).toNat)) else (none)) else (none))=some r:=by first | (rw [hji23] at H;exact H)|(simp only [hji23] at H ⊢;exact H)
             (try rw [hji23] at A18);have hji23w:(IntKind.i64.wrap (x10_2+1))=ji23:=(i64_w _).trans hji23
             by_cases c24:0≤(ji23)
             ·rw [if_pos c24] at H
              have c24b0:=eq_true c24;have c24b1:=decide_eq_true c24;clear c24
              by_cases c25:(ji23)≤(x9_2.length:Int)
              ·rw [if_pos c25] at H
               have c25b0:=eq_true c25;have c25b1:=decide_eq_true c25;clear c25;obtain ⟨y216,hy216⟩:∃ y_:List ByteArray,y_=(y215.take ((ji23):Int).toNat):=⟨_,rfl⟩;replace H:(some y216)=some r:=q3y_ hy216 H
               have Ny216:=aM hy216;clear hy216;obtain rfl:=Option.some.inj H
               go_wp2_with (first | ((with_reducible refine gate_callee (f:=53) rfl ?_);refine goesL_ (some 39) rfl rfl Tryd.func53 (by kernel_rfl) rfl #[.string x0_2,.string a1] rfl zd_ ?_;(with_reducible refine (strings_Index.calls x0_2 a1 t214 _ A18.out).mono ?_);rintro e w' ⟨rfl,⟨nd,rfl⟩⟩;refine ⟨_,rfl,?_⟩;(try (rw [drewN_self wr];generalize hq_:World.drewN wr _=wr;have n0_:Aside0 (Kd.R Kd.string 9 wr w.heap.size (fun _=>True) v212 x9_2):=⟨by rw [← hq_];exact (zr HO_9.out)⟩;have n1_:Aside0 (Below w.heap.size w wr):=⟨by rw [← hq_];exact zb_⟩;clear HO_9 HB hq_;have HO_9:=n0_;have HB:=n1_;clear n0_ n1_));have p22:0≤(x10_2:Int):=of_decide_eq_true za_;have q22:(x10_2:Int)<((x9_2.length:Int):Int):=of_decide_eq_true za_;obtain ⟨go22,co22,eo22,gb22,gl22,cl22,HG22⟩:=Kd.R_form HO_9.out (by omega);(first | cases eo22 | (injection eo22 with ea_ en_ ec_;(first | subst ea_ | (injection ea_ with ea_;subst ea_));subst ec_;clear en_));have GB22:=aM gb22;have GG22:=aM HG22;clear gb22 gl22 HG22;obtain ⟨hx22_0,hf22_0⟩:=Kd.R_celln (⟨#[]⟩:ByteArray) HO_9.out (x10_2:Int) p22 q22;replace p22:=eq_true p22;replace q22:=eq_true q22;obtain ⟨hy26_,hz26_⟩:=Kd.R_celln (⟨#[]⟩:ByteArray) HO_9.out (x10_2:Int) (of_decide_eq_true za_) (of_decide_eq_true za_);have HP26:=Kd.R_putg HO_9.out (x10_2:Int) x0_2)|((with_reducible refine gate_store (t:=9) (p:=61) rfl ?_);refine store_event (t:=9) (p:=61) (v:=?vo_w27) (w1:=(wr.setCell ⟨go22,(x10_2:Int).toNat,none⟩ (.string x0_2))) ?hg ?ho ?hn ?hr ?_;(case ho=>rfl);(case hg=>rfl);(case hn=>rfl);(case hr=>exact ze_);intro w27 hw;have hg:wr.grownBy w27 (some go22):=(by rw [hw];exact HP26.2);have hp_:Kd.R Kd.string 9 w27 w.heap.size (fun _=>True) (.slice (some ⟨go22,0,none⟩) x9_2.length co22) y215:=(by rw [hw,Ny215.out];exact HP26.1);clear HP26;have n_:=z (hp_)<|z1 ((by rw [hw];exact below_set (HB.out) GB22.out:Below w.heap.size w w27));clear HO_9 HB;obtain ⟨HO_9,HB⟩:=n_;clear hg hw hp_;have q28:((ji23):Int)≤((x9_2.length:Int):Int):=of_decide_eq_true za_;obtain ⟨i028,hi028,_,hsz28,_⟩:=info_parts info9;have hcut28:=cut_to (P:=Tryd.prog) 52 9 .i64 Tryd.underlying52 hi028 (some ⟨go22,0,none⟩) x9_2.length co22 (ji23) (of_decide_eq_true za_) q28 (Kd.R_reads' HO_9.out).2.1;have hr28:=Kd.R_take (m:=((ji23):Int).toNat) HO_9.out (by have e_:=(Kd.R_reads' HO_9.out).1;omega);have hy28:y216.length=((ji23):Int).toNat:=(by have e_:=(Kd.R_reads' HO_9.out).1;rw [Ny216.out,lT];omega);rw [← Ny216.out] at hr28;rw [← hy28] at hr28 hcut28;clear hy28 hi028 hsz28 HO_9;have HO218:=aM hr28;clear hr28;replace q28:=eq_true q28))
               go_ret
               exact ⟨_,by first | rfl | (simp [errW_none,errW_some] <;> rfl)|(simp only [← hji12,← hji23];first | rfl | (simp [errW_none,errW_some] <;> rfl))|(simp [*,errW_none,errW_some] <;> rfl),by refine zr ?_;exact HO218.out,zb_⟩
              ·rw [if_neg c25] at H
               exact q3n_ H
             ·rw [if_neg c24] at H
              exact q3n_ H
            ·rw [if_neg c21] at H
             exact q3n_ H
           ·rw [if_neg c20] at H
            exact q3n_ H
          ·rw [if_neg c19] at H
           have c19b0:=decide_eq_false c19;clear c19;obtain ⟨ji29,hji29⟩:∃ j_:Int,(wrap64 (t214+a2))=j_:=⟨_,rfl⟩;replace H:(if 0≤(ji29) then (if (ji29)≤(x0_2.size:Int) then (if 0≤x10_2 then (if x10_2<(x9_2.length:Int) then (if 0≤(wrap64 (t214+(a1.size:Int))) then (if (wrap64 (t214+(a1.size:Int)))≤(x0_2.size:Int) then (strings_genSplit.l0 k2 (x0_2.extract ((wrap64 (t214+(a1.size:Int))):Int).toNat x0_2.size) a1 a2 (wrap64 ((ji12) - 1)) (x9_2.set (x10_2:Int).toNat (x0_2.extract 0 ((ji29):Int).toNat)) (wrap64 (x10_2+1))) else (none)) else (none)) else (none)) else (none)) else (none)) else (none))=some r:=by first | (rw [hji29] at H;exact H)|(simp only [hji29] at H ⊢;exact H)
           (try rw [hji29] at A18);have hji29w:(IntKind.i64.wrap (t214+a2))=ji29:=(i64_w _).trans hji29
           by_cases c30:0≤(ji29)
           ·rw [if_pos c30] at H
            have c30b0:=eq_true c30;have c30b1:=decide_eq_true c30;clear c30
            by_cases c31:(ji29)≤(x0_2.size:Int)
            ·rw [if_pos c31] at H
             have c31b0:=eq_true c31;have c31b1:=decide_eq_true c31;clear c31
             by_cases c32:0≤x10_2
             ·rw [if_pos c32] at H
              have c32b0:=decide_eq_true c32;clear c32
              by_cases c33:x10_2<(x9_2.length:Int)
              ·rw [if_pos c33] at H
               have c33b0:=decide_eq_true c33;clear c33;obtain ⟨y219,hy219⟩:∃ y_:List ByteArray,y_=(x9_2.set (x10_2:Int).toNat (x0_2.extract 0 ((ji29):Int).toNat)):=⟨_,rfl⟩;replace H:(if 0≤(wrap64 (t214+(a1.size:Int))) then (if (wrap64 (t214+(a1.size:Int)))≤(x0_2.size:Int) then (strings_genSplit.l0 k2 (x0_2.extract ((wrap64 (t214+(a1.size:Int))):Int).toNat x0_2.size) a1 a2 (wrap64 ((ji12) - 1)) y219 (wrap64 (x10_2+1))) else (none)) else (none))=some r:=q3y_ hy219 H
               have Ny219:=aM hy219;clear hy219;obtain ⟨ji35,hji35⟩:∃ j_:Int,(wrap64 (t214+(a1.size:Int)))=j_:=⟨_,rfl⟩;replace H:(if 0≤(ji35) then (if (ji35)≤(x0_2.size:Int) then (strings_genSplit.l0 k2 (x0_2.extract ((ji35):Int).toNat x0_2.size) a1 a2 (wrap64 ((ji12) - 1)) y219 (wrap64 (x10_2+1))) else (none)) else (none))=some r:=by first | (rw [hji35] at H;exact H)|(simp only [hji35] at H ⊢;exact H)
               (try rw [hji35] at A18);have hji35w:(IntKind.i64.wrap (t214+(a1.size:Int)))=ji35:=(i64_w _).trans hji35
               by_cases c36:0≤(ji35)
               ·rw [if_pos c36] at H
                have c36b0:=eq_true c36;have c36b1:=decide_eq_true c36;clear c36
                by_cases c37:(ji35)≤(x0_2.size:Int)
                ·rw [if_pos c37] at H
                 have c37b0:=eq_true c37;have c37b1:=decide_eq_true c37;clear c37;have H':=aM H;clear H
                 go_wp2_with (first | ((with_reducible refine gate_callee (f:=53) rfl ?_);refine goesL_ (some 39) rfl rfl Tryd.func53 (by kernel_rfl) rfl #[.string x0_2,.string a1] rfl zd_ ?_;(with_reducible refine (strings_Index.calls x0_2 a1 t214 _ A18.out).mono ?_);rintro e w' ⟨rfl,⟨nd,rfl⟩⟩;refine ⟨_,rfl,?_⟩;(try (rw [drewN_self wr];generalize hq_:World.drewN wr _=wr;have n0_:Aside0 (Kd.R Kd.string 9 wr w.heap.size (fun _=>True) v212 x9_2):=⟨by rw [← hq_];exact (zr HO_9.out)⟩;have n1_:Aside0 (Below w.heap.size w wr):=⟨by rw [← hq_];exact zb_⟩;clear HO_9 HB hq_;have HO_9:=n0_;have HB:=n1_;clear n0_ n1_));have p34:0≤(x10_2:Int):=of_decide_eq_true za_;have q34:(x10_2:Int)<((x9_2.length:Int):Int):=of_decide_eq_true za_;obtain ⟨go34,co34,eo34,gb34,gl34,cl34,HG34⟩:=Kd.R_form HO_9.out (by omega);(first | cases eo34 | (injection eo34 with ea_ en_ ec_;(first | subst ea_ | (injection ea_ with ea_;subst ea_));subst ec_;clear en_));have GB34:=aM gb34;have GG34:=aM HG34;clear gb34 gl34 HG34;obtain ⟨hx34_0,hf34_0⟩:=Kd.R_celln (⟨#[]⟩:ByteArray) HO_9.out (x10_2:Int) p34 q34;replace p34:=eq_true p34;replace q34:=eq_true q34;obtain ⟨hy38_,hz38_⟩:=Kd.R_celln (⟨#[]⟩:ByteArray) HO_9.out (x10_2:Int) (of_decide_eq_true za_) (of_decide_eq_true za_);have HP38:=Kd.R_putg HO_9.out (x10_2:Int) (x0_2.extract 0 ((ji29):Int).toNat))|((with_reducible refine gate_store (t:=9) (p:=49) rfl ?_);refine store_event (t:=9) (p:=49) (v:=?vo_w39) (w1:=(wr.setCell ⟨go34,(x10_2:Int).toNat,none⟩ (.string (x0_2.extract 0 ((ji29):Int).toNat)))) ?hg ?ho ?hn ?hr ?_;(case ho=>rfl);(case hg=>rfl);(case hn=>rfl);(case hr=>exact ze_);intro w39 hw;have hg:wr.grownBy w39 (some go34):=(by rw [hw];exact HP38.2);have hp_:Kd.R Kd.string 9 w39 w.heap.size (fun _=>True) (.slice (some ⟨go34,0,none⟩) x9_2.length co34) y219:=(by rw [hw,Ny219.out];exact HP38.1);clear HP38;have n_:=z (hp_)<|z1 ((by rw [hw];exact below_set (HB.out) GB34.out:Below w.heap.size w w39));clear HO_9 HB;obtain ⟨HO_9,HB⟩:=n_;clear hg hw hp_))
                 go_roundg k2
                 case measure=>have:=HJ8.out;have:=HK2.out;omega
                 case rel=>exact ⟨(x0_2.extract ((ji35):Int).toNat x0_2.size),(y219),(wrap64 (x10_2+1)),(by first | rfl | (simp;done)|(simp only [← hji35] <;> (first | rfl | simp))|(simp [*];done)),zc_,H',⟨by have:=HJ8.out;have:=HK2.out;omega⟩,⟨zr HO_9.out⟩,⟨zb_⟩⟩
                ·rw [if_neg c37] at H
                 exact q3n_ H
               ·rw [if_neg c36] at H
                exact q3n_ H
              ·rw [if_neg c33] at H
               exact q3n_ H
             ·rw [if_neg c32] at H
              exact q3n_ H
            ·rw [if_neg c31] at H
             exact q3n_ H
           ·rw [if_neg c30] at H
            exact q3n_ H
         ·rw [if_neg c17] at H
          have c17b0:=decide_eq_false c17;clear c17
          by_cases c40:0≤x10_2
          ·rw [if_pos c40] at H
           have c40b0:=decide_eq_true c40;clear c40
           by_cases c41:x10_2<(x9_2.length:Int)
           ·rw [if_pos c41] at H
            have c41b0:=decide_eq_true c41;clear c41;obtain ⟨y220,hy220⟩:∃ y_:List ByteArray,y_=(x9_2.set (x10_2:Int).toNat x0_2):=⟨_,rfl⟩;replace H:(if 0≤(wrap64 (x10_2+1)) then (if (wrap64 (x10_2+1))≤(x9_2.length:Int) then (some (y220.take ((wrap64 (x10_2+1)):Int).toNat)) else (none)) else (none))=some r:=q3y_ hy220 H
            have Ny220:=aM hy220;clear hy220;obtain ⟨ji43,hji43⟩:∃ j_:Int,(wrap64 (x10_2+1))=j_:=⟨_,rfl⟩;replace H:(if 0≤(ji43) then (if (ji43)≤(x9_2.length:Int) then (some (y220.take ((ji43):Int).toNat)) else (none)) else (none))=some r:=by first | (rw [hji43] at H;exact H)|(simp only [hji43] at H ⊢;exact H)
            have hji43w:(IntKind.i64.wrap (x10_2+1))=ji43:=(i64_w _).trans hji43
            by_cases c44:0≤(ji43)
            ·rw [if_pos c44] at H
             have c44b0:=eq_true c44;have c44b1:=decide_eq_true c44;clear c44
             by_cases c45:(ji43)≤(x9_2.length:Int)
             ·rw [if_pos c45] at H
              have c45b0:=eq_true c45;have c45b1:=decide_eq_true c45;clear c45;obtain ⟨y221,hy221⟩:∃ y_:List ByteArray,y_=(y220.take ((ji43):Int).toNat):=⟨_,rfl⟩;replace H:(some y221)=some r:=q3y_ hy221 H
              have Ny221:=aM hy221;clear hy221;obtain rfl:=Option.some.inj H;have p42:0≤(x10_2:Int):=of_decide_eq_true za_;have q42:(x10_2:Int)<((x9_2.length:Int):Int):=of_decide_eq_true za_;obtain ⟨go42,co42,eo42,gb42,gl42,cl42,HG42⟩:=Kd.R_form HO_9.out (by omega);(first | cases eo42 | (injection eo42 with ea_ en_ ec_;(first | subst ea_ | (injection ea_ with ea_;subst ea_));subst ec_;clear en_));have GB42:=aM gb42;have GG42:=aM HG42;clear gb42 gl42 HG42;obtain ⟨hx42_0,hf42_0⟩:=Kd.R_celln (⟨#[]⟩:ByteArray) HO_9.out (x10_2:Int) p42 q42;replace p42:=eq_true p42;replace q42:=eq_true q42;have HP46:=Kd.R_putg HO_9.out (x10_2:Int) x0_2
              go_wp2_with (first | ((with_reducible refine gate_store (t:=9) (p:=61) rfl ?_);refine store_event (t:=9) (p:=61) (v:=?vo_w47) (w1:=(wr.setCell ⟨go42,(x10_2:Int).toNat,none⟩ (.string x0_2))) ?hg ?ho ?hn ?hr ?_;(case ho=>rfl);(case hg=>rfl);(case hn=>rfl);(case hr=>exact ze_);intro w47 hw;have hg:wr.grownBy w47 (some go42):=(by rw [hw];exact HP46.2);have hp_:Kd.R Kd.string 9 w47 w.heap.size (fun _=>True) (.slice (some ⟨go42,0,none⟩) x9_2.length co42) y220:=(by rw [hw,Ny220.out];exact HP46.1);clear HP46;have n_:=z (hp_)<|z1 ((by rw [hw];exact below_set (HB.out) GB42.out:Below w.heap.size w w47));clear HO_9 HB;obtain ⟨HO_9,HB⟩:=n_;clear hg hw hp_;have q48:((ji43):Int)≤((x9_2.length:Int):Int):=of_decide_eq_true za_;obtain ⟨i048,hi048,_,hsz48,_⟩:=info_parts info9;have hcut48:=cut_to (P:=Tryd.prog) 52 9 .i64 Tryd.underlying52 hi048 (some ⟨go42,0,none⟩) x9_2.length co42 (ji43) (of_decide_eq_true za_) q48 (Kd.R_reads' HO_9.out).2.1;have hr48:=Kd.R_take (m:=((ji43):Int).toNat) HO_9.out (by have e_:=(Kd.R_reads' HO_9.out).1;omega);have hy48:y221.length=((ji43):Int).toNat:=(by have e_:=(Kd.R_reads' HO_9.out).1;rw [Ny221.out,lT];omega);rw [← Ny221.out] at hr48;rw [← hy48] at hr48 hcut48;clear hy48 hi048 hsz48 HO_9;have HO223:=aM hr48;clear hr48;replace q48:=eq_true q48))
              go_ret
              exact ⟨_,by first | rfl | (simp [errW_none,errW_some] <;> rfl)|(simp only [← hji12,← hji43];first | rfl | (simp [errW_none,errW_some] <;> rfl))|(simp [*,errW_none,errW_some] <;> rfl),by refine zr ?_;exact HO223.out,zb_⟩
             ·rw [if_neg c45] at H
              exact q3n_ H
            ·rw [if_neg c44] at H
             exact q3n_ H
           ·rw [if_neg c41] at H
            exact q3n_ H
          ·rw [if_neg c40] at H
           exact q3n_ H
      ·rw [if_neg c14] at H
       exact q3n_ H
     ·rw [if_neg c13] at H
      exact q3n_ H
def strings_Split.f (k:Nat) (a0:ByteArray) (a1:ByteArray):Option (List ByteArray):=(strings_genSplit.f k a0 a1 0 (-1)).bind fun t224=>(some t224)
theorem strings_Split.mono:∀ a0 a1 k,LeO (strings_Split.f k a0 a1) (strings_Split.f (k+1) a0 a1):=by
 intro a0 a1 k
 unfold strings_Split.f
 repeat' first
   | (with_reducible exact strings_genSplit.mono _ _ _ _ _)
   | (with_reducible exact LeO.refl _)
   | (with_reducible exact LeO.none _)
   | (with_reducible refine LeO.ite ?_ ?_)
   | (with_reducible refine LeO.bind ?_ (fun _=>?_))
   | exact strings_genSplit.mono _ _ _ _ _
   | exact LeO.none _
   | refine LeO.ite ?_ ?_
   | refine LeO.bind ?_ (fun _=>?_)
theorem strings_Split.calls (k:Nat) (a0:ByteArray) (a1:ByteArray) (r:List ByteArray) (w:World) (h:strings_Split.f k a0 a1=some r) :
  Calls Tryd.prog 32 #[.string a0,.string a1] w fun e w' => ∃ v0_:Value,e = .returned (v0_)∧Kd.R Kd.string 9 w' w.heap.size (fun _=>True) v0_ r∧Below w.heap.size w w':=by
 have HB:=aM (Below.refl w.heap.size w)
 have H:((strings_genSplit.f k a0 a1 0 (-1)).bind fun t224=>(some t224))=some r:=h
 clear h
 replace H:=oB.mp H
 obtain ⟨t224,A30,H⟩:=H
 replace H:(some t224)=some r:=H
 have A3:=aM A30
 clear A30
 obtain rfl:=Option.some.inj H
 go_enter Tryd.func32,Tryd.ntmps32
 go_wp2_with (first | ((with_reducible refine gate_callee (f:=45) rfl ?_);refine goesL_ (some 7) rfl rfl Tryd.func45 (by kernel_rfl) rfl #[.string a0,.string a1,.int .i64 0,.int .i64 (-1)] rfl zd_ ?_;(with_reducible refine (strings_genSplit.calls k a0 a1 0 (-1) t224 _ A3.out).mono ?_);rintro e w4 ⟨v225,rfl,ho0,hb⟩;refine ⟨_,rfl,?_⟩;have n_:=z (Kd.R_lower ho0 (below_size zb_))<|z1 (below_step zb_ hb);clear HB;obtain ⟨HO226,HB⟩:=n_;clear hb;(try clear ho0)))
 go_ret
 exact ⟨_,zf_,by refine zr ?_;exact HO226.out,zb_⟩
def stringslite_HasSuffix.f (a0:ByteArray) (a1:ByteArray):Option (Bool):=if (a0.size:Int)≥(a1.size:Int) then (if 0≤(wrap64 ((a0.size:Int) - (a1.size:Int))) then (if (wrap64 ((a0.size:Int) - (a1.size:Int)))≤(a0.size:Int) then (some ((a0.extract ((wrap64 ((a0.size:Int) - (a1.size:Int))):Int).toNat a0.size).toList == a1.toList)) else (none)) else (none)) else (some false)
theorem stringslite_HasSuffix.calls (a0:ByteArray) (a1:ByteArray) (r:Bool) (w:World) (h:stringslite_HasSuffix.f a0 a1=some r) :
  Calls Tryd.prog 50 #[.string a0,.string a1] w fun e w'=>e = .returned (.bool r)∧Drawn0 w w':=by
 have H:(if (a0.size:Int)≥(a1.size:Int) then (if 0≤(wrap64 ((a0.size:Int) - (a1.size:Int))) then (if (wrap64 ((a0.size:Int) - (a1.size:Int)))≤(a0.size:Int) then (some ((a0.extract ((wrap64 ((a0.size:Int) - (a1.size:Int))):Int).toNat a0.size).toList == a1.toList)) else (none)) else (none)) else (some false))=some r:=h
 clear h
 by_cases c3:(a0.size:Int)≥(a1.size:Int)
 ·rw [if_pos c3] at H
  have c3b0:decide ((a1.size:Int)≤(a0.size:Int))=true:=decide_eq_true c3;have c3b1:decide (a1.size≤a0.size)=true:=decide_eq_true (Int.ofNat_le.mp c3);clear c3;obtain ⟨ji4,hji4⟩:∃ j_:Int,(wrap64 ((a0.size:Int) - (a1.size:Int)))=j_:=⟨_,rfl⟩;replace H:(if 0≤(ji4) then (if (ji4)≤(a0.size:Int) then (some ((a0.extract ((ji4):Int).toNat a0.size).toList == a1.toList)) else (none)) else (none))=some r:=by first | (rw [hji4] at H;exact H)|(simp only [hji4] at H ⊢;exact H)
  have hji4w:(IntKind.i64.wrap ((a0.size:Int) - (a1.size:Int)))=ji4:=(i64_w _).trans hji4
  by_cases c5:0≤(ji4)
  ·rw [if_pos c5] at H
   have c5b0:=eq_true c5;have c5b1:=decide_eq_true c5;clear c5
   by_cases c6:(ji4)≤(a0.size:Int)
   ·rw [if_pos c6] at H
    have c6b0:=eq_true c6;have c6b1:=decide_eq_true c6;clear c6;obtain rfl:=Option.some.inj H
    go_enter Tryd.func50,Tryd.ntmps50
    go_wp2
    go_ret
    exact ⟨by first | rfl | (simp;done)|(simp only [← hji4] <;> (first | rfl | simp))|(simp [*];done),zg_⟩
   ·rw [if_neg c6] at H
    exact q3n_ H
  ·rw [if_neg c5] at H
   exact q3n_ H
 ·rw [if_neg c3] at H
  have c3b0:decide ((a1.size:Int)≤(a0.size:Int))=false:=decide_eq_false c3;have c3b1:decide (a1.size≤a0.size)=false:=decide_eq_false (fun h=>c3 (Int.ofNat_le.mpr h));clear c3;obtain rfl:=Option.some.inj H
  go_enter Tryd.func50,Tryd.ntmps50
  go_wp2
  go_ret
  exact ⟨zc_,zg_⟩
def strings_HasSuffix.f (a0:ByteArray) (a1:ByteArray):Option (Bool):=(stringslite_HasSuffix.f a0 a1).bind fun t227=>(some t227)
theorem strings_HasSuffix.calls (a0:ByteArray) (a1:ByteArray) (r:Bool) (w:World) (h:strings_HasSuffix.f a0 a1=some r) :
  Calls Tryd.prog 44 #[.string a0,.string a1] w fun e w'=>e = .returned (.bool r)∧Drawn0 w w':=by
 have H:((stringslite_HasSuffix.f a0 a1).bind fun t227=>(some t227))=some r:=h
 clear h
 replace H:=oB.mp H
 obtain ⟨t227,A30,H⟩:=H
 replace H:(some t227)=some r:=H
 have A3:=aM A30
 clear A30
 obtain rfl:=Option.some.inj H
 go_enter Tryd.func44,Tryd.ntmps44
 go_wp2_with (first | ((with_reducible refine gate_callee (f:=50) rfl ?_);refine goesL_ (some 7) rfl rfl Tryd.func50 (by kernel_rfl) rfl #[.string a0,.string a1] rfl zd_ ?_;(with_reducible refine (stringslite_HasSuffix.calls a0 a1 t227 _ A3.out).mono ?_);rintro e w' ⟨rfl,⟨nd,rfl⟩⟩;refine ⟨_,rfl,?_⟩))
 go_ret
 exact ⟨zc_,zg_⟩
def impl_linesOf.f (k:Nat) (a0:ByteArray):Option (List ByteArray×Bool):=if a0.toList=([]:List UInt8) then (some (([]:List ByteArray),true)) else ((strings_HasSuffix.f a0 (⟨#[10]⟩:ByteArray)).bind fun t228=>(if t228=true then (if 0≤(wrap64 ((a0.size:Int) - 1)) then (if (wrap64 ((a0.size:Int) - 1))≤(a0.size:Int) then ((strings_Split.f k (a0.extract 0 ((wrap64 ((a0.size:Int) - 1)):Int).toNat) (⟨#[10]⟩:ByteArray)).bind fun t229=>(some (t229,true))) else (none)) else (none)) else (some (([]:List ByteArray),false))))
theorem impl_linesOf.mono:∀ a0 k,LeO (impl_linesOf.f k a0) (impl_linesOf.f (k+1) a0):=by
 intro a0 k
 unfold impl_linesOf.f
 repeat' first
   | (with_reducible exact strings_Split.mono _ _ _)
   | (with_reducible exact LeO.refl _)
   | (with_reducible exact LeO.none _)
   | (with_reducible refine LeO.ite ?_ ?_)
   | (with_reducible refine LeO.bind ?_ (fun _=>?_))
   | exact strings_Split.mono _ _ _
   | exact LeO.none _
   | refine LeO.ite ?_ ?_
   | refine LeO.bind ?_ (fun _=>?_)
theorem impl_linesOf.calls (k:Nat) (a0:ByteArray) (r1:List ByteArray) (r2:Bool) (w:World) (h:impl_linesOf.f k a0=some (r1,r2)) :
  Calls Tryd.prog 29 #[.string a0] w fun e w' => ∃ v0_:Value,e = .returned (.tuple #[v0_,.bool r2])∧Kd.R Kd.string 9 w' w.heap.size (fun _=>True) v0_ r1∧Below w.heap.size w w':=by
 have HB:=aM (Below.refl w.heap.size w)
 have H:(if a0.toList=([]:List UInt8) then (some (([]:List ByteArray),true)) else ((strings_HasSuffix.f a0 (⟨#[10]⟩:ByteArray)).bind fun t228=>(if t228=true then (if 0≤(wrap64 ((a0.size:Int) - 1)) then (if (wrap64 ((a0.size:Int) - 1))≤(a0.size:Int) then ((strings_Split.f k (a0.extract 0 ((wrap64 ((a0.size:Int) - 1)):Int).toNat) (⟨#[10]⟩:ByteArray)).bind fun t229=>(some (t229,true))) else (none)) else (none)) else (some (([]:List ByteArray),false)))))=some (r1,r2):=h
 clear h
 by_cases c2:a0.toList=([]:List UInt8)
 ·rw [if_pos c2] at H
  have c2b0:=beq_iff_eq.mpr c2;have c2b1:=bne_eq_false_iff_eq.mpr c2;clear c2
  simp only [Option.some.injEq,Prod.mk.injEq] at H
  obtain ⟨rfl,rfl⟩:=H
  go_enter Tryd.func29,Tryd.ntmps29
  go_wp2
  go_ret2
  exact ⟨_,zf_,zi_,zb_⟩
 ·rw [if_neg c2] at H
  have c2b0:=beq_eq_false_iff_ne.mpr c2;have c2b1:=bne_iff_ne.mpr c2;replace H:=oB.mp H;obtain ⟨t228,A30,H⟩:=H;replace H:(if t228=true then (if 0≤(wrap64 ((a0.size:Int) - 1)) then (if (wrap64 ((a0.size:Int) - 1))≤(a0.size:Int) then ((strings_Split.f k (a0.extract 0 ((wrap64 ((a0.size:Int) - 1)):Int).toNat) (⟨#[10]⟩:ByteArray)).bind fun t229=>(some (t229,true))) else (none)) else (none)) else (some (([]:List ByteArray),false)))=some (r1,r2):=H;have A3:=aM A30;clear A30
  by_cases c4:t228=true
  ·subst c4
   have H1:(if 0≤(wrap64 ((a0.size:Int) - 1)) then (if (wrap64 ((a0.size:Int) - 1))≤(a0.size:Int) then ((strings_Split.f k (a0.extract 0 ((wrap64 ((a0.size:Int) - 1)):Int).toNat) (⟨#[10]⟩:ByteArray)).bind fun t229=>(some (t229,true))) else (none)) else (none))=some (r1,r2):=by rw [if_pos rfl] at H;exact H
   clear H;have H:=H1;clear H1;obtain ⟨ji5,hji5⟩:∃ j_:Int,(wrap64 ((a0.size:Int) - 1))=j_:=⟨_,rfl⟩;replace H:(if 0≤(ji5) then (if (ji5)≤(a0.size:Int) then ((strings_Split.f k (a0.extract 0 ((ji5):Int).toNat) (⟨#[10]⟩:ByteArray)).bind fun t229=>(some (t229,true))) else (none)) else (none))=some (r1,r2):=by first | (rw [hji5] at H;exact H)|(simp only [hji5] at H ⊢;exact H)
   (try rw [hji5] at A3);have hji5w:(IntKind.i64.wrap ((a0.size:Int) - 1))=ji5:=(i64_w _).trans hji5
   by_cases c6:0≤(ji5)
   ·rw [if_pos c6] at H
    have c6b0:=eq_true c6;have c6b1:=decide_eq_true c6;clear c6
    by_cases c7:(ji5)≤(a0.size:Int)
    ·rw [if_pos c7] at H
     have c7b0:=eq_true c7;have c7b1:=decide_eq_true c7;clear c7;replace H:=oB.mp H;obtain ⟨t229,A80,H⟩:=H;replace H:(some (t229,true))=some (r1,r2):=H;have A8:=aM A80;clear A80
     simp only [Option.some.injEq,Prod.mk.injEq] at H
     obtain ⟨rfl,rfl⟩:=H
     go_enter Tryd.func29,Tryd.ntmps29
     go_wp2_with (first | ((with_reducible refine gate_callee (f:=44) rfl ?_);refine goesL_ (some 7) rfl rfl Tryd.func44 (by kernel_rfl) rfl #[.string a0,.string (⟨#[10]⟩:ByteArray)] rfl zd_ ?_;(with_reducible refine (strings_HasSuffix.calls a0 (⟨#[10]⟩:ByteArray) true _ A3.out).mono ?_);rintro e w' ⟨rfl,⟨nd,rfl⟩⟩;refine ⟨_,rfl,?_⟩)|((with_reducible refine gate_callee (f:=32) rfl ?_);refine goesL_ (some 14) rfl rfl Tryd.func32 (by kernel_rfl) rfl #[.string (a0.extract 0 ((ji5):Int).toNat),.string (⟨#[10]⟩:ByteArray)] rfl (by (try simp only [mT,mC,mN]);first | done | (simp only [hji5];rfl) | rfl | (simp only [lD,lT];rfl)) ?_;(with_reducible refine (strings_Split.calls k (a0.extract 0 ((ji5):Int).toNat) (⟨#[10]⟩:ByteArray) t229 _ A8.out).mono ?_);rintro e w9 ⟨v230,rfl,ho0,hb⟩;refine ⟨_,rfl,?_⟩;have n_:=z (Kd.R_lower ho0 (below_size zb_))<|z1 (below_step zb_ hb);clear HB;obtain ⟨HO231,HB⟩:=n_;clear hb;(try clear ho0)))
     go_ret2
     exact ⟨_,by first | rfl | (simp [errW_none,errW_some] <;> rfl)|(simp only [← hji5];first | rfl | (simp [errW_none,errW_some] <;> rfl))|(simp [*,errW_none,errW_some] <;> rfl),by refine zr ?_;exact HO231.out,zb_⟩
    ·rw [if_neg c7] at H
     exact q3n_ H
   ·rw [if_neg c6] at H
    exact q3n_ H
  ·replace c4:=Bool.eq_false_iff.mpr c4
   subst c4;have H1:(some (([]:List ByteArray),false))=some (r1,r2):=by rw [if_neg (show ¬ (false=true) by decide)] at H;exact H
   clear H;have H:=H1;clear H1
   simp only [Option.some.injEq,Prod.mk.injEq] at H
   obtain ⟨rfl,rfl⟩:=H
   go_enter Tryd.func29,Tryd.ntmps29
   go_wp2_with (first | ((with_reducible refine gate_callee (f:=44) rfl ?_);refine goesL_ (some 7) rfl rfl Tryd.func44 (by kernel_rfl) rfl #[.string a0,.string (⟨#[10]⟩:ByteArray)] rfl zd_ ?_;(with_reducible refine (strings_HasSuffix.calls a0 (⟨#[10]⟩:ByteArray) false _ A3.out).mono ?_);rintro e w' ⟨rfl,⟨nd,rfl⟩⟩;refine ⟨_,rfl,?_⟩))
   go_ret2
   exact ⟨_,zf_,zi_,zb_⟩
mutual
def impl_decimal.j0:Nat→ByteArray→Bool→Option (Int×Bool)
 | 0,_,_=>none
 | k+1,x0,x22=>if x22=true then (some (0,false)) else (impl_decimal.l0 k x0 0 0)
def impl_decimal.l0:Nat→ByteArray→Int→Int→Option (Int×Bool)
 | 0,_,_,_=>none
 | k+1,x0,x4,x5=>if x5<(x0.size:Int) then (if 0≤x5 then (if (bt x0 x5)<48 then (some (0,false)) else (if (bt x0 x5)>57 then (some (0,false)) else (impl_decimal.l0 k x0 (wrap64 ((wrap64 (10 * x4))+(((bt x0 x5) - 48) % 256))) (wrap64 (x5+1))))) else (none)) else (some (x4,true))
end
def impl_decimal.f (k:Nat) (a0:ByteArray):Option (Int×Bool):=if a0.toList=([]:List UInt8) then (impl_decimal.j0 k a0 true) else (if (a0.size:Int)>18 then (impl_decimal.j0 k a0 true) else (if 0<(a0.size:Int) then (if (bt a0 0)=48 then (impl_decimal.j0 k a0 (decide ((a0.size:Int)>1))) else (impl_decimal.j0 k a0 false)) else (none)))
theorem impl_decimal.mono_l:∀ k,(∀ y0 y1,LeO (impl_decimal.j0 k y0 y1) (impl_decimal.j0 (k+1) y0 y1))∧(∀ y0 y1 y2,LeO (impl_decimal.l0 k y0 y1 y2) (impl_decimal.l0 (k+1) y0 y1 y2))
 | 0=>⟨fun _ _ r h=>by simp [impl_decimal.j0] at h,fun _ _ _ r h=>by simp [impl_decimal.l0] at h⟩
 | k+1=>by
  obtain ⟨ih0,ih1⟩:=impl_decimal.mono_l k
  refine ⟨?_,?_⟩
  ·intro y0 y1
   unfold impl_decimal.j0
   repeat' first
   | (with_reducible exact ih0 _ _)
   | (with_reducible exact ih1 _ _ _)
   | (with_reducible exact LeO.refl _)
   | (with_reducible exact LeO.none _)
   | (with_reducible refine LeO.ite ?_ ?_)
   | (with_reducible refine LeO.bind ?_ (fun _=>?_))
   | exact ih0 _ _
   | exact ih1 _ _ _
   | exact LeO.none _
   | refine LeO.ite ?_ ?_
   | refine LeO.bind ?_ (fun _=>?_)
  ·intro y0 y1 y2
   unfold impl_decimal.l0
   repeat' first
   | (with_reducible exact ih0 _ _)
   | (with_reducible exact ih1 _ _ _)
   | (with_reducible exact LeO.refl _)
   | (with_reducible exact LeO.none _)
   | (with_reducible refine LeO.ite ?_ ?_)
   | (with_reducible refine LeO.bind ?_ (fun _=>?_))
   | exact ih0 _ _
   | exact ih1 _ _ _
   | exact LeO.none _
   | refine LeO.ite ?_ ?_
   | refine LeO.bind ?_ (fun _=>?_)
theorem impl_decimal.mono:∀ a0 k,LeO (impl_decimal.f k a0) (impl_decimal.f (k+1) a0):=by
 intro a0 k
 obtain ⟨ih0,ih1⟩:=impl_decimal.mono_l k
 unfold impl_decimal.f
 repeat' first
   | (with_reducible exact ih0 _ _)
   | (with_reducible exact ih1 _ _ _)
   | (with_reducible exact LeO.refl _)
   | (with_reducible exact LeO.none _)
   | (with_reducible refine LeO.ite ?_ ?_)
   | (with_reducible refine LeO.bind ?_ (fun _=>?_))
   | exact ih0 _ _
   | exact ih1 _ _ _
   | exact LeO.none _
   | refine LeO.ite ?_ ?_
   | refine LeO.bind ?_ (fun _=>?_)
theorem impl_decimal.calls (k:Nat) (a0:ByteArray) (r1:Int) (r2:Bool) (w:World) (h:impl_decimal.f k a0=some (r1,r2)) :
  Calls Tryd.prog 30 #[.string a0] w fun e w'=>e = .returned (.tuple #[.int .i64 r1,.bool r2])∧Drawn0 w w':=by
 have H:(if a0.toList=([]:List UInt8) then (impl_decimal.j0 k a0 true) else (if (a0.size:Int)>18 then (impl_decimal.j0 k a0 true) else (if 0<(a0.size:Int) then (if (bt a0 0)=48 then (impl_decimal.j0 k a0 (decide ((a0.size:Int)>1))) else (impl_decimal.j0 k a0 false)) else (none))))=some (r1,r2):=h
 clear h
 have HC2:=aM H
 clear H
 go_enter Tryd.func30,Tryd.ntmps30
 go_upto_region 1 with (fail)
 go_cut [22] (fun v22 wc => ∃ (kq:Nat) (x22_1:Bool),v22 = .bool x22_1∧Aside0 (impl_decimal.j0 kq a0 x22_1=some (r1,r2))∧Aside0 (kq≤k)∧Drawn0 w wc)
 case first =>
  have H:=HC2.out;clear HC2
  by_cases c3:a0.toList=([]:List UInt8)
  ·rw [if_pos c3] at H
   have c3b0:=beq_iff_eq.mpr c3;have c3b1:=bne_eq_false_iff_eq.mpr c3;clear c3;(first | rw [c3b0]|(simp only [i64_w,i32_w];rw [c3b0]) | skip);have H':=aM H;clear H
   go_wp2
   go_meet
   case rel=>exact ⟨_,(true),zc_,H',⟨zbc_⟩,zg_⟩
  ·rw [if_neg c3] at H
   have c3b0:=beq_eq_false_iff_ne.mpr c3;have c3b1:=bne_iff_ne.mpr c3;(first | rw [c3b0]|(simp only [i64_w,i32_w];rw [c3b0]) | skip)
   by_cases c4:(a0.size:Int)>18
   ·rw [if_pos c4] at H
    have c4b0:decide (18<(a0.size:Int))=true:=decide_eq_true c4;have c4b1:decide (18<a0.size)=true:=decide_eq_true (by omega);clear c4;have H':=aM H;clear H
    go_wp2
    go_meet
    case rel=>exact ⟨_,(true),zc_,H',⟨zbc_⟩,zg_⟩
   ·rw [if_neg c4] at H
    have c4b0:decide (18<(a0.size:Int))=false:=decide_eq_false c4;have c4b1:decide (18<a0.size)=false:=decide_eq_false (by omega);clear c4
    by_cases c5:0<(a0.size:Int)
    ·rw [if_pos c5] at H
     have c5b0:=decide_eq_true c5;have c5b1:decide (0<a0.size)=true:=decide_eq_true (by omega);clear c5
     by_cases c7:(bt a0 0)=48
     ·rw [if_pos c7] at H
      have c7b0:=beq_iff_eq.mpr c7;have c7b1:=bne_eq_false_iff_eq.mpr c7;clear c7;have H':=aM H;clear H;have p6:0≤(0:Int):=(by omega);have q6:0<a0.size:=(by have:(0:Int)<(a0.size:Int):=of_decide_eq_true za_;omega);have hx6:∀ h:0<a0.size,((a0[0]'h).toNat:Int)=bt a0 0:=bt_at a0 0;clear p6;have qi6:(0<(a0.size:Int))=True:=eq_true (of_decide_eq_true za_);replace q6:=eq_true q6
      go_wp2
      go_meet
      case rel=>exact ⟨_,(decide ((a0.size:Int)>1)),zc_,H',⟨zbc_⟩,zg_⟩
     ·rw [if_neg c7] at H
      have c7b0:=beq_eq_false_iff_ne.mpr c7;have c7b1:=bne_iff_ne.mpr c7;have H':=aM H;clear H;have p6:0≤(0:Int):=(by omega);have q6:0<a0.size:=(by have:(0:Int)<(a0.size:Int):=of_decide_eq_true za_;omega);have hx6:∀ h:0<a0.size,((a0[0]'h).toNat:Int)=bt a0 0:=bt_at a0 0;clear p6;have qi6:(0<(a0.size:Int))=True:=eq_true (of_decide_eq_true za_);replace q6:=eq_true q6
      go_wp2
      go_meet
      case rel=>exact ⟨_,(false),zc_,H',⟨zbc_⟩,zg_⟩
    ·rw [if_neg c5] at H
     exact q3n_ H
 case rest =>
  clear HC2;obtain ⟨kq,x22_1,rfl,HA,HJ1,⟨mc1,rfl⟩⟩:=hcut
  cases kq with
  | zero=>exact absurd HA.out (by simp [impl_decimal.j0])
  | succ kj1 =>
   have H:=HA.out;clear HA
   simp only [impl_decimal.j0] at H
   by_cases c8:x22_1=true
   ·subst c8
    have H1:(some (0,false))=some (r1,r2):=by rw [if_pos rfl] at H;exact H
    clear H;have H:=H1;clear H1
    simp only [Option.some.injEq,Prod.mk.injEq] at H
    obtain ⟨rfl,rfl⟩:=H
    go_wp2
    go_ret2
    exact ⟨zc_,zg_⟩
   ·replace c8:=Bool.eq_false_iff.mpr c8
    subst c8;have H1:(impl_decimal.l0 kj1 a0 0 0)=some (r1,r2):=by rw [if_neg (show ¬ (false=true) by decide)] at H;exact H
    clear H;have H:=H1;clear H1;have H':=aM H;clear H
    go_wp2
    go_loopg [4,5] kj1 (fun kq v4 v5 w' => ∃ (x4_2:Int) (x5_2:Int),v4 = .int .i64 x4_2∧v5 = .int .i64 x5_2∧Aside0 (impl_decimal.l0 kq a0 x4_2 x5_2=some (r1,r2))∧Aside0 (kq≤kj1)∧Drawn0 w w')
    case atStart=>exact ⟨(0),(0),zc_,zc_,H',⟨Nat.le_refl _⟩,zg_⟩
    case round =>
     clear H';obtain ⟨x4_2,x5_2,rfl,rfl,HA,HK2,⟨m2,rfl⟩⟩:=hrel
     cases gk with
     | zero=>exact absurd HA.out (by simp [impl_decimal.l0])
     | succ k2 =>
      have H:=HA.out;clear HA
      simp only [impl_decimal.l0] at H
      by_cases c9:x5_2<(a0.size:Int)
      ·rw [if_pos c9] at H
       have c9b0:=decide_eq_true c9;clear c9
       by_cases c10:0≤x5_2
       ·rw [if_pos c10] at H
        have c10b0:=decide_eq_true c10;clear c10
        by_cases c12:(bt a0 x5_2)<48
        ·rw [if_pos c12] at H
         have c12b0:=decide_eq_true c12;clear c12
         simp only [Option.some.injEq,Prod.mk.injEq] at H
         obtain ⟨rfl,rfl⟩:=H;have p11:0≤(x5_2:Int):=of_decide_eq_true za_;have q11:x5_2<(a0.size:Int):=of_decide_eq_true za_;have hx11:=bt_at a0 x5_2;replace p11:=eq_true p11;replace q11:=eq_true q11
         go_wp2
         go_ret2
         exact ⟨zc_,zg_⟩
        ·rw [if_neg c12] at H
         have c12b0:=decide_eq_false c12;clear c12
         by_cases c14:(bt a0 x5_2)>57
         ·rw [if_pos c14] at H
          have c14b0:decide (57<(bt a0 x5_2))=true:=decide_eq_true c14;clear c14
          simp only [Option.some.injEq,Prod.mk.injEq] at H
          obtain ⟨rfl,rfl⟩:=H;have p11:0≤(x5_2:Int):=of_decide_eq_true za_;have q11:x5_2<(a0.size:Int):=of_decide_eq_true za_;have hx11:=bt_at a0 x5_2;replace p11:=eq_true p11;replace q11:=eq_true q11;have p13:0≤(x5_2:Int):=of_decide_eq_true za_;have q13:x5_2<(a0.size:Int):=of_decide_eq_true za_;have hx13:=bt_at a0 x5_2;replace p13:=eq_true p13;replace q13:=eq_true q13
          go_wp2
          go_ret2
          exact ⟨zc_,zg_⟩
         ·rw [if_neg c14] at H
          have c14b0:decide (57<(bt a0 x5_2))=false:=decide_eq_false c14;clear c14;have H':=aM H;clear H;have p11:0≤(x5_2:Int):=of_decide_eq_true za_;have q11:x5_2<(a0.size:Int):=of_decide_eq_true za_;have hx11:=bt_at a0 x5_2;replace p11:=eq_true p11;replace q11:=eq_true q11;have p13:0≤(x5_2:Int):=of_decide_eq_true za_;have q13:x5_2<(a0.size:Int):=of_decide_eq_true za_;have hx13:=bt_at a0 x5_2;replace p13:=eq_true p13;replace q13:=eq_true q13;have p15:0≤(x5_2:Int):=of_decide_eq_true za_;have q15:x5_2<(a0.size:Int):=of_decide_eq_true za_;have hx15:=bt_at a0 x5_2;replace p15:=eq_true p15;replace q15:=eq_true q15
          go_wp2
          go_roundg k2
          case measure=>have:=HJ1.out;have:=HK2.out;omega
          case rel=>exact ⟨(wrap64 ((wrap64 (10 * x4_2))+(((bt a0 x5_2) - 48) % 256))),(wrap64 (x5_2+1)),zc_,zc_,H',⟨by have:=HJ1.out;have:=HK2.out;omega⟩,zg_⟩
       ·rw [if_neg c10] at H
        exact q3n_ H
      ·rw [if_neg c9] at H
       have c9b0:=decide_eq_false c9;clear c9
       simp only [Option.some.injEq,Prod.mk.injEq] at H
       obtain ⟨rfl,rfl⟩:=H
       go_wp2
       go_ret2
       exact ⟨zc_,zg_⟩
end Go.Proofs.YtanpidphaanjiaaDoor.QFnExactParseCircuit
