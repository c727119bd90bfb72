/- Functions of FnDiagramOrders, each as a Lean function, with the proof that the Go code comes to its answers. -/
import Derived.Test.YtlnhpkjioppbiaaSFnDiagramOrdersx3
import Derived.Test.YtlnhpkjioppbiaaSFnDiagramOrdersx8
namespace Go.Proofs.Ytlnhpkjioppbiaa.QFnDiagramOrders
open Go.RowKit Go.Proofs.YtlnhpkjioppbiaaW.PrintWords Go.Proofs.YtlnhpkjioppbiaaW.PrintLast Go.Proofs.YtlnhpkjioppbiaaW.PrintMore
open Go.Proofs.YtlnhpkjioppbiaaW.PrintWords renaming pw_below_drewN→pN,below_drew1→p1,below_alloc→pA
open Go.Proofs.YtlnhpkjioppbiaaW.PrintWords.Kd renaming R_alloc→kA,R_drewN→kN,R_drew→kD,Q_alloc→qA,Q_drewN→qN,Q_drew→qD,C_alloc→cA,C_drewN→cN,C_drew→cD
open Go.Proofs.YtlnhpkjioppbiaaW.PrintWords.Aside0 renaming mk→aM
open List renaming setIfInBounds_toArray→sI,set_cons_zero→s0,set_cons_succ→sS,map_toArray→mT,length_take→lT,length_drop→lD,map_cons→mC,map_nil→mN
open Option renaming bind_eq_some_iff→oB
attribute [local go_sem] max2_int min2_int max_two min_two max_three min_three max_four min_four
set_option maxHeartbeats 8000000
set_option maxRecDepth 100000
set_option linter.unusedVariables false
set_option linter.unusedSimpArgs false
attribute [local go_sem high] eqA93
open Option renaming bind_some→oS
open Option renaming bind_eq_some_iff→oB,bind_some→oS
mutual
def impl_IsDiagram.j0:Nat→Bool→Int→List (S93)→Int→Option (Bool)
 | 0,_,_,_,_=>none
 | k+1,x36,x163000,x163001,x163002=>if x36=true then (some false) else (impl_IsDiagram.l0 k x163001 (x163001.length:Int) 0 x163000 x163001 x163002)
def impl_IsDiagram.l0:Nat→List (S93)→Int→Int→Int→List (S93)→Int→Option (Bool)
 | 0,_,_,_,_,_,_=>none
 | k+1,x38,x39,x40,x163000,x163001,x163002=>if x40<x39 then (if 0≤x40 then (if x40<(x38.length:Int) then (if ((rd_T93 x38 x40).f0)<0 then (impl_IsDiagram.j2 k x40 x38 x39 x40 true x163000 x163001 x163002 ((rd_T93 x38 x40).f0) ((rd_T93 x38 x40).f1) ((rd_T93 x38 x40).f2)) else (if ((rd_T93 x38 x40).f0)≥x163000 then (impl_IsDiagram.j2 k x40 x38 x39 x40 true x163000 x163001 x163002 ((rd_T93 x38 x40).f0) ((rd_T93 x38 x40).f1) ((rd_T93 x38 x40).f2)) else (if ((rd_T93 x38 x40).f1)=((rd_T93 x38 x40).f2) then (impl_IsDiagram.j2 k x40 x38 x39 x40 true x163000 x163001 x163002 ((rd_T93 x38 x40).f0) ((rd_T93 x38 x40).f1) ((rd_T93 x38 x40).f2)) else ((impl_goodReference.f x163000 x163001 x163002 x40 ((rd_T93 x38 x40).f1)).bind fun t165=>(if t165=true then ((impl_goodReference.f x163000 x163001 x163002 x40 ((rd_T93 x38 x40).f2)).bind fun t166=>(impl_IsDiagram.j2 k x40 x38 x39 x40 (!t166) x163000 x163001 x163002 ((rd_T93 x38 x40).f0) ((rd_T93 x38 x40).f1) ((rd_T93 x38 x40).f2))) else (impl_IsDiagram.j2 k x40 x38 x39 x40 true x163000 x163001 x163002 ((rd_T93 x38 x40).f0) ((rd_T93 x38 x40).f1) ((rd_T93 x38 x40).f2))))))) else (none)) else (none)) else ((impl_visitOrder.f k x163000 x163001 x163002).bind fun t168=>(if (t168.length:Int)=(x163001.length:Int) then (impl_IsDiagram.l2 k t168 (t168.length:Int) 0) else (some false)))
def impl_IsDiagram.j2:Nat→Int→List (S93)→Int→Int→Bool→Int→List (S93)→Int→Int→Int→Int→Option (Bool)
 | 0,_,_,_,_,_,_,_,_,_,_,_=>none
 | k+1,x3,x38,x39,x40,x77,x163000,x163001,x163002,x165000,x165001,x165002=>if x77=true then (some false) else (impl_IsDiagram.l1 k x3 0 x38 x39 x40 x163000 x163001 x163002 x165000 x165001 x165002)
def impl_IsDiagram.l1:Nat→Int→Int→List (S93)→Int→Int→Int→List (S93)→Int→Int→Int→Int→Option (Bool)
 | 0,_,_,_,_,_,_,_,_,_,_,_=>none
 | k+1,x3,x5,x38,x39,x40,x163000,x163001,x163002,x165000,x165001,x165002=>if x5<x3 then (if 0≤x5 then (if x5<(x163001.length:Int) then (if (((rd_T93 x163001 x5).f0) == x165000 && (((rd_T93 x163001 x5).f1) == x165001 && (((rd_T93 x163001 x5).f2) == x165002)))=true then (some false) else (impl_IsDiagram.l1 k x3 (wrap64 (x5+1)) x38 x39 x40 x163000 x163001 x163002 x165000 x165001 x165002)) else (none)) else (none)) else (impl_IsDiagram.l0 k x38 x39 (wrap64 (x40+1)) x163000 x163001 x163002)
def impl_IsDiagram.l2:Nat→List Int→Int→Int→Option (Bool)
 | 0,_,_,_=>none
 | k+1,x99,x100,x101=>if x101<x100 then (if 0≤x101 then (if x101<(x99.length:Int) then (if x101=(rd x99 x101) then (impl_IsDiagram.l2 k x99 x100 (wrap64 (x101+1))) else (some false)) else (none)) else (none)) else (some true)
end
def impl_IsDiagram.f (k:Nat) (a0_0:Int) (l0_1:List (S93)) (a0_2:Int):Option (Bool):=if a0_0<0 then (impl_IsDiagram.j0 k true a0_0 l0_1 a0_2) else (if a0_0>4 then (impl_IsDiagram.j0 k true a0_0 l0_1 a0_2) else (if (l0_1.length:Int)>40 then (impl_IsDiagram.j0 k true a0_0 l0_1 a0_2) else (if a0_2<0 then (impl_IsDiagram.j0 k true a0_0 l0_1 a0_2) else (impl_IsDiagram.j0 k (decide (a0_2>(wrap64 (1+(l0_1.length:Int))))) a0_0 l0_1 a0_2))))
theorem impl_IsDiagram.calls (k:Nat) (a0_0:Int) (A0_1:Option Addr) (c0_1:Nat) (l0_1:List (S93)) (a0_2:Int) (r:Bool) (w:World) (hr0_1:Kd.C k93 w A0_1 l0_1.length l0_1) (hc0_1:l0_1.length≤c0_1) (h:impl_IsDiagram.f k a0_0 l0_1 a0_2=some r) :
  Calls Try.prog 22 #[.agg #[.int .i64 a0_0,.slice A0_1 l0_1.length c0_1,.int .i64 a0_2]] w fun e w'=>e = .returned (.bool r)∧Below w.heap.size w w':=by
 have hu28:=Try.underlying28
 have hu93:=Try.underlying93
 have HR0_1:=aM hr0_1
 have HC0_1:=aM hc0_1
 clear hr0_1 hc0_1
 have HB:=aM (Below.refl w.heap.size w)
 have H:(if a0_0<0 then (impl_IsDiagram.j0 k true a0_0 l0_1 a0_2) else (if a0_0>4 then (impl_IsDiagram.j0 k true a0_0 l0_1 a0_2) else (if (l0_1.length:Int)>40 then (impl_IsDiagram.j0 k true a0_0 l0_1 a0_2) else (if a0_2<0 then (impl_IsDiagram.j0 k true a0_0 l0_1 a0_2) else (impl_IsDiagram.j0 k (decide (a0_2>(wrap64 (1+(l0_1.length:Int))))) a0_0 l0_1 a0_2)))))=some r:=h
 clear h
 have HC2:=aM H
 clear H
 go_enter Try.func22,Try.ntmps22
 go_upto_region 1 with (first | ((with_reducible refine gate_dst (N:=1) rfl ?_);(try (refine gate_guard (by rfl) ?_;dsimp only));refine box_event ?hg (N:=1) ?hd (cs:=#[.int .i64 a0_0,.slice A0_1 l0_1.length c0_1,.int .i64 a0_2]) (t:=28) ?hr ?_;(case hd=>rfl);(case hg=>rfl);(case hr=>exact za_);intro gb162 hg w3 hbox hb;have n_:=z (below_step zb_ hb)<|z (hbox)<|z ((by rw [hg];exact (below_size zb_):w.heap.size≤gb162))<|z1 ((by rw [hg];exact (below_size zb_):w.heap.size≤gb162));clear HB;obtain ⟨HB,BK162,GW162,GE162⟩:=n_;clear hb hbox hg))
 repeat (go_quiet (first | ((with_reducible refine gate_dst (N:=1) rfl ?_);(try (refine gate_guard (by rfl) ?_;dsimp only));refine box_event ?hg (N:=1) ?hd (cs:=#[.int .i64 a0_0,.slice A0_1 l0_1.length c0_1,.int .i64 a0_2]) (t:=28) ?hr ?_;(case hd=>rfl);(case hg=>rfl);(case hr=>exact za_);intro gb162 hg w3 hbox hb;have n_:=z (below_step zb_ hb)<|z (hbox)<|z ((by rw [hg];exact (below_size zb_):w.heap.size≤gb162))<|z1 ((by rw [hg];exact (below_size zb_):w.heap.size≤gb162));clear HB;obtain ⟨HB,BK162,GW162,GE162⟩:=n_;clear hb hbox hg));go_upto_region 1 with (first | ((with_reducible refine gate_dst (N:=1) rfl ?_);(try (refine gate_guard (by rfl) ?_;dsimp only));refine box_event ?hg (N:=1) ?hd (cs:=#[.int .i64 a0_0,.slice A0_1 l0_1.length c0_1,.int .i64 a0_2]) (t:=28) ?hr ?_;(case hd=>rfl);(case hg=>rfl);(case hr=>exact za_);intro gb162 hg w3 hbox hb;have n_:=z (below_step zb_ hb)<|z (hbox)<|z ((by rw [hg];exact (below_size zb_):w.heap.size≤gb162))<|z1 ((by rw [hg];exact (below_size zb_):w.heap.size≤gb162));clear HB;obtain ⟨HB,BK162,GW162,GE162⟩:=n_;clear hb hbox hg)))
 (try simp only [Act.put,sI,s0,sS])
 go_cut [36] (fun v36 wc => ∃ (kq:Nat) (x36_1:Bool),v36 = .bool x36_1∧Aside0 (impl_IsDiagram.j0 kq x36_1 a0_0 l0_1 a0_2=some r)∧Aside0 (kq≤k)∧Aside0 (wc.heap[gb162]?=some (.cells #[.int .i64 a0_0,(.slice A0_1 l0_1.length c0_1),.int .i64 a0_2] 28 (0,0)))∧Aside0 (Below w.heap.size w wc))
 case first =>
  have H:=HC2.out;clear HC2
  by_cases c4:a0_0<0
  ·rw [if_pos c4] at H
   have c4b0:=decide_eq_true c4;clear c4;(first | rw [c4b0]|(simp only [i64_w,i32_w];rw [c4b0]) | skip);have H':=aM H;clear H;obtain ⟨hcz5_0,hcz5_1,hcz5_2,hfz5_0,hfz5_1,hfz5_2⟩:=zk3 BK162.out
   go_wp2
   repeat (go_quiet (fail);try go_wp2)
   go_meet
   case rel=>exact ⟨_,(true),zd_,H',⟨zbe_⟩,⟨zb BK162.out⟩,⟨zbc_⟩⟩
  ·rw [if_neg c4] at H
   have c4b0:=decide_eq_false c4;clear c4;(first | rw [c4b0]|(simp only [i64_w,i32_w];rw [c4b0]) | skip)
   by_cases c6:a0_0>4
   ·rw [if_pos c6] at H
    have c6b0:decide (4<a0_0)=true:=decide_eq_true c6;clear c6;have H':=aM H;clear H;obtain ⟨hcz7_0,hcz7_1,hcz7_2,hfz7_0,hfz7_1,hfz7_2⟩:=zk3 BK162.out
    go_wp2
    repeat (go_quiet (fail);try go_wp2)
    go_meet
    case rel=>exact ⟨_,(true),zd_,H',⟨zbe_⟩,⟨zb BK162.out⟩,⟨zbc_⟩⟩
   ·rw [if_neg c6] at H
    have c6b0:decide (4<a0_0)=false:=decide_eq_false c6;clear c6
    by_cases c8:(l0_1.length:Int)>40
    ·rw [if_pos c8] at H
     have c8b0:decide (40<(l0_1.length:Int))=true:=decide_eq_true c8;have c8b1:decide (40<l0_1.length)=true:=decide_eq_true (by omega);clear c8;have H':=aM H;clear H;obtain ⟨hcz9_0,hcz9_1,hcz9_2,hfz9_0,hfz9_1,hfz9_2⟩:=zk3 BK162.out
     go_wp2
     repeat (go_quiet (fail);try go_wp2)
     go_meet
     case rel=>exact ⟨_,(true),zd_,H',⟨zbe_⟩,⟨zb BK162.out⟩,⟨zbc_⟩⟩
    ·rw [if_neg c8] at H
     have c8b0:decide (40<(l0_1.length:Int))=false:=decide_eq_false c8;have c8b1:decide (40<l0_1.length)=false:=decide_eq_false (by omega);clear c8
     by_cases c10:a0_2<0
     ·rw [if_pos c10] at H
      have c10b0:=decide_eq_true c10;clear c10;have H':=aM H;clear H;obtain ⟨hcz11_0,hcz11_1,hcz11_2,hfz11_0,hfz11_1,hfz11_2⟩:=zk3 BK162.out
      go_wp2
      repeat (go_quiet (fail);try go_wp2)
      go_meet
      case rel=>exact ⟨_,(true),zd_,H',⟨zbe_⟩,⟨zb BK162.out⟩,⟨zbc_⟩⟩
     ·rw [if_neg c10] at H
      have c10b0:=decide_eq_false c10;clear c10;have H':=aM H;clear H;obtain ⟨hcz12_0,hcz12_1,hcz12_2,hfz12_0,hfz12_1,hfz12_2⟩:=zk3 BK162.out
      go_wp2
      repeat (go_quiet (fail);try go_wp2)
      go_meet
      case rel=>exact ⟨_,(decide (a0_2>(wrap64 (1+(l0_1.length:Int))))),zd_,H',⟨zbe_⟩,⟨zb BK162.out⟩,⟨zbc_⟩⟩
 case rest =>
  clear HC2;obtain ⟨kq,x36_1,rfl,HA,HJ1,BK162,HB⟩:=hcut
  cases kq with
  | zero=>exact absurd HA.out (by simp [impl_IsDiagram.j0])
  | succ kj1 =>
   have H:=HA.out;clear HA
   simp only [impl_IsDiagram.j0] at H
   by_cases c13:x36_1=true
   ·subst c13
    have H1:(some false)=some r:=by rw [if_pos rfl] at H;exact H
    clear H;have H:=H1;clear H1;obtain rfl:=Option.some.inj H
    go_wp2
    repeat (go_quiet (fail);try go_wp2)
    go_ret
    exact ⟨zg_,zbc_⟩
   ·replace c13:=Bool.eq_false_iff.mpr c13
    subst c13;have H1:(impl_IsDiagram.l0 kj1 l0_1 (l0_1.length:Int) 0 a0_0 l0_1 a0_2)=some r:=by rw [if_neg (show ¬ (false=true) by decide)] at H;exact H
    clear H;have H:=H1;clear H1;have H':=aM H;clear H;obtain ⟨hcz14_0,hcz14_1,hcz14_2,hfz14_0,hfz14_1,hfz14_2⟩:=zk3 BK162.out
    go_wp2
    repeat (go_quiet (fail);try go_wp2)
    go_loopg [40] kj1 (fun kq v40 w' => ∃ (x40_2:Int),v40 = .int .i64 x40_2∧Aside0 (impl_IsDiagram.l0 kq l0_1 (l0_1.length:Int) x40_2 a0_0 l0_1 a0_2=some r)∧Aside0 (kq≤kj1)∧Aside0 (w'.heap[gb162]?=some (.cells #[.int .i64 a0_0,(.slice A0_1 l0_1.length c0_1),.int .i64 a0_2] 28 (0,0)))∧Aside0 (Below w.heap.size w w'))
    case atStart=>exact ⟨(0),zd_,H',⟨Nat.le_refl _⟩,⟨zb BK162.out⟩,⟨zbc_⟩⟩
    case round =>
     clear H';(try clear hcz14_0);(try clear hcz14_1);(try clear hcz14_2);(try clear hfz14_0);(try clear hfz14_1);(try clear hfz14_2);obtain ⟨x40_2,rfl,HA,HK2,BK162,HB⟩:=hrel
     cases gk with
     | zero=>exact absurd HA.out (by simp [impl_IsDiagram.l0])
     | succ k2 =>
      have H:=HA.out;clear HA
      simp only [impl_IsDiagram.l0] at H
      by_cases c15:x40_2<(l0_1.length:Int)
      ·rw [if_pos c15] at H
       have c15b0:=decide_eq_true c15;clear c15
       by_cases c16:0≤x40_2
       ·rw [if_pos c16] at H
        have c16b0:=decide_eq_true c16;clear c16
        by_cases c17:x40_2<(l0_1.length:Int)
        ·rw [if_pos c17] at H
         have c17b0:=decide_eq_true c17;clear c17;have HC18:=aM H;clear H;have p163:0≤(x40_2:Int):=of_decide_eq_true zc_;have q163:x40_2<(l0_1.length:Int):=of_decide_eq_true zc_;obtain ⟨ad163,e163,hx163_0,hx163_1,hx163_2⟩:=at_T93 HR0_1.out x40_2 p163 q163
         cases e163
         (try (replace hx163_0:=q3h_ HB.out hx163_0));(try (replace hx163_1:=q3h_ HB.out hx163_1));(try (replace hx163_2:=q3h_ HB.out hx163_2));replace p163:=eq_true p163;replace q163:=eq_true q163
         go_upto_region 6 with (first | ((with_reducible refine gate_dst (N:=4) rfl ?_);(try (refine gate_guard (by rfl) ?_;dsimp only));refine box_event ?hg (N:=4) ?hd (cs:=#[.int .i64 0,.int .i64 0,.int .i64 0]) (t:=93) ?hr ?_;(case hd=>rfl);(case hg=>rfl);(case hr=>exact za_);intro gb164 hg w19 hbox hb;have n_:=z (blk_below (zb BK162.out) hb)<|z (below_step zbc_ hb)<|z (hbox)<|z ((by rw [hg];exact (below_size zbc_):w.heap.size≤gb164))<|z ((by rw [hg];exact (below_size zbc_):w.heap.size≤gb164))<|z ((by rw [hg];exact Nat.ne_of_lt (blk_lt (zb BK162.out)):gb162≠gb164))<|z1 ((by rw [hg];exact Nat.ne_of_gt (blk_lt (zb BK162.out)):gb164≠gb162));clear BK162 HB;obtain ⟨BK162,HB,BK164,GW164,GE164,NB162_164,NB164_162⟩:=n_;clear hb hbox hg;have hnb20:=NB164_162.out;have hnc20:=NB162_164.out;obtain ⟨hcz21_0,hcz21_1,hcz21_2,hfz21_0,hfz21_1,hfz21_2⟩:=zk3 BK164.out))
         repeat (go_quiet (first | ((with_reducible refine gate_dst (N:=4) rfl ?_);(try (refine gate_guard (by rfl) ?_;dsimp only));refine box_event ?hg (N:=4) ?hd (cs:=#[.int .i64 0,.int .i64 0,.int .i64 0]) (t:=93) ?hr ?_;(case hd=>rfl);(case hg=>rfl);(case hr=>exact za_);intro gb164 hg w19 hbox hb;have n_:=z (blk_below (zb BK162.out) hb)<|z (below_step zbc_ hb)<|z (hbox)<|z ((by rw [hg];exact (below_size zbc_):w.heap.size≤gb164))<|z ((by rw [hg];exact (below_size zbc_):w.heap.size≤gb164))<|z ((by rw [hg];exact Nat.ne_of_lt (blk_lt (zb BK162.out)):gb162≠gb164))<|z1 ((by rw [hg];exact Nat.ne_of_gt (blk_lt (zb BK162.out)):gb164≠gb162));clear BK162 HB;obtain ⟨BK162,HB,BK164,GW164,GE164,NB162_164,NB164_162⟩:=n_;clear hb hbox hg;have hnb20:=NB164_162.out;have hnc20:=NB162_164.out;obtain ⟨hcz21_0,hcz21_1,hcz21_2,hfz21_0,hfz21_1,hfz21_2⟩:=zk3 BK164.out));go_upto_region 6 with (first | ((with_reducible refine gate_dst (N:=4) rfl ?_);(try (refine gate_guard (by rfl) ?_;dsimp only));refine box_event ?hg (N:=4) ?hd (cs:=#[.int .i64 0,.int .i64 0,.int .i64 0]) (t:=93) ?hr ?_;(case hd=>rfl);(case hg=>rfl);(case hr=>exact za_);intro gb164 hg w19 hbox hb;have n_:=z (blk_below (zb BK162.out) hb)<|z (below_step zbc_ hb)<|z (hbox)<|z ((by rw [hg];exact (below_size zbc_):w.heap.size≤gb164))<|z ((by rw [hg];exact (below_size zbc_):w.heap.size≤gb164))<|z ((by rw [hg];exact Nat.ne_of_lt (blk_lt (zb BK162.out)):gb162≠gb164))<|z1 ((by rw [hg];exact Nat.ne_of_gt (blk_lt (zb BK162.out)):gb164≠gb162));clear BK162 HB;obtain ⟨BK162,HB,BK164,GW164,GE164,NB162_164,NB164_162⟩:=n_;clear hb hbox hg;have hnb20:=NB164_162.out;have hnc20:=NB162_164.out;obtain ⟨hcz21_0,hcz21_1,hcz21_2,hfz21_0,hfz21_1,hfz21_2⟩:=zk3 BK164.out)))
         (try simp only [Act.put,sI,s0,sS])
         go_cut [77] (fun v77 wc => ∃ (kq:Nat) (x77_17:Bool),v77 = .bool x77_17∧Aside0 (impl_IsDiagram.j2 kq x40_2 l0_1 (l0_1.length:Int) x40_2 x77_17 a0_0 l0_1 a0_2 ((rd_T93 l0_1 x40_2).f0) ((rd_T93 l0_1 x40_2).f1) ((rd_T93 l0_1 x40_2).f2)=some r)∧Aside0 (kq≤k2)∧Aside0 (wc.heap[gb162]?=some (.cells #[.int .i64 a0_0,(.slice (some ad163) l0_1.length c0_1),.int .i64 a0_2] 28 (0,0)))∧Aside0 (wc.heap[gb164]?=some (.cells #[.int .i64 ((rd_T93 l0_1 x40_2).f0),.int .i64 ((rd_T93 l0_1 x40_2).f1),.int .i64 ((rd_T93 l0_1 x40_2).f2)] 93 (0,0)))∧Aside0 (Below w.heap.size w wc))
         case first =>
          have H:=HC18.out;clear HC18
          by_cases c22:((rd_T93 l0_1 x40_2).f0)<0
          ·rw [if_pos c22] at H
           have c22b0:=decide_eq_true c22;clear c22;(first | rw [c22b0]|(simp only [i64_w,i32_w];rw [c22b0]) | skip);have H':=aM H;clear H;have hnb23:=NB164_162.out;have hnc23:=NB162_164.out;obtain ⟨hcz24_0,hcz24_1,hcz24_2,hfz24_0,hfz24_1,hfz24_2⟩:=zk3 BK164.out
           go_wp2
           repeat (go_quiet (fail);try go_wp2)
           go_meet
           case rel=>exact ⟨_,(true),zd_,H',⟨zhj_⟩,⟨zeb_⟩,⟨zec_⟩,⟨zcd_⟩⟩
          ·rw [if_neg c22] at H
           have c22b0:=decide_eq_false c22;clear c22;(first | rw [c22b0]|(simp only [i64_w,i32_w];rw [c22b0]) | skip)
           by_cases c25:((rd_T93 l0_1 x40_2).f0)≥a0_0
           ·rw [if_pos c25] at H
            have c25b0:decide (a0_0≤((rd_T93 l0_1 x40_2).f0))=true:=decide_eq_true c25;clear c25;have H':=aM H;clear H;have hnb26:=NB164_162.out;have hnc26:=NB162_164.out;obtain ⟨hcz27_0,hcz27_1,hcz27_2,hfz27_0,hfz27_1,hfz27_2⟩:=zk3 BK164.out;obtain ⟨hcz28_0,hcz28_1,hcz28_2,hfz28_0,hfz28_1,hfz28_2⟩:=zk3 BK162.out
            go_wp2
            repeat (go_quiet (fail);try go_wp2)
            go_meet
            case rel=>exact ⟨_,(true),zd_,H',⟨zhj_⟩,⟨zeb_⟩,⟨zec_⟩,⟨zcd_⟩⟩
           ·rw [if_neg c25] at H
            have c25b0:decide (a0_0≤((rd_T93 l0_1 x40_2).f0))=false:=decide_eq_false c25;clear c25
            by_cases c29:((rd_T93 l0_1 x40_2).f1)=((rd_T93 l0_1 x40_2).f2)
            ·rw [if_pos c29] at H
             have c29b0:=beq_iff_eq.mpr c29;have c29b1:=bne_eq_false_iff_eq.mpr c29;clear c29;have H':=aM H;clear H;have hnb30:=NB164_162.out;have hnc30:=NB162_164.out;obtain ⟨hcz31_0,hcz31_1,hcz31_2,hfz31_0,hfz31_1,hfz31_2⟩:=zk3 BK164.out;obtain ⟨hcz32_0,hcz32_1,hcz32_2,hfz32_0,hfz32_1,hfz32_2⟩:=zk3 BK162.out
             go_wp2
             repeat (go_quiet (fail);try go_wp2)
             go_meet
             case rel=>exact ⟨_,(true),zd_,H',⟨zhj_⟩,⟨zeb_⟩,⟨zec_⟩,⟨zcd_⟩⟩
            ·rw [if_neg c29] at H
             have c29b0:=beq_eq_false_iff_ne.mpr c29;have c29b1:=bne_iff_ne.mpr c29;replace H:=oB.mp H;obtain ⟨t165,A330,H⟩:=H;replace H:(if t165=true then ((impl_goodReference.f a0_0 l0_1 a0_2 x40_2 ((rd_T93 l0_1 x40_2).f2)).bind fun t166=>(impl_IsDiagram.j2 k2 x40_2 l0_1 (l0_1.length:Int) x40_2 (!t166) a0_0 l0_1 a0_2 ((rd_T93 l0_1 x40_2).f0) ((rd_T93 l0_1 x40_2).f1) ((rd_T93 l0_1 x40_2).f2))) else (impl_IsDiagram.j2 k2 x40_2 l0_1 (l0_1.length:Int) x40_2 true a0_0 l0_1 a0_2 ((rd_T93 l0_1 x40_2).f0) ((rd_T93 l0_1 x40_2).f1) ((rd_T93 l0_1 x40_2).f2)))=some r:=H;have A33:=aM A330;clear A330
             by_cases c34:t165=true
             ·subst c34
              have H1:((impl_goodReference.f a0_0 l0_1 a0_2 x40_2 ((rd_T93 l0_1 x40_2).f2)).bind fun t166=>(impl_IsDiagram.j2 k2 x40_2 l0_1 (l0_1.length:Int) x40_2 (!t166) a0_0 l0_1 a0_2 ((rd_T93 l0_1 x40_2).f0) ((rd_T93 l0_1 x40_2).f1) ((rd_T93 l0_1 x40_2).f2)))=some r:=by rw [if_pos rfl] at H;exact H
              clear H;have H:=H1;clear H1;replace H:=oB.mp H;obtain ⟨t166,A350,H⟩:=H;replace H:(impl_IsDiagram.j2 k2 x40_2 l0_1 (l0_1.length:Int) x40_2 (!t166) a0_0 l0_1 a0_2 ((rd_T93 l0_1 x40_2).f0) ((rd_T93 l0_1 x40_2).f1) ((rd_T93 l0_1 x40_2).f2))=some r:=H;have A35:=aM A350;clear A350;have H':=aM H;clear H;have hnb36:=NB164_162.out;have hnc36:=NB162_164.out;obtain ⟨hcz37_0,hcz37_1,hcz37_2,hfz37_0,hfz37_1,hfz37_2⟩:=zk3 BK164.out;obtain ⟨hcz38_0,hcz38_1,hcz38_2,hfz38_0,hfz38_1,hfz38_2⟩:=zk3 BK162.out
              go_wp2_with (first | (go_at_call 71;(with_reducible refine (impl_goodReference.calls a0_0 _ _ l0_1 a0_2 x40_2 ((rd_T93 l0_1 x40_2).f1) true _ ?side1 ?side2 A33.out).mono ?_);(case side1=>exact zgb_);(case side2=>exact HC0_1.out);rintro e w39 ⟨rfl,hb⟩;have n_:=z (blk_below (g:=gb162) (o := .cells #[.int .i64 a0_0,.slice (some ad163) l0_1.length c0_1,.int .i64 a0_2] 28 (0,0)) zeb_ hb)<|z (blk_below (g:=gb164) (o := .cells #[.int .i64 ((rd_T93 l0_1 x40_2).f0),.int .i64 ((rd_T93 l0_1 x40_2).f1),.int .i64 ((rd_T93 l0_1 x40_2).f2)] 93 (0,0)) zec_ hb)<|z1 (below_step zcd_ hb);clear BK162 BK164 HB;obtain ⟨BK162,BK164,HB⟩:=n_;clear hb;obtain ⟨hcz40_0,hcz40_1,hcz40_2,hfz40_0,hfz40_1,hfz40_2⟩:=zk3 BK162.out;obtain ⟨hcz41_0,hcz41_1,hcz41_2,hfz41_0,hfz41_1,hfz41_2⟩:=zk3 BK164.out)|(go_at_call 71;(with_reducible refine (impl_goodReference.calls a0_0 _ _ l0_1 a0_2 x40_2 ((rd_T93 l0_1 x40_2).f2) t166 _ ?side1 ?side2 A35.out).mono ?_);(case side1=>exact zj_);(case side2=>exact HC0_1.out);rintro e w42 ⟨rfl,hb⟩;have n_:=z (blk_below (zb BK162.out) hb)<|z (blk_below (g:=gb164) (o := .cells #[.int .i64 ((rd_T93 l0_1 x40_2).f0),.int .i64 ((rd_T93 l0_1 x40_2).f1),.int .i64 ((rd_T93 l0_1 x40_2).f2)] 93 (0,0)) (zb BK164.out) hb)<|z1 (below_step zcd_ hb);clear BK162 BK164 HB;obtain ⟨BK162,BK164,HB⟩:=n_;clear hb))
              repeat (go_quiet (first | (go_at_call 71;(with_reducible refine (impl_goodReference.calls a0_0 _ _ l0_1 a0_2 x40_2 ((rd_T93 l0_1 x40_2).f1) true _ ?side1 ?side2 A33.out).mono ?_);(case side1=>exact zgb_);(case side2=>exact HC0_1.out);rintro e w39 ⟨rfl,hb⟩;have n_:=z (blk_below (g:=gb162) (o := .cells #[.int .i64 a0_0,.slice (some ad163) l0_1.length c0_1,.int .i64 a0_2] 28 (0,0)) zeb_ hb)<|z (blk_below (g:=gb164) (o := .cells #[.int .i64 ((rd_T93 l0_1 x40_2).f0),.int .i64 ((rd_T93 l0_1 x40_2).f1),.int .i64 ((rd_T93 l0_1 x40_2).f2)] 93 (0,0)) zec_ hb)<|z1 (below_step zcd_ hb);clear BK162 BK164 HB;obtain ⟨BK162,BK164,HB⟩:=n_;clear hb;obtain ⟨hcz40_0,hcz40_1,hcz40_2,hfz40_0,hfz40_1,hfz40_2⟩:=zk3 BK162.out;obtain ⟨hcz41_0,hcz41_1,hcz41_2,hfz41_0,hfz41_1,hfz41_2⟩:=zk3 BK164.out)|(go_at_call 71;(with_reducible refine (impl_goodReference.calls a0_0 _ _ l0_1 a0_2 x40_2 ((rd_T93 l0_1 x40_2).f2) t166 _ ?side1 ?side2 A35.out).mono ?_);(case side1=>exact zj_);(case side2=>exact HC0_1.out);rintro e w42 ⟨rfl,hb⟩;have n_:=z (blk_below (zb BK162.out) hb)<|z (blk_below (g:=gb164) (o := .cells #[.int .i64 ((rd_T93 l0_1 x40_2).f0),.int .i64 ((rd_T93 l0_1 x40_2).f1),.int .i64 ((rd_T93 l0_1 x40_2).f2)] 93 (0,0)) (zb BK164.out) hb)<|z1 (below_step zcd_ hb);clear BK162 BK164 HB;obtain ⟨BK162,BK164,HB⟩:=n_;clear hb));try go_wp2_with (first | (go_at_call 71;(with_reducible refine (impl_goodReference.calls a0_0 _ _ l0_1 a0_2 x40_2 ((rd_T93 l0_1 x40_2).f1) true _ ?side1 ?side2 A33.out).mono ?_);(case side1=>exact zgb_);(case side2=>exact HC0_1.out);rintro e w39 ⟨rfl,hb⟩;have n_:=z (blk_below (g:=gb162) (o := .cells #[.int .i64 a0_0,.slice (some ad163) l0_1.length c0_1,.int .i64 a0_2] 28 (0,0)) zeb_ hb)<|z (blk_below (g:=gb164) (o := .cells #[.int .i64 ((rd_T93 l0_1 x40_2).f0),.int .i64 ((rd_T93 l0_1 x40_2).f1),.int .i64 ((rd_T93 l0_1 x40_2).f2)] 93 (0,0)) zec_ hb)<|z1 (below_step zcd_ hb);clear BK162 BK164 HB;obtain ⟨BK162,BK164,HB⟩:=n_;clear hb;obtain ⟨hcz40_0,hcz40_1,hcz40_2,hfz40_0,hfz40_1,hfz40_2⟩:=zk3 BK162.out;obtain ⟨hcz41_0,hcz41_1,hcz41_2,hfz41_0,hfz41_1,hfz41_2⟩:=zk3 BK164.out)|(go_at_call 71;(with_reducible refine (impl_goodReference.calls a0_0 _ _ l0_1 a0_2 x40_2 ((rd_T93 l0_1 x40_2).f2) t166 _ ?side1 ?side2 A35.out).mono ?_);(case side1=>exact zj_);(case side2=>exact HC0_1.out);rintro e w42 ⟨rfl,hb⟩;have n_:=z (blk_below (zb BK162.out) hb)<|z (blk_below (g:=gb164) (o := .cells #[.int .i64 ((rd_T93 l0_1 x40_2).f0),.int .i64 ((rd_T93 l0_1 x40_2).f1),.int .i64 ((rd_T93 l0_1 x40_2).f2)] 93 (0,0)) (zb BK164.out) hb)<|z1 (below_step zcd_ hb);clear BK162 BK164 HB;obtain ⟨BK162,BK164,HB⟩:=n_;clear hb)))
              go_meet
              case rel=>exact ⟨_,(!t166),zd_,H',⟨zhj_⟩,⟨zb BK162.out⟩,⟨zb BK164.out⟩,⟨zcd_⟩⟩
             ·replace c34:=Bool.eq_false_iff.mpr c34
              subst c34;have H1:(impl_IsDiagram.j2 k2 x40_2 l0_1 (l0_1.length:Int) x40_2 true a0_0 l0_1 a0_2 ((rd_T93 l0_1 x40_2).f0) ((rd_T93 l0_1 x40_2).f1) ((rd_T93 l0_1 x40_2).f2))=some r:=by rw [if_neg (show ¬ (false=true) by decide)] at H;exact H
              clear H;have H:=H1;clear H1;have H':=aM H;clear H;have hnb43:=NB164_162.out;have hnc43:=NB162_164.out;obtain ⟨hcz44_0,hcz44_1,hcz44_2,hfz44_0,hfz44_1,hfz44_2⟩:=zk3 BK164.out;obtain ⟨hcz45_0,hcz45_1,hcz45_2,hfz45_0,hfz45_1,hfz45_2⟩:=zk3 BK162.out
              go_wp2_with (first | (go_at_call 71;(with_reducible refine (impl_goodReference.calls a0_0 _ _ l0_1 a0_2 x40_2 ((rd_T93 l0_1 x40_2).f1) false _ ?side1 ?side2 A33.out).mono ?_);(case side1=>exact zgb_);(case side2=>exact HC0_1.out);rintro e w46 ⟨rfl,hb⟩;have n_:=z (blk_below (g:=gb162) (o := .cells #[.int .i64 a0_0,.slice (some ad163) l0_1.length c0_1,.int .i64 a0_2] 28 (0,0)) zeb_ hb)<|z (blk_below (g:=gb164) (o := .cells #[.int .i64 ((rd_T93 l0_1 x40_2).f0),.int .i64 ((rd_T93 l0_1 x40_2).f1),.int .i64 ((rd_T93 l0_1 x40_2).f2)] 93 (0,0)) zec_ hb)<|z1 (below_step zcd_ hb);clear BK162 BK164 HB;obtain ⟨BK162,BK164,HB⟩:=n_;clear hb))
              repeat (go_quiet (first | (go_at_call 71;(with_reducible refine (impl_goodReference.calls a0_0 _ _ l0_1 a0_2 x40_2 ((rd_T93 l0_1 x40_2).f1) false _ ?side1 ?side2 A33.out).mono ?_);(case side1=>exact zgb_);(case side2=>exact HC0_1.out);rintro e w46 ⟨rfl,hb⟩;have n_:=z (blk_below (g:=gb162) (o := .cells #[.int .i64 a0_0,.slice (some ad163) l0_1.length c0_1,.int .i64 a0_2] 28 (0,0)) zeb_ hb)<|z (blk_below (g:=gb164) (o := .cells #[.int .i64 ((rd_T93 l0_1 x40_2).f0),.int .i64 ((rd_T93 l0_1 x40_2).f1),.int .i64 ((rd_T93 l0_1 x40_2).f2)] 93 (0,0)) zec_ hb)<|z1 (below_step zcd_ hb);clear BK162 BK164 HB;obtain ⟨BK162,BK164,HB⟩:=n_;clear hb));try go_wp2_with (first | (go_at_call 71;(with_reducible refine (impl_goodReference.calls a0_0 _ _ l0_1 a0_2 x40_2 ((rd_T93 l0_1 x40_2).f1) false _ ?side1 ?side2 A33.out).mono ?_);(case side1=>exact zgb_);(case side2=>exact HC0_1.out);rintro e w46 ⟨rfl,hb⟩;have n_:=z (blk_below (g:=gb162) (o := .cells #[.int .i64 a0_0,.slice (some ad163) l0_1.length c0_1,.int .i64 a0_2] 28 (0,0)) zeb_ hb)<|z (blk_below (g:=gb164) (o := .cells #[.int .i64 ((rd_T93 l0_1 x40_2).f0),.int .i64 ((rd_T93 l0_1 x40_2).f1),.int .i64 ((rd_T93 l0_1 x40_2).f2)] 93 (0,0)) zec_ hb)<|z1 (below_step zcd_ hb);clear BK162 BK164 HB;obtain ⟨BK162,BK164,HB⟩:=n_;clear hb)))
              go_meet
              case rel=>exact ⟨_,(true),zd_,H',⟨zhj_⟩,⟨zb BK162.out⟩,⟨zb BK164.out⟩,⟨zcd_⟩⟩
         case rest =>
          clear HC18;(try clear c15b0);(try clear c16b0);(try clear c17b0);(try clear hcz21_0);(try clear hcz21_1);(try clear hcz21_2);(try clear hfz21_0);(try clear hfz21_1);(try clear hfz21_2);(try clear hx163_0);(try clear hx163_1);(try clear hx163_2);(try clear p163);(try clear q163);obtain ⟨kq,x77_17,rfl,HA,HJ17,BK162,BK164,HB⟩:=hcut
          cases kq with
          | zero=>exact absurd HA.out (by simp [impl_IsDiagram.j2])
          | succ kj17 =>
           have H:=HA.out;clear HA
           simp only [impl_IsDiagram.j2] at H
           by_cases c47:x77_17=true
           ·subst c47
            have H1:(some false)=some r:=by rw [if_pos rfl] at H;exact H
            clear H;have H:=H1;clear H1;obtain rfl:=Option.some.inj H
            go_wp2
            repeat (go_quiet (fail);try go_wp2)
            go_ret
            exact ⟨zg_,zcd_⟩
           ·replace c47:=Bool.eq_false_iff.mpr c47
            subst c47;have H1:(impl_IsDiagram.l1 kj17 x40_2 0 l0_1 (l0_1.length:Int) x40_2 a0_0 l0_1 a0_2 ((rd_T93 l0_1 x40_2).f0) ((rd_T93 l0_1 x40_2).f1) ((rd_T93 l0_1 x40_2).f2))=some r:=by rw [if_neg (show ¬ (false=true) by decide)] at H;exact H
            clear H;have H:=H1;clear H1;have H':=aM H;clear H
            go_wp2
            repeat (go_quiet (fail);try go_wp2)
            go_loopg [5] kj17 (fun kq v5 w' => ∃ (x5_4:Int),v5 = .int .i64 x5_4∧Aside0 (impl_IsDiagram.l1 kq x40_2 x5_4 l0_1 (l0_1.length:Int) x40_2 a0_0 l0_1 a0_2 ((rd_T93 l0_1 x40_2).f0) ((rd_T93 l0_1 x40_2).f1) ((rd_T93 l0_1 x40_2).f2)=some r)∧Aside0 (kq≤kj17)∧Aside0 (w'.heap[gb162]?=some (.cells #[.int .i64 a0_0,(.slice (some ad163) l0_1.length c0_1),.int .i64 a0_2] 28 (0,0)))∧Aside0 (w'.heap[gb164]?=some (.cells #[.int .i64 ((rd_T93 l0_1 x40_2).f0),.int .i64 ((rd_T93 l0_1 x40_2).f1),.int .i64 ((rd_T93 l0_1 x40_2).f2)] 93 (0,0)))∧Aside0 (Below w.heap.size w w'))
            case atStart=>exact ⟨(0),zd_,H',⟨Nat.le_refl _⟩,⟨zb BK162.out⟩,⟨zb BK164.out⟩,⟨zcd_⟩⟩
            case round =>
             clear H';obtain ⟨x5_4,rfl,HA,HK4,BK162,BK164,HB⟩:=hrel
             cases gk with
             | zero=>exact absurd HA.out (by simp [impl_IsDiagram.l1])
             | succ k4 =>
              have H:=HA.out;clear HA
              simp only [impl_IsDiagram.l1] at H
              by_cases c48:x5_4<x40_2
              ·rw [if_pos c48] at H
               have c48b0:=decide_eq_true c48;clear c48
               by_cases c49:0≤x5_4
               ·rw [if_pos c49] at H
                have c49b0:=decide_eq_true c49;clear c49
                by_cases c50:x5_4<(l0_1.length:Int)
                ·rw [if_pos c50] at H
                 have c50b0:=decide_eq_true c50;clear c50
                 by_cases c51:(((rd_T93 l0_1 x5_4).f0) == ((rd_T93 l0_1 x40_2).f0) && (((rd_T93 l0_1 x5_4).f1) == ((rd_T93 l0_1 x40_2).f1) && (((rd_T93 l0_1 x5_4).f2) == ((rd_T93 l0_1 x40_2).f2))))=true
                 ·rw [if_pos c51] at H
                  have c51b0:(((rd_T93 l0_1 x5_4).f0) == ((rd_T93 l0_1 x40_2).f0) && (((rd_T93 l0_1 x5_4).f1) == ((rd_T93 l0_1 x40_2).f1) && (((rd_T93 l0_1 x5_4).f2) == ((rd_T93 l0_1 x40_2).f2))))=true:=c51;(try (have c51b1:decide (((rd_T93 l0_1 x5_4).f0)=((rd_T93 l0_1 x40_2).f0) && (((rd_T93 l0_1 x5_4).f1) == ((rd_T93 l0_1 x40_2).f1) && (((rd_T93 l0_1 x5_4).f2) == ((rd_T93 l0_1 x40_2).f2))))=true:=by simpa using c51));(try (have c51b2:(((rd_T93 l0_1 x5_4).f0) == ((rd_T93 l0_1 x40_2).f0) && (((rd_T93 l0_1 x5_4).f1) == ((rd_T93 l0_1 x40_2).f1) && (((rd_T93 l0_1 x5_4).f2) == ((rd_T93 l0_1 x40_2).f2))))=true:=by simpa using c51));clear c51;obtain rfl:=Option.some.inj H;have hnb52:=NB162_164.out;have hnc52:=NB164_162.out;obtain ⟨hcz53_0,hcz53_1,hcz53_2,hfz53_0,hfz53_1,hfz53_2⟩:=zk3 BK162.out;have p167:0≤(x5_4:Int):=of_decide_eq_true zc_;have q167:x5_4<(l0_1.length:Int):=of_decide_eq_true zc_;obtain ⟨ad167,e167,hx167_0,hx167_1,hx167_2⟩:=at_T93 HR0_1.out x5_4 p167 q167;obtain rfl:ad163=ad167:=(by injection e167);(try (replace hx167_0:=q3h_ HB.out hx167_0));(try (replace hx167_1:=q3h_ HB.out hx167_1));(try (replace hx167_2:=q3h_ HB.out hx167_2));replace p167:=eq_true p167;replace q167:=eq_true q167;obtain ⟨hcz54_0,hcz54_1,hcz54_2,hfz54_0,hfz54_1,hfz54_2⟩:=zk3 BK164.out
                  go_wp2
                  repeat (go_quiet (fail);try go_wp2)
                  go_ret
                  exact ⟨zg_,zcd_⟩
                 ·rw [if_neg c51] at H
                  have c51b0:(((rd_T93 l0_1 x5_4).f0) == ((rd_T93 l0_1 x40_2).f0) && (((rd_T93 l0_1 x5_4).f1) == ((rd_T93 l0_1 x40_2).f1) && (((rd_T93 l0_1 x5_4).f2) == ((rd_T93 l0_1 x40_2).f2))))=false:=by simpa using c51
                  (try (have c51b1:decide (((rd_T93 l0_1 x5_4).f0)=((rd_T93 l0_1 x40_2).f0) && (((rd_T93 l0_1 x5_4).f1) == ((rd_T93 l0_1 x40_2).f1) && (((rd_T93 l0_1 x5_4).f2) == ((rd_T93 l0_1 x40_2).f2))))=false:=by simpa using c51));(try (have c51b2:(((rd_T93 l0_1 x5_4).f0) == ((rd_T93 l0_1 x40_2).f0) && (((rd_T93 l0_1 x5_4).f1) == ((rd_T93 l0_1 x40_2).f1) && (((rd_T93 l0_1 x5_4).f2) == ((rd_T93 l0_1 x40_2).f2))))=false:=by simpa using c51));(try (have c51b3:¬ (((rd_T93 l0_1 x5_4).f0)=((rd_T93 l0_1 x40_2).f0) && (((rd_T93 l0_1 x5_4).f1) == ((rd_T93 l0_1 x40_2).f1) && (((rd_T93 l0_1 x5_4).f2) == ((rd_T93 l0_1 x40_2).f2)))):=by simpa using c51));clear c51;have H':=aM H;clear H;have hnb55:=NB162_164.out;have hnc55:=NB164_162.out;obtain ⟨hcz56_0,hcz56_1,hcz56_2,hfz56_0,hfz56_1,hfz56_2⟩:=zk3 BK162.out;have p167:0≤(x5_4:Int):=of_decide_eq_true zc_;have q167:x5_4<(l0_1.length:Int):=of_decide_eq_true zc_;obtain ⟨ad167,e167,hx167_0,hx167_1,hx167_2⟩:=at_T93 HR0_1.out x5_4 p167 q167;obtain rfl:ad163=ad167:=(by injection e167);(try (replace hx167_0:=q3h_ HB.out hx167_0));(try (replace hx167_1:=q3h_ HB.out hx167_1));(try (replace hx167_2:=q3h_ HB.out hx167_2));replace p167:=eq_true p167;replace q167:=eq_true q167;obtain ⟨hcz57_0,hcz57_1,hcz57_2,hfz57_0,hfz57_1,hfz57_2⟩:=zk3 BK164.out
                  go_wp2
                  repeat (go_quiet (fail);try go_wp2)
                  go_roundg k4
                  case measure=>have:=HJ1.out;have:=HK2.out;have:=HJ17.out;have:=HK4.out;omega
                  case rel=>exact ⟨(wrap64 (x5_4+1)),zd_,H',⟨by have:=HJ1.out;have:=HK2.out;have:=HJ17.out;have:=HK4.out;omega⟩,⟨zb BK162.out⟩,⟨zb BK164.out⟩,⟨zcd_⟩⟩
                ·rw [if_neg c50] at H
                 exact q3n_ H
               ·rw [if_neg c49] at H
                exact q3n_ H
              ·rw [if_neg c48] at H
               have c48b0:=decide_eq_false c48;clear c48;have H':=aM H;clear H
               go_wp2
               repeat (go_quiet (fail);try go_wp2)
               go_roundg k4
               case measure=>have:=HJ1.out;have:=HK2.out;have:=HJ17.out;have:=HK4.out;omega
               case rel=>exact ⟨(wrap64 (x40_2+1)),zd_,H',⟨by have:=HJ1.out;have:=HK2.out;have:=HJ17.out;have:=HK4.out;omega⟩,⟨zb BK162.out⟩,⟨zcd_⟩⟩
        ·rw [if_neg c17] at H
         exact q3n_ H
       ·rw [if_neg c16] at H
        exact q3n_ H
      ·rw [if_neg c15] at H
       have c15b0:=decide_eq_false c15;clear c15;replace H:=oB.mp H;obtain ⟨t168,A580,H⟩:=H;replace H:(if (t168.length:Int)=(l0_1.length:Int) then (impl_IsDiagram.l2 k2 t168 (t168.length:Int) 0) else (some false))=some r:=H;have A58:=aM A580;clear A580
       by_cases c59:(t168.length:Int)=(l0_1.length:Int)
       ·rw [if_pos c59] at H
        have c59b0:=beq_iff_eq.mpr c59;have c59b1:=bne_eq_false_iff_eq.mpr c59;have c59b2:(t168.length == l0_1.length)=true:=by first | simpa using c59 | (simp at c59 ⊢;omega)
        clear c59;have H':=aM H;clear H;obtain ⟨hcz60_0,hcz60_1,hcz60_2,hfz60_0,hfz60_1,hfz60_2⟩:=zk3 BK162.out
        go_wp2_with (first | (go_at_call 72;(with_reducible refine (impl_visitOrder.calls k2 a0_0 _ _ l0_1 a0_2 t168 _ ?side1 ?side2 A58.out).mono ?_);(case side1=>exact zj_);(case side2=>exact HC0_1.out);rintro e w61 ⟨v169,rfl,ho0,hb⟩;have n_:=z (Kd.R_lower ho0 (below_size zbc_))<|z (blk_below (zb BK162.out) hb)<|z1 (below_step zbc_ hb);clear BK162 HB;obtain ⟨HO170,BK162,HB⟩:=n_;clear hb;(try clear ho0);obtain ⟨Ao62,co62,eo62⟩:=Kd.R_slice HO170.out;subst eo62;obtain ⟨hcz63_0,hcz63_1,hcz63_2,hfz63_0,hfz63_1,hfz63_2⟩:=zk3 BK162.out))
        repeat (go_quiet (first | (go_at_call 72;(with_reducible refine (impl_visitOrder.calls k2 a0_0 _ _ l0_1 a0_2 t168 _ ?side1 ?side2 A58.out).mono ?_);(case side1=>exact zj_);(case side2=>exact HC0_1.out);rintro e w61 ⟨v169,rfl,ho0,hb⟩;have n_:=z (Kd.R_lower ho0 (below_size zbc_))<|z (blk_below (zb BK162.out) hb)<|z1 (below_step zbc_ hb);clear BK162 HB;obtain ⟨HO170,BK162,HB⟩:=n_;clear hb;(try clear ho0);obtain ⟨Ao62,co62,eo62⟩:=Kd.R_slice HO170.out;subst eo62;obtain ⟨hcz63_0,hcz63_1,hcz63_2,hfz63_0,hfz63_1,hfz63_2⟩:=zk3 BK162.out));try go_wp2_with (first | (go_at_call 72;(with_reducible refine (impl_visitOrder.calls k2 a0_0 _ _ l0_1 a0_2 t168 _ ?side1 ?side2 A58.out).mono ?_);(case side1=>exact zj_);(case side2=>exact HC0_1.out);rintro e w61 ⟨v169,rfl,ho0,hb⟩;have n_:=z (Kd.R_lower ho0 (below_size zbc_))<|z (blk_below (zb BK162.out) hb)<|z1 (below_step zbc_ hb);clear BK162 HB;obtain ⟨HO170,BK162,HB⟩:=n_;clear hb;(try clear ho0);obtain ⟨Ao62,co62,eo62⟩:=Kd.R_slice HO170.out;subst eo62;obtain ⟨hcz63_0,hcz63_1,hcz63_2,hfz63_0,hfz63_1,hfz63_2⟩:=zk3 BK162.out)))
        go_loopg [101] k2 (fun kq v101 w' => ∃ (x101_3:Int),v101 = .int .i64 x101_3∧Aside0 (impl_IsDiagram.l2 kq t168 (t168.length:Int) x101_3=some r)∧Aside0 (kq≤k2)∧Aside0 (Kd.R (Kd.int .i64) 3 w' w.heap.size (fun _=>True) (.slice Ao62 t168.length co62) t168)∧Aside0 (w'.heap[gb162]?=some (.cells #[.int .i64 a0_0,(.slice A0_1 l0_1.length c0_1),.int .i64 a0_2] 28 (0,0)))∧Aside0 (Below w.heap.size w w'))
        case atStart=>exact ⟨(0),zd_,H',⟨Nat.le_refl _⟩,⟨zr HO170.out⟩,⟨zb BK162.out⟩,⟨zbc_⟩⟩
        case round =>
         clear H';(try clear c15b0);(try clear c59b0);(try clear c59b1);(try clear c59b2);(try clear hcz60_0);(try clear hcz60_1);(try clear hcz60_2);(try clear hcz63_0);(try clear hcz63_1);(try clear hcz63_2);(try clear hfz60_0);(try clear hfz60_1);(try clear hfz60_2);(try clear hfz63_0);(try clear hfz63_1);(try clear hfz63_2);obtain ⟨x101_3,rfl,HA,HK3,HO_99,BK162,HB⟩:=hrel
         cases gk with
         | zero=>exact absurd HA.out (by simp [impl_IsDiagram.l2])
         | succ k3 =>
          have H:=HA.out;clear HA
          simp only [impl_IsDiagram.l2] at H
          by_cases c64:x101_3<(t168.length:Int)
          ·rw [if_pos c64] at H
           have c64b0:=decide_eq_true c64;clear c64
           by_cases c65:0≤x101_3
           ·rw [if_pos c65] at H
            have c65b0:=decide_eq_true c65;clear c65
            by_cases c66:x101_3<(t168.length:Int)
            ·rw [if_pos c66] at H
             have c66b0:=decide_eq_true c66;clear c66
             by_cases c67:x101_3=(rd t168 x101_3)
             ·rw [if_pos c67] at H
              have c67b0:=beq_iff_eq.mpr c67;have c67b1:=bne_eq_false_iff_eq.mpr c67;clear c67;have H':=aM H;clear H;have p171:0≤(x101_3:Int):=of_decide_eq_true zc_;have q171:x101_3<(t168.length:Int):=of_decide_eq_true zc_;obtain ⟨ad171,e171,hx171_0⟩:=Kd.at_int (Kd.R_reads' HO_99.out).2.2 x101_3 p171 q171
              cases e171
              replace p171:=eq_true p171;replace q171:=eq_true q171
              go_wp2
              repeat (go_quiet (fail);try go_wp2)
              go_roundg k3
              case measure=>have:=HJ1.out;have:=HK2.out;have:=HK3.out;omega
              case rel=>exact ⟨(wrap64 (x101_3+1)),zd_,H',⟨by have:=HJ1.out;have:=HK2.out;have:=HK3.out;omega⟩,⟨zr HO_99.out⟩,⟨zb BK162.out⟩,⟨zbc_⟩⟩
             ·rw [if_neg c67] at H
              have c67b0:=beq_eq_false_iff_ne.mpr c67;have c67b1:=bne_iff_ne.mpr c67;obtain rfl:=Option.some.inj H;have p171:0≤(x101_3:Int):=of_decide_eq_true zc_;have q171:x101_3<(t168.length:Int):=of_decide_eq_true zc_;obtain ⟨ad171,e171,hx171_0⟩:=Kd.at_int (Kd.R_reads' HO_99.out).2.2 x101_3 p171 q171
              cases e171
              replace p171:=eq_true p171;replace q171:=eq_true q171
              go_wp2
              repeat (go_quiet (fail);try go_wp2)
              go_ret
              exact ⟨zg_,zbc_⟩
            ·rw [if_neg c66] at H
             exact q3n_ H
           ·rw [if_neg c65] at H
            exact q3n_ H
          ·rw [if_neg c64] at H
           have c64b0:=decide_eq_false c64;clear c64;obtain rfl:=Option.some.inj H
           go_wp2
           repeat (go_quiet (fail);try go_wp2)
           go_ret
           exact ⟨zg_,zbc_⟩
       ·rw [if_neg c59] at H
        have c59b0:=beq_eq_false_iff_ne.mpr c59;have c59b1:=bne_iff_ne.mpr c59;have c59b2:(t168.length == l0_1.length)=false:=by first | simpa using c59 | (simp at c59 ⊢;omega)
        obtain rfl:=Option.some.inj H;obtain ⟨hcz68_0,hcz68_1,hcz68_2,hfz68_0,hfz68_1,hfz68_2⟩:=zk3 BK162.out
        go_wp2_with (first | (go_at_call 72;(with_reducible refine (impl_visitOrder.calls k2 a0_0 _ _ l0_1 a0_2 t168 _ ?side1 ?side2 A58.out).mono ?_);(case side1=>exact zj_);(case side2=>exact HC0_1.out);rintro e w69 ⟨v169,rfl,ho0,hb⟩;have n_:=z (Kd.R_lower ho0 (below_size zbc_))<|z (blk_below (zb BK162.out) hb)<|z1 (below_step zbc_ hb);clear BK162 HB;obtain ⟨HO170,BK162,HB⟩:=n_;clear hb;(try clear ho0);obtain ⟨Ao70,co70,eo70⟩:=Kd.R_slice HO170.out;subst eo70;obtain ⟨hcz71_0,hcz71_1,hcz71_2,hfz71_0,hfz71_1,hfz71_2⟩:=zk3 BK162.out))
        repeat (go_quiet (first | (go_at_call 72;(with_reducible refine (impl_visitOrder.calls k2 a0_0 _ _ l0_1 a0_2 t168 _ ?side1 ?side2 A58.out).mono ?_);(case side1=>exact zj_);(case side2=>exact HC0_1.out);rintro e w69 ⟨v169,rfl,ho0,hb⟩;have n_:=z (Kd.R_lower ho0 (below_size zbc_))<|z (blk_below (zb BK162.out) hb)<|z1 (below_step zbc_ hb);clear BK162 HB;obtain ⟨HO170,BK162,HB⟩:=n_;clear hb;(try clear ho0);obtain ⟨Ao70,co70,eo70⟩:=Kd.R_slice HO170.out;subst eo70;obtain ⟨hcz71_0,hcz71_1,hcz71_2,hfz71_0,hfz71_1,hfz71_2⟩:=zk3 BK162.out));try go_wp2_with (first | (go_at_call 72;(with_reducible refine (impl_visitOrder.calls k2 a0_0 _ _ l0_1 a0_2 t168 _ ?side1 ?side2 A58.out).mono ?_);(case side1=>exact zj_);(case side2=>exact HC0_1.out);rintro e w69 ⟨v169,rfl,ho0,hb⟩;have n_:=z (Kd.R_lower ho0 (below_size zbc_))<|z (blk_below (zb BK162.out) hb)<|z1 (below_step zbc_ hb);clear BK162 HB;obtain ⟨HO170,BK162,HB⟩:=n_;clear hb;(try clear ho0);obtain ⟨Ao70,co70,eo70⟩:=Kd.R_slice HO170.out;subst eo70;obtain ⟨hcz71_0,hcz71_1,hcz71_2,hfz71_0,hfz71_1,hfz71_2⟩:=zk3 BK162.out)))
        go_ret
        exact ⟨zg_,zbc_⟩
def impl_diagramValue.l0:Nat→List Int→Int→Int→List (S93)→Int→Option (Int)
 | 0,_,_,_,_,_=>none
 | k+1,x1,x5,x173000,x173001,x173002=>if x5>1 then (if 0≤(wrap64 (x5 - 2)) then (if (wrap64 (x5 - 2))<(x173001.length:Int) then (if 0≤((rd_T93 x173001 (wrap64 (x5 - 2))).f0) then (if ((rd_T93 x173001 (wrap64 (x5 - 2))).f0)<(x1.length:Int) then (if (rd x1 ((rd_T93 x173001 (wrap64 (x5 - 2))).f0))=1 then (impl_diagramValue.l0 k x1 ((rd_T93 x173001 (wrap64 (x5 - 2))).f2) x173000 x173001 x173002) else (impl_diagramValue.l0 k x1 ((rd_T93 x173001 (wrap64 (x5 - 2))).f1) x173000 x173001 x173002)) else (none)) else (none)) else (none)) else (none)) else (some x5)
def impl_diagramValue.f (k:Nat) (a0_0:Int) (l0_1:List (S93)) (a0_2:Int) (l1:List Int):Option (Int):=impl_diagramValue.l0 k l1 a0_2 a0_0 l0_1 a0_2
theorem impl_diagramValue.calls (k:Nat) (a0_0:Int) (A0_1:Option Addr) (c0_1:Nat) (l0_1:List (S93)) (a0_2:Int) (A1:Option Addr) (c1:Nat) (l1:List Int) (r:Int) (w:World) (hr0_1:Kd.C k93 w A0_1 l0_1.length l0_1) (hc0_1:l0_1.length≤c0_1) (hr1:Kd.C (Kd.int .i64) w A1 l1.length l1) (hc1:l1.length≤c1) (h:impl_diagramValue.f k a0_0 l0_1 a0_2 l1=some r) :
  Calls Try.prog 107 #[.agg #[.int .i64 a0_0,.slice A0_1 l0_1.length c0_1,.int .i64 a0_2],.slice A1 l1.length c1] w fun e w'=>e = .returned (.int .i64 r)∧Below w.heap.size w w':=by
 have hu28:=Try.underlying28
 have hu93:=Try.underlying93
 have HR0_1:=aM hr0_1
 have HC0_1:=aM hc0_1
 clear hr0_1 hc0_1
 have HR1:=aM hr1
 have HC1:=aM hc1
 clear hr1 hc1
 have HB:=aM (Below.refl w.heap.size w)
 have H:(impl_diagramValue.l0 k l1 a0_2 a0_0 l0_1 a0_2)=some r:=h
 clear h
 have H':=aM H
 clear H
 go_enter Try.func107,Try.ntmps107
 go_wp2_with (first | ((with_reducible refine gate_dst (N:=2) rfl ?_);refine box_event ?hg (N:=2) ?hd (cs:=#[.int .i64 a0_0,.slice A0_1 l0_1.length c0_1,.int .i64 a0_2]) (t:=28) ?hr ?_;(case hd=>rfl);(case hg=>rfl);(case hr=>exact za_);intro gb172 hg w3 hbox hb;have n_:=z (below_step zb_ hb)<|z (hbox)<|z ((by rw [hg];exact (below_size zb_):w.heap.size≤gb172))<|z1 ((by rw [hg];exact (below_size zb_):w.heap.size≤gb172));clear HB;obtain ⟨HB,BK172,GW172,GE172⟩:=n_;clear hb hbox hg;obtain ⟨hcz4_0,hcz4_1,hcz4_2,hfz4_0,hfz4_1,hfz4_2⟩:=zk3 BK172.out))
 go_loopg [5] k (fun kq v5 w' => ∃ (x5_1:Int),v5 = .int .i64 x5_1∧Aside0 (impl_diagramValue.l0 kq l1 x5_1 a0_0 l0_1 a0_2=some r)∧Aside0 (kq≤k)∧Aside0 (w'.heap[gb172]?=some (.cells #[.int .i64 a0_0,(.slice A0_1 l0_1.length c0_1),.int .i64 a0_2] 28 (0,0)))∧Aside0 (Below w.heap.size w w'))
 case atStart=>exact ⟨(a0_2),zd_,H',⟨Nat.le_refl _⟩,⟨zb BK172.out⟩,⟨zej_⟩⟩
 case round =>
  clear H';(try clear hcz4_0);(try clear hcz4_1);(try clear hcz4_2);(try clear hfz4_0);(try clear hfz4_1);(try clear hfz4_2);obtain ⟨x5_1,rfl,HA,HK1,BK172,HB⟩:=hrel
  cases gk with
  | zero=>exact absurd HA.out (by simp [impl_diagramValue.l0])
  | succ k1 =>
   have H:=HA.out;clear HA
   simp only [impl_diagramValue.l0] at H
   by_cases c5:x5_1>1
   ·rw [if_pos c5] at H
    have c5b0:decide (1<x5_1)=true:=decide_eq_true c5;clear c5;obtain ⟨ji6,hji6⟩:∃ j_:Int,(wrap64 (x5_1 - 2))=j_:=⟨_,rfl⟩;replace H:(if 0≤(ji6) then (if (ji6)<(l0_1.length:Int) then (if 0≤((rd_T93 l0_1 (ji6)).f0) then (if ((rd_T93 l0_1 (ji6)).f0)<(l1.length:Int) then (if (rd l1 ((rd_T93 l0_1 (ji6)).f0))=1 then (impl_diagramValue.l0 k1 l1 ((rd_T93 l0_1 (ji6)).f2) a0_0 l0_1 a0_2) else (impl_diagramValue.l0 k1 l1 ((rd_T93 l0_1 (ji6)).f1) a0_0 l0_1 a0_2)) else (none)) else (none)) else (none)) else (none))=some r:=by first | (rw [hji6] at H;exact H)|(simp only [hji6] at H ⊢;exact H)
    have hji6w:(IntKind.i64.wrap (x5_1 - 2))=ji6:=(i64_w _).trans hji6
    by_cases c7:0≤(ji6)
    ·rw [if_pos c7] at H
     have c7b0:=decide_eq_true c7;clear c7
     by_cases c8:(ji6)<(l0_1.length:Int)
     ·rw [if_pos c8] at H
      have c8b0:=decide_eq_true c8;clear c8
      by_cases c9:0≤((rd_T93 l0_1 (ji6)).f0)
      ·rw [if_pos c9] at H
       have c9b0:=decide_eq_true c9;clear c9
       by_cases c10:((rd_T93 l0_1 (ji6)).f0)<(l1.length:Int)
       ·rw [if_pos c10] at H
        have c10b0:=decide_eq_true c10;clear c10
        by_cases c11:(rd l1 ((rd_T93 l0_1 (ji6)).f0))=1
        ·rw [if_pos c11] at H
         have c11b0:=beq_iff_eq.mpr c11;have c11b1:=bne_eq_false_iff_eq.mpr c11;clear c11;have H':=aM H;clear H;obtain ⟨hcz12_0,hcz12_1,hcz12_2,hfz12_0,hfz12_1,hfz12_2⟩:=zk3 BK172.out;have p173:0≤((ji6):Int):=of_decide_eq_true zc_;have q173:(ji6)<(l0_1.length:Int):=of_decide_eq_true zc_;obtain ⟨ad173,e173,hx173_0,hx173_1,hx173_2⟩:=at_T93 HR0_1.out (ji6) p173 q173
         cases e173
         (try (replace hx173_0:=q3h_ HB.out hx173_0));(try (replace hx173_1:=q3h_ HB.out hx173_1));(try (replace hx173_2:=q3h_ HB.out hx173_2));replace p173:=eq_true p173;replace q173:=eq_true q173
         go_wp2_with (first | ((with_reducible refine gate_dst (N:=6) rfl ?_);refine box_event ?hg (N:=6) ?hd (cs:=#[.int .i64 0,.int .i64 0,.int .i64 0]) (t:=93) ?hr ?_;(case hd=>rfl);(case hg=>rfl);(case hr=>exact za_);intro gb174 hg w13 hbox hb;have n_:=z (blk_below (zb BK172.out) hb)<|z (below_step zej_ hb)<|z (hbox)<|z ((by rw [hg];exact (below_size zej_):w.heap.size≤gb174))<|z ((by rw [hg];exact (below_size zej_):w.heap.size≤gb174))<|z ((by rw [hg];exact Nat.ne_of_lt (blk_lt (zb BK172.out)):gb172≠gb174))<|z1 ((by rw [hg];exact Nat.ne_of_gt (blk_lt (zb BK172.out)):gb174≠gb172));clear BK172 HB;obtain ⟨BK172,HB,BK174,GW174,GE174,NB172_174,NB174_172⟩:=n_;clear hb hbox hg;have hnb14:=NB174_172.out;have hnc14:=NB172_174.out;obtain ⟨hcz15_0,hcz15_1,hcz15_2,hfz15_0,hfz15_1,hfz15_2⟩:=zk3 BK174.out;have p175:0≤(((rd_T93 l0_1 (ji6)).f0):Int):=of_decide_eq_true zc_;have q175:((rd_T93 l0_1 (ji6)).f0)<(l1.length:Int):=of_decide_eq_true zc_;obtain ⟨ad175,e175,hx175_0⟩:=Kd.at_int HR1.out ((rd_T93 l0_1 (ji6)).f0) p175 q175;cases e175;have hn175_0:ad175.block≠gb174:=Nat.ne_of_lt (Nat.lt_of_lt_of_le zgc_ GW174.out);have hn175_1:ad175.block≠gb174:=Nat.ne_of_lt (Nat.lt_of_lt_of_le zgc_ GW174.out);have hn175_2:ad175.block≠gb174:=Nat.ne_of_lt (Nat.lt_of_lt_of_le zgc_ GW174.out);replace hx175_0:=(HB.out.cell (World.block_lt_of_cell? w _ hx175_0)).trans hx175_0;replace hx175_0:=(cell_far (p:=⟨gb174,0,none⟩) (by first | (rw [add_block];exact hn175_0)|(show (Addr.add _ _).block≠_;rw [add_block];exact hn175_0) | exact hn175_0) (.int .i64 ((rd_T93 l0_1 (ji6)).f0))).trans hx175_0;replace hx175_0:=(cell_far (p:=⟨gb174,1,none⟩) (by first | (rw [add_block];exact hn175_1)|(show (Addr.add _ _).block≠_;rw [add_block];exact hn175_1) | exact hn175_1) (.int .i64 ((rd_T93 l0_1 (ji6)).f1))).trans hx175_0;replace hx175_0:=(cell_far (p:=⟨gb174,2,none⟩) (by first | (rw [add_block];exact hn175_2)|(show (Addr.add _ _).block≠_;rw [add_block];exact hn175_2) | exact hn175_2) (.int .i64 ((rd_T93 l0_1 (ji6)).f2))).trans hx175_0;clear hn175_0 hn175_1 hn175_2;replace p175:=eq_true p175;replace q175:=eq_true q175))
         go_roundg k1
         case measure=>have:=HK1.out;omega
         case rel=>exact ⟨((rd_T93 l0_1 (ji6)).f2),zid_,H',⟨zci_⟩,⟨by refine zb ?_;refine blk_far ?_ NB172_174.out _;refine zb ?_;refine blk_far ?_ NB172_174.out _;refine zb ?_;refine blk_far ?_ NB172_174.out _;refine zb ?_;exact BK172.out⟩,⟨by repeat (first | (with_reducible first | exact HB.out | apply pA | apply pN | apply p1 | refine below_set ?_ GE172.out | refine below_set ?_ GE174.out) | exact HB.out)⟩⟩
        ·rw [if_neg c11] at H
         have c11b0:=beq_eq_false_iff_ne.mpr c11;have c11b1:=bne_iff_ne.mpr c11;have H':=aM H;clear H;obtain ⟨hcz16_0,hcz16_1,hcz16_2,hfz16_0,hfz16_1,hfz16_2⟩:=zk3 BK172.out;have p173:0≤((ji6):Int):=of_decide_eq_true zc_;have q173:(ji6)<(l0_1.length:Int):=of_decide_eq_true zc_;obtain ⟨ad173,e173,hx173_0,hx173_1,hx173_2⟩:=at_T93 HR0_1.out (ji6) p173 q173
         cases e173
         (try (replace hx173_0:=q3h_ HB.out hx173_0));(try (replace hx173_1:=q3h_ HB.out hx173_1));(try (replace hx173_2:=q3h_ HB.out hx173_2));replace p173:=eq_true p173;replace q173:=eq_true q173
         go_wp2_with (first | ((with_reducible refine gate_dst (N:=6) rfl ?_);refine box_event ?hg (N:=6) ?hd (cs:=#[.int .i64 0,.int .i64 0,.int .i64 0]) (t:=93) ?hr ?_;(case hd=>rfl);(case hg=>rfl);(case hr=>exact za_);intro gb174 hg w17 hbox hb;have n_:=z (blk_below (zb BK172.out) hb)<|z (below_step zej_ hb)<|z (hbox)<|z ((by rw [hg];exact (below_size zej_):w.heap.size≤gb174))<|z ((by rw [hg];exact (below_size zej_):w.heap.size≤gb174))<|z ((by rw [hg];exact Nat.ne_of_lt (blk_lt (zb BK172.out)):gb172≠gb174))<|z1 ((by rw [hg];exact Nat.ne_of_gt (blk_lt (zb BK172.out)):gb174≠gb172));clear BK172 HB;obtain ⟨BK172,HB,BK174,GW174,GE174,NB172_174,NB174_172⟩:=n_;clear hb hbox hg;have hnb18:=NB174_172.out;have hnc18:=NB172_174.out;obtain ⟨hcz19_0,hcz19_1,hcz19_2,hfz19_0,hfz19_1,hfz19_2⟩:=zk3 BK174.out;have p175:0≤(((rd_T93 l0_1 (ji6)).f0):Int):=of_decide_eq_true zc_;have q175:((rd_T93 l0_1 (ji6)).f0)<(l1.length:Int):=of_decide_eq_true zc_;obtain ⟨ad175,e175,hx175_0⟩:=Kd.at_int HR1.out ((rd_T93 l0_1 (ji6)).f0) p175 q175;cases e175;have hn175_0:ad175.block≠gb174:=Nat.ne_of_lt (Nat.lt_of_lt_of_le zgc_ GW174.out);have hn175_1:ad175.block≠gb174:=Nat.ne_of_lt (Nat.lt_of_lt_of_le zgc_ GW174.out);have hn175_2:ad175.block≠gb174:=Nat.ne_of_lt (Nat.lt_of_lt_of_le zgc_ GW174.out);replace hx175_0:=(HB.out.cell (World.block_lt_of_cell? w _ hx175_0)).trans hx175_0;replace hx175_0:=(cell_far (p:=⟨gb174,0,none⟩) (by first | (rw [add_block];exact hn175_0)|(show (Addr.add _ _).block≠_;rw [add_block];exact hn175_0) | exact hn175_0) (.int .i64 ((rd_T93 l0_1 (ji6)).f0))).trans hx175_0;replace hx175_0:=(cell_far (p:=⟨gb174,1,none⟩) (by first | (rw [add_block];exact hn175_1)|(show (Addr.add _ _).block≠_;rw [add_block];exact hn175_1) | exact hn175_1) (.int .i64 ((rd_T93 l0_1 (ji6)).f1))).trans hx175_0;replace hx175_0:=(cell_far (p:=⟨gb174,2,none⟩) (by first | (rw [add_block];exact hn175_2)|(show (Addr.add _ _).block≠_;rw [add_block];exact hn175_2) | exact hn175_2) (.int .i64 ((rd_T93 l0_1 (ji6)).f2))).trans hx175_0;clear hn175_0 hn175_1 hn175_2;replace p175:=eq_true p175;replace q175:=eq_true q175))
         go_roundg k1
         case measure=>have:=HK1.out;omega
         case rel=>exact ⟨((rd_T93 l0_1 (ji6)).f1),zid_,H',⟨zci_⟩,⟨by refine zb ?_;refine blk_far ?_ NB172_174.out _;refine zb ?_;refine blk_far ?_ NB172_174.out _;refine zb ?_;refine blk_far ?_ NB172_174.out _;refine zb ?_;exact BK172.out⟩,⟨by repeat (first | (with_reducible first | exact HB.out | apply pA | apply pN | apply p1 | refine below_set ?_ GE172.out | refine below_set ?_ GE174.out) | exact HB.out)⟩⟩
       ·rw [if_neg c10] at H
        exact q3n_ H
      ·rw [if_neg c9] at H
       exact q3n_ H
     ·rw [if_neg c8] at H
      exact q3n_ H
    ·rw [if_neg c7] at H
     exact q3n_ H
   ·rw [if_neg c5] at H
    have c5b0:decide (1<x5_1)=false:=decide_eq_false c5;clear c5;obtain rfl:=Option.some.inj H
    go_wp2
    go_ret
    exact ⟨zg_,zej_⟩
def impl_bitList.l0:Nat→Int→List Int→Int→Int→Option (List Int)
 | 0,_,_,_,_=>none
 | k+1,x0,x5,x10,x11=>if x11<x10 then (if 0≤x11 then (if x11<(x5.length:Int) then (impl_bitList.l0 k x0 (x5.set (x11:Int).toNat (Go.bits .and .i64 (shr .i64 x0 x11) 1)) x10 (wrap64 (x11+1))) else (none)) else (none)) else (some x5)
def impl_bitList.f (k:Nat) (a0:Int) (a1:Int):Option (List Int):=if 0≤a1 then (if (a1:Int).toNat≤35184372088832 then ((some (List.replicate (a1:Int).toNat 0:List Int)).bind fun y176=>(impl_bitList.l0 k a0 y176 (y176.length:Int) 0)) else (none)) else (none)
theorem impl_bitList.calls (k:Nat) (a0:Int) (a1:Int) (r:List Int) (w:World) (h:impl_bitList.f k a0 a1=some r) :
  Calls Try.prog 108 #[.int .i64 a0,.int .i64 a1] w fun e w' => ∃ v0_:Value,e = .returned (v0_)∧Kd.R (Kd.int .i64) 3 w' w.heap.size (fun _=>True) v0_ r∧Below w.heap.size w w':=by
 have HB:=aM (Below.refl w.heap.size w)
 have H:(if 0≤a1 then (if (a1:Int).toNat≤35184372088832 then ((some (List.replicate (a1:Int).toNat 0:List Int)).bind fun y176=>(impl_bitList.l0 k a0 y176 (y176.length:Int) 0)) else (none)) else (none))=some r:=h
 clear h
 by_cases c3:0≤a1
 ·rw [if_pos c3] at H
  have c3b0:=eq_true c3;have c3b1:=decide_eq_true c3;clear c3
  by_cases c4:(a1:Int).toNat≤35184372088832
  ·rw [if_pos c4] at H
   have c4b0:=eq_true c4;have c4b1:=decide_eq_true c4;clear c4;obtain ⟨y176,hy176⟩:∃ y_:List Int,y_=(List.replicate (a1:Int).toNat 0):=⟨_,rfl⟩;replace H:(impl_bitList.l0 k a0 y176 (y176.length:Int) 0)=some r:=q3y_ hy176 H
   have Ny176:=aM hy176;clear hy176;have H':=aM H;clear H
   go_enter Try.func108,Try.ntmps108
   go_wp2_with (first | ((with_reducible refine gate_dst (N:=8) rfl ?_);refine Kd.R_make (Kd.int .i64) _ 3 rfl (N:=8) rfl 39 _ _ rfl a1 rfl rfl Try.underlying39 (.int .i64 0) 8 info3 rfl (by decide) (by omega) 0 (ok:=fun _=>True) (okp:=fun _=>True) rfl (fun _ hk=>hk) trivial (of_decide_eq_true zc_) (Nat.le_trans (Nat.mul_le_mul_right _ (of_decide_eq_true zc_:a1.toNat≤35184372088832)) (by omega)) (Below.refl _ _) (Nat.le_refl _) ?_;intro v177 w5 ho6 hb hg_ hnew_;clear hg_ hnew_;(first | rw [← Ny176.out] at ho6 | (simp only [Int.reduceToNat] at ho6;rw [← Ny176.out] at ho6));have n_:=z (Kd.R_lower ho6 (below_size zb_))<|z1 (below_step zb_ hb);clear HB;obtain ⟨HO178,HB⟩:=n_;clear hb ho6;obtain ⟨Ao7,co7,eo7⟩:=Kd.R_slice HO178.out;subst eo7))
   go_loopg [11] k (fun kq v11 w' => ∃ (x5_1:List Int) (x11_1:Int),v11 = .int .i64 x11_1∧Aside0 (impl_bitList.l0 kq a0 x5_1 (y176.length:Int) x11_1=some r)∧Aside0 (kq≤k)∧Aside0 (Kd.R (Kd.int .i64) 3 w' w.heap.size (fun _=>True) (.slice Ao7 y176.length co7) x5_1)∧Aside0 (Below w.heap.size w w'))
   case atStart=>exact ⟨(y176),(0),zd_,H',⟨Nat.le_refl _⟩,⟨zr HO178.out⟩,⟨zb_⟩⟩
   case round =>
    clear H';(try clear c3b0);(try clear c3b1);(try clear c4b0);(try clear c4b1);obtain ⟨x5_1,x11_1,rfl,HA,HK1,HO_5,HB⟩:=hrel;have hl5_1:=(Kd.R_reads' HO_5.out).1;rw [hl5_1] at HO_5;(try simp only [hl5_1])
    cases gk with
    | zero=>exact absurd HA.out (by simp [impl_bitList.l0])
    | succ k1 =>
     have H:=HA.out;clear HA
     simp only [impl_bitList.l0] at H
     by_cases c8:x11_1<(y176.length:Int)
     ·rw [if_pos c8] at H
      have c8b0:=decide_eq_true c8;(try (have c8z0:=c8b0;rw [hl5_1] at c8z0));clear c8
      by_cases c9:0≤x11_1
      ·rw [if_pos c9] at H
       have c9b0:=eq_true c9;have c9b1:=decide_eq_true c9;clear c9;obtain ⟨ji10,hji10⟩:∃ j_:Int,(shr .i64 a0 x11_1)=j_:=⟨_,rfl⟩;replace H:(if x11_1<(x5_1.length:Int) then (impl_bitList.l0 k1 a0 (x5_1.set (x11_1:Int).toNat (Go.bits .and .i64 (ji10) 1)) (y176.length:Int) (wrap64 (x11_1+1))) else (none))=some r:=by first | (rw [hji10] at H;exact H)|(simp only [hji10] at H ⊢;exact H)
       have hji10_:(a0 / 2 ^ min x11_1.toNat 64)=ji10:=hji10;have hji10z:x11_1≤64→(a0 / 2 ^ x11_1.toNat)=ji10:=shr_small hji10
       by_cases c11:x11_1<(x5_1.length:Int)
       ·rw [if_pos c11] at H
        have c11b0:=decide_eq_true c11;(try (have c11z0:=c11b0;rw [hl5_1] at c11z0));clear c11;obtain ⟨y179,hy179⟩:∃ y_:List Int,y_=(x5_1.set (x11_1:Int).toNat (Go.bits .and .i64 (ji10) 1)):=⟨_,rfl⟩;replace H:(impl_bitList.l0 k1 a0 y179 (y176.length:Int) (wrap64 (x11_1+1)))=some r:=q3y_ hy179 H
        have Ny179:=aM hy179;clear hy179;have H':=aM H;clear H;have p12:0≤(x11_1:Int):=of_decide_eq_true zc_;have q12:(x11_1:Int)<((x5_1.length:Int):Int):=of_decide_eq_true zc_;obtain ⟨go12,co12,eo12,gb12,gl12,cl12,HG12⟩:=Kd.R_form HO_5.out (by omega);(first | cases eo12 | (injection eo12 with ea_ en_ ec_;(first | subst ea_ | (injection ea_ with ea_;subst ea_));subst ec_;clear en_));have GB12:=aM gb12;have GG12:=aM HG12;clear gb12 gl12 HG12;obtain ⟨hx12_0,hf12_0⟩:=Kd.R_celln 0 HO_5.out (x11_1:Int) p12 q12;replace p12:=eq_true p12;replace q12:=eq_true q12;have HP13:=Kd.R_putg HO_5.out (x11_1:Int) (Go.bits .and .i64 (ji10) 1)
        go_wp2_with (first | ((with_reducible refine gate_store (t:=3) (p:=20) rfl ?_);refine store_event (t:=3) (p:=20) (v:=?vo_w14) (w1:=(wr.setCell ⟨go12,(x11_1:Int).toNat,none⟩ (.int .i64 (Go.bits .and .i64 (ji10) 1)))) ?hg ?ho ?hn ?hr ?_;(case ho=>rfl);(case hg=>rfl);(case hn=>rfl);(case hr=>exact za_);intro w14 hw;have hg:wr.grownBy w14 (some go12):=(by rw [hw];exact HP13.2);have hp_:Kd.R (Kd.int .i64) 3 w14 w.heap.size (fun _=>True) (.slice (some ⟨go12,0,none⟩) x5_1.length co7) y179:=(by rw [hw,Ny179.out];exact HP13.1);clear HP13;have n_:=z (hp_)<|z1 ((by rw [hw];exact below_set (HB.out) GB12.out:Below w.heap.size w w14));clear HO_5 HB;obtain ⟨HO_5,HB⟩:=n_;clear hg hw hp_))
        (try simp only [← hl5_1])
        go_roundg k1
        case measure=>have:=HK1.out;omega
        case rel=>exact ⟨(y179),(wrap64 (x11_1+1)),zd_,H',⟨zci_⟩,⟨by (try simp only [hl5_1]);refine zr ?_;exact HO_5.out⟩,⟨zb_⟩⟩
       ·rw [if_neg c11] at H
        exact q3n_ H
      ·rw [if_neg c9] at H
       exact q3n_ H
     ·rw [if_neg c8] at H
      have c8b0:=decide_eq_false c8;(try (have c8z0:=c8b0;rw [hl5_1] at c8z0));clear c8;obtain rfl:=Option.some.inj H
      go_wp2
      go_ret
      exact ⟨_,zg_,by refine zr ?_;exact HO_5.out,zb_⟩
  ·rw [if_neg c4] at H
   exact q3n_ H
 ·rw [if_neg c3] at H
  exact q3n_ H
def impl_tableOfDiagram.l0:Nat→Int→Int→Int→List (S93)→Int→Int→List Int→Option (Int×List Int)
 | 0,_,_,_,_,_,_,_=>none
 | k+1,x14,x15,x181000,x181001,x181002,x186000,x186001=>if x15<x14 then ((impl_bitList.f k x15 x181000).bind fun t186=>((impl_diagramValue.f k x181000 x181001 x181002 t186).bind fun t189=>(if 0≤x15 then (if x15<(x186001.length:Int) then (impl_tableOfDiagram.l0 k x14 (wrap64 (x15+1)) x181000 x181001 x181002 x186000 (x186001.set (x15:Int).toNat t189)) else (none)) else (none)))) else (some (x186000,x186001))
def impl_tableOfDiagram.f (k:Nat) (a0_0:Int) (l0_1:List (S93)) (a0_2:Int):Option (Int×List Int):=if 0≤a0_0 then (if 0≤(shl .i64 1 a0_0) then (if (shl .i64 1 a0_0:Int).toNat≤35184372088832 then ((some (List.replicate (shl .i64 1 a0_0:Int).toNat 0:List Int)).bind fun y182=>(impl_tableOfDiagram.l0 k (y182.length:Int) 0 a0_0 l0_1 a0_2 a0_0 y182)) else (none)) else (none)) else (none)
def impl_tableOfDiagram.T1:Bool×List (List Nat×List Nat):=(true,[([],[]),([0],[0]),([],[]),([2],[2]),([3],[3]),([4,4],[4]),([1,5],[1,5]),([],[]),([7,6,0,1,2,3,4,5,6,7],[6,7])])
def impl_tableOfDiagram.B1:List Nat:=[0,1,0,4,12,28,63,0,255]
theorem impl_tableOfDiagram.tab1:rtab .any (opsOf Try.f56 1)=impl_tableOfDiagram.T1:=by kernel_rfl
theorem impl_tableOfDiagram.bits1:waitsOk impl_tableOfDiagram.T1.2 impl_tableOfDiagram.B1=true:=by kernel_rfl
def impl_tableOfDiagram.T5:Bool×List (List Nat×List Nat):=(true,[([],[]),([0],[0]),([],[]),([],[]),([],[]),([],[]),([5],[5]),([4,6],[4,6]),([3,7,7],[3,7]),([1,2,0,1,2,3,4,5,6,7,8],[1,2]),([9,8,8,0,1,2,3,4,5,6,7,8],[8,9])])
def impl_tableOfDiagram.B5:List Nat:=[0,1,0,0,0,0,32,112,248,511,1023]
theorem impl_tableOfDiagram.tab5:rtab .any (opsOf Try.f56 5)=impl_tableOfDiagram.T5:=by kernel_rfl
theorem impl_tableOfDiagram.bits5:waitsOk impl_tableOfDiagram.T5.2 impl_tableOfDiagram.B5=true:=by kernel_rfl
theorem impl_tableOfDiagram.calls (k:Nat) (a0_0:Int) (A0_1:Option Addr) (c0_1:Nat) (l0_1:List (S93)) (a0_2:Int) (r1:Int) (r2:List Int) (w:World) (hr0_1:Kd.C k93 w A0_1 l0_1.length l0_1) (hc0_1:l0_1.length≤c0_1) (h:impl_tableOfDiagram.f k a0_0 l0_1 a0_2=some (r1,r2)) :
  Calls Try.prog 56 #[.agg #[.int .i64 a0_0,.slice A0_1 l0_1.length c0_1,.int .i64 a0_2]] w fun e w' => ∃ v1_:Value,e = .returned (.agg #[.int .i64 r1,v1_])∧Kd.R (Kd.int .i64) 3 w' w.heap.size (fun _=>True) v1_ r2∧Below w.heap.size w w':=by
 have hu28:=Try.underlying28
 have hu41:=Try.underlying41
 have HR0_1:=aM hr0_1
 have HC0_1:=aM hc0_1
 clear hr0_1 hc0_1
 have HB:=aM (Below.refl w.heap.size w)
 have H:(if 0≤a0_0 then (if 0≤(shl .i64 1 a0_0) then (if (shl .i64 1 a0_0:Int).toNat≤35184372088832 then ((some (List.replicate (shl .i64 1 a0_0:Int).toNat 0:List Int)).bind fun y182=>(impl_tableOfDiagram.l0 k (y182.length:Int) 0 a0_0 l0_1 a0_2 a0_0 y182)) else (none)) else (none)) else (none))=some (r1,r2):=h
 clear h
 by_cases c2:0≤a0_0
 ·rw [if_pos c2] at H
  have c2b0:=eq_true c2;have c2b1:=decide_eq_true c2;clear c2;obtain ⟨ji3,hji3⟩:∃ j_:Int,(shl .i64 1 a0_0)=j_:=⟨_,rfl⟩;replace H:(if 0≤(ji3) then (if (ji3:Int).toNat≤35184372088832 then ((some (List.replicate (ji3:Int).toNat 0:List Int)).bind fun y182=>(impl_tableOfDiagram.l0 k (y182.length:Int) 0 a0_0 l0_1 a0_2 a0_0 y182)) else (none)) else (none))=some (r1,r2):=by first | (rw [hji3] at H;exact H)|(simp only [hji3] at H ⊢;exact H)
  have hji3_:(IntKind.i64.wrap (1 * 2 ^ min a0_0.toNat 64))=ji3:=hji3;have hji3z:a0_0≤64→(IntKind.i64.wrap (1 * 2 ^ a0_0.toNat))=ji3:=shl_small hji3;have hji3u:(IntKind.i64.wrap (2 ^ min a0_0.toNat 64))=ji3:=by have h_:=hji3_;rw [Int.one_mul] at h_;exact h_
  have hji3v:a0_0≤64→(IntKind.i64.wrap (2 ^ a0_0.toNat))=ji3:=fun hle_=>by have h_:=hji3z hle_;rw [Int.one_mul] at h_;exact h_
  have hji3y:(wrap64 (1 * 2 ^ min a0_0.toNat 64))=ji3:=(i64_w _).symm.trans hji3_;have hji3x:a0_0≤64→(wrap64 (1 * 2 ^ a0_0.toNat))=ji3:=fun h_=>(i64_w _).symm.trans (hji3z h_)
  by_cases c4:0≤(ji3)
  ·rw [if_pos c4] at H
   have c4b0:=eq_true c4;have c4b1:=decide_eq_true c4;clear c4
   by_cases c5:(ji3:Int).toNat≤35184372088832
   ·rw [if_pos c5] at H
    have c5b0:=eq_true c5;have c5b1:=decide_eq_true c5;clear c5;obtain ⟨y182,hy182⟩:∃ y_:List Int,y_=(List.replicate (ji3:Int).toNat 0):=⟨_,rfl⟩;replace H:(impl_tableOfDiagram.l0 k (y182.length:Int) 0 a0_0 l0_1 a0_2 a0_0 y182)=some (r1,r2):=q3y_ hy182 H
    have Ny182:=aM hy182;clear hy182;have H':=aM H;clear H
    go_enter Try.func56,Try.ntmps56
    (try go_wp2_with (first | ((with_reducible refine gate_dst (N:=1) rfl ?_);refine box_event ?hg (N:=1) ?hd (cs:=#[.int .i64 a0_0,.slice A0_1 l0_1.length c0_1,.int .i64 a0_2]) (t:=28) ?hr ?_;(case hd=>rfl);(case hg=>rfl);(case hr=>exact za_);intro gb180 hg w6 hbox hb;have n_:=z (below_step zb_ hb)<|z (hbox)<|z ((by rw [hg];exact (below_size zb_):w.heap.size≤gb180))<|z1 ((by rw [hg];exact (below_size zb_):w.heap.size≤gb180));clear HB;obtain ⟨HB,BK180,GW180,GE180⟩:=n_;clear hb hbox hg)|((with_reducible refine gate_dst (N:=2) rfl ?_);refine box_event ?hg (N:=2) ?hd (cs:=#[.int .i64 0,.slice none 0 0]) (t:=41) ?hr ?_;(case hd=>rfl);(case hg=>rfl);(case hr=>exact za_);intro gb181 hg w7 hbox hb;have n_:=z (blk_below (zb BK180.out) hb)<|z (below_step zji_ hb)<|z (hbox)<|z ((by rw [hg];exact (below_size zji_):w.heap.size≤gb181))<|z ((by rw [hg];exact (below_size zji_):w.heap.size≤gb181))<|z ((by rw [hg];exact Nat.ne_of_lt (blk_lt (zb BK180.out)):gb180≠gb181))<|z1 ((by rw [hg];exact Nat.ne_of_gt (blk_lt (zb BK180.out)):gb181≠gb180));clear BK180 HB;obtain ⟨BK180,HB,BK181,GW181,GE181,NB180_181,NB181_180⟩:=n_;clear hb hbox hg)));have n_:=z (blk_drew BK180.out)<|z (blk_drew BK181.out)<|z1 (p1 HB.out)
    clear BK180 BK181 HB;obtain ⟨BK180,BK181,HB⟩:=n_
    refine start_ (n:=9) (S:=fun w'=>w'.cell? ⟨gb180,0,none⟩=some (.int .i64 a0_0)∧w'.cell? ⟨gb180,1,none⟩=some (.slice A0_1 l0_1.length c0_1)∧w'.cell? ⟨gb180,2,none⟩=some (.int .i64 a0_2)) (ds:=[]) #[fi,fi,fi,fi,fi,fi,fi,fi,fi] (by kernel_rfl) rfl rfl ⟨(blk_cell BK180.out 0).trans rfl,(blk_cell BK180.out 1).trans rfl,(blk_cell BK180.out 2).trans rfl⟩ (fun hHeld=>?_);refine with_tabW impl_tableOfDiagram.tab1 impl_tableOfDiagram.bits1 (fun HT_ HW_=>?_)
    generalize w7.drew=w8 at BK180 BK181 HB hHeld ⊢;refine py_ 0 5 HT_.out ?_;refine py_ 2 7 HT_.out ?_
    refine tw3_ 1 6 HT_.out HW_.out hHeld ?_
    refine tw3_ 3 8 HT_.out HW_.out hHeld ?_
    refine py_ 4 9 HT_.out ?_
    refine join_ (σ:=Value×Nat) 1 #[ti,ti,ti,ti,ti,ti,ti,ti,fi] (fun s_ => [(10,s_.1),(3,.pointer (some ⟨s_.2,0,none⟩)),(11,.agg #[.int .i64 a0_0,s_.1])]) (fun s_ w'=>(w'.cell? ⟨gb180,0,none⟩=some (.int .i64 a0_0)∧w'.cell? ⟨gb180,1,none⟩=some (.slice A0_1 l0_1.length c0_1)∧w'.cell? ⟨gb180,2,none⟩=some (.int .i64 a0_2))∧(Kd.R (Kd.int .i64) 3 w' w.heap.size (fun _=>True) s_.1 y182)∧(w'.heap[gb180]?=some (.cells #[.int .i64 a0_0,.slice A0_1 l0_1.length c0_1,.int .i64 a0_2] 28 (0,0)))∧(w'.heap[gb181]?=some (.cells #[.int .i64 0,.slice none 0 0] 41 (0,0)))∧(w'.heap[s_.2]?=some (.cells #[.int .i64 0,.slice none 0 0] 41 (0,0)))∧(w.heap.size≤s_.2)∧(w.heap.size≤s_.2)∧(gb180≠s_.2)∧(s_.2≠gb180)∧(gb181≠s_.2)∧(s_.2≠gb181)∧(Below w.heap.size w w')) ?_ ?_
    rotate_left
    ·intro hCont
     refine two_ (i:=5) (j:=7) (Ni:=some 10) (Nj:=some 3) #[ti,ti,ti,ti,ti,ti,fi,fi,fi] #[ti,ti,ti,ti,ti,fi,fi,ti,fi] rfl rfl rfl rfl (two_of HT_.out (by kernel_rfl)) (by decide) (by decide) (fun K hK=>?_) (fun K hK=>?_)
     ·skip
      refine Kd.R_make_step (Kd.int .i64) _ 3 (by rfl) (N:=10) rfl 39 _ _ rfl ji3 rfl rfl Try.underlying39 (.int .i64 0) 8 info3 rfl (by decide) (by omega) 0 (ok:=fun _=>True) (okp:=fun _=>True) rfl (fun _ hk=>hk) trivial (of_decide_eq_true zc_) (Nat.le_trans (Nat.mul_le_mul_right _ (of_decide_eq_true zc_:ji3.toNat≤35184372088832)) (by omega)) (Below.refl _ _) (Nat.le_refl _) ?_
      intro v183 w9 ho10 hb hg_ hnew_
      clear hg_ hnew_;(first | rw [← Ny182.out] at ho10 | (simp only [Int.reduceToNat] at ho10;rw [← Ny182.out] at ho10));have n_:=z (Kd.R_lower ho10 (below_size zfa_))<|z (blk_below (zb BK180.out) hb)<|z (blk_below (zb BK181.out) hb)<|z1 (below_step zfa_ hb)
      clear BK180 BK181 HB;obtain ⟨HO184,BK180,BK181,HB⟩:=n_;clear hb ho10;obtain ⟨Ao11,co11,eo11⟩:=Kd.R_slice HO184.out;(first | subst eo11 | (injection eo11 with f1_ f2_ f3_;have f4_:=f1_.symm;have f5_:=f3_.symm;clear f1_ f2_ f3_;subst f4_;subst f5_))
      refine hK.out _ _ ⟨(blk_cell BK180.out 0).trans rfl,(blk_cell BK180.out 1).trans rfl,(blk_cell BK180.out 2).trans rfl⟩ (fun hHeld=>?_)
      clear hK K
      refine nz_ 10 ?_
      refine py_ 6 11 HT_.out ?_
      refine one_ (i:=7) (N:=some 3) #[ti,ti,ti,ti,ti,ti,ti,ti,fi] rfl rfl (one_of HT_.out (by kernel_rfl)) (by decide) (fun K hK=>?_)
      refine box_step ?hg (N:=3) ?hd (cs:=#[.int .i64 0,.slice none 0 0]) (t:=41) ?hr ?_;(case hd=>rfl);(case hg=>rfl);(case hr=>exact za_)
      intro gb185 hg w12 hbox hb
      have n_:=z (Kd.R_below (zr HO184.out) hb)<|z (blk_below (zb BK180.out) hb)<|z (blk_below (zb BK181.out) hb)<|z (below_step zfa_ hb)<|z (hbox)<|z ((by rw [hg];exact (below_size zfa_):w.heap.size≤gb185))<|z ((by rw [hg];exact (below_size zfa_):w.heap.size≤gb185))<|z ((by rw [hg];exact Nat.ne_of_lt (blk_lt (zb BK180.out)):gb180≠gb185))<|z ((by rw [hg];exact Nat.ne_of_gt (blk_lt (zb BK180.out)):gb185≠gb180))<|z ((by rw [hg];exact Nat.ne_of_lt (blk_lt (zb BK181.out)):gb181≠gb185))<|z1 ((by rw [hg];exact Nat.ne_of_gt (blk_lt (zb BK181.out)):gb185≠gb181))
      clear HO184 BK180 BK181 HB;obtain ⟨HO184,BK180,BK181,HB,BK185,GW185,GE185,NB180_185,NB185_180,NB181_185,NB185_181⟩:=n_;clear hb hbox hg
      refine hK.out _ _ ⟨(blk_cell BK180.out 0).trans rfl,(blk_cell BK180.out 1).trans rfl,(blk_cell BK180.out 2).trans rfl⟩ (fun hHeld=>?_)
      clear hK K
      refine nz_ 3 ?_
      exact norm_ (by simp only [putAll,Act.put,sI,s0,sS]) (hCont (.slice Ao11 y182.length co11,gb185) _ ⟨hHeld,(zr HO184.out),(zb BK180.out),(zb BK181.out),(zb BK185.out),GW185.out,GE185.out,NB180_185.out,NB185_180.out,NB181_185.out,NB185_181.out,zed_⟩)
     ·skip
      refine box_step ?hg (N:=3) ?hd (cs:=#[.int .i64 0,.slice none 0 0]) (t:=41) ?hr ?_;(case hd=>rfl);(case hg=>rfl);(case hr=>exact za_)
      intro gb185 hg w9 hbox hb
      have n_:=z (blk_below (zb BK180.out) hb)<|z (blk_below (zb BK181.out) hb)<|z (below_step zfa_ hb)<|z (hbox)<|z ((by rw [hg];exact (below_size zfa_):w.heap.size≤gb185))<|z ((by rw [hg];exact (below_size zfa_):w.heap.size≤gb185))<|z ((by rw [hg];exact Nat.ne_of_lt (blk_lt (zb BK180.out)):gb180≠gb185))<|z ((by rw [hg];exact Nat.ne_of_gt (blk_lt (zb BK180.out)):gb185≠gb180))<|z ((by rw [hg];exact Nat.ne_of_lt (blk_lt (zb BK181.out)):gb181≠gb185))<|z1 ((by rw [hg];exact Nat.ne_of_gt (blk_lt (zb BK181.out)):gb185≠gb181))
      clear BK180 BK181 HB;obtain ⟨BK180,BK181,HB,BK185,GW185,GE185,NB180_185,NB185_180,NB181_185,NB185_181⟩:=n_;clear hb hbox hg
      refine hK.out _ _ ⟨(blk_cell BK180.out 0).trans rfl,(blk_cell BK180.out 1).trans rfl,(blk_cell BK180.out 2).trans rfl⟩ (fun hHeld=>?_)
      clear hK K
      refine nz_ 3 ?_
      refine one_ (i:=5) (N:=some 10) #[ti,ti,ti,ti,ti,ti,fi,ti,fi] rfl rfl (one_of HT_.out (by kernel_rfl)) (by decide) (fun K hK=>?_)
      refine Kd.R_make_step (Kd.int .i64) _ 3 (by rfl) (N:=10) rfl 39 _ _ rfl ji3 rfl rfl Try.underlying39 (.int .i64 0) 8 info3 rfl (by decide) (by omega) 0 (ok:=fun _=>True) (okp:=fun _=>True) rfl (fun _ hk=>hk) trivial (of_decide_eq_true zc_) (Nat.le_trans (Nat.mul_le_mul_right _ (of_decide_eq_true zc_:ji3.toNat≤35184372088832)) (by omega)) (Below.refl _ _) (Nat.le_refl _) ?_
      intro v183 w10 ho11 hb hg_ hnew_
      clear hg_ hnew_;(first | rw [← Ny182.out] at ho11 | (simp only [Int.reduceToNat] at ho11;rw [← Ny182.out] at ho11));have n_:=z (Kd.R_lower ho11 (below_size zed_))<|z (blk_below (zb BK180.out) hb)<|z (blk_below (zb BK181.out) hb)<|z (blk_below (zb BK185.out) hb)<|z1 (below_step zed_ hb)
      clear BK180 BK181 BK185 HB;obtain ⟨HO184,BK180,BK181,BK185,HB⟩:=n_;clear hb ho11;obtain ⟨Ao12,co12,eo12⟩:=Kd.R_slice HO184.out;(first | subst eo12 | (injection eo12 with f1_ f2_ f3_;have f4_:=f1_.symm;have f5_:=f3_.symm;clear f1_ f2_ f3_;subst f4_;subst f5_))
      refine hK.out _ _ ⟨(blk_cell BK180.out 0).trans rfl,(blk_cell BK180.out 1).trans rfl,(blk_cell BK180.out 2).trans rfl⟩ (fun hHeld=>?_)
      clear hK K
      refine nz_ 10 ?_
      refine py_ 6 11 HT_.out ?_
      exact norm_ (by simp only [putAll,Act.put,sI,s0,sS]) (hCont (.slice Ao12 y182.length co12,gb185) _ ⟨hHeld,(zr HO184.out),(zb BK180.out),(zb BK181.out),(zb BK185.out),GW185.out,GE185.out,NB180_185.out,NB185_180.out,NB181_185.out,NB185_181.out,zed_⟩)
    rintro ⟨v183,gb185⟩ w13 ⟨hS_,h0_,h1_,h2_,h3_,h4_,h5_,h6_,h7_,h8_,h9_,h10_⟩
    have n0_:Aside0 (Kd.R (Kd.int .i64) 3 w13 w.heap.size (fun _=>True) v183 y182):=⟨h0_⟩;have n1_:Aside0 (w13.heap[gb180]?=some (.cells #[.int .i64 a0_0,.slice A0_1 l0_1.length c0_1,.int .i64 a0_2] 28 (0,0))):=⟨h1_⟩;have n2_:Aside0 (w13.heap[gb181]?=some (.cells #[.int .i64 0,.slice none 0 0] 41 (0,0))):=⟨h2_⟩;have n3_:Aside0 (w13.heap[gb185]?=some (.cells #[.int .i64 0,.slice none 0 0] 41 (0,0))):=⟨h3_⟩;have n4_:Aside0 (w.heap.size≤gb185):=⟨h4_⟩;have n5_:Aside0 (w.heap.size≤gb185):=⟨h5_⟩;have n6_:Aside0 (gb180≠gb185):=⟨h6_⟩;have n7_:Aside0 (gb185≠gb180):=⟨h7_⟩;have n8_:Aside0 (gb181≠gb185):=⟨h8_⟩;have n9_:Aside0 (gb185≠gb181):=⟨h9_⟩;have n10_:Aside0 (Below w.heap.size w w13):=⟨h10_⟩;clear BK180 BK181 HB h0_ h1_ h2_ h3_ h4_ h5_ h6_ h7_ h8_ h9_ h10_;have HO184:=n0_;have BK180:=n1_;have BK181:=n2_;have BK185:=n3_;have GW185:=n4_;have GE185:=n5_;have NB180_185:=n6_;have NB185_180:=n7_;have NB181_185:=n8_;have NB185_181:=n9_;have HB:=n10_;clear n0_ n1_ n2_ n3_ n4_ n5_ n6_ n7_ n8_ n9_ n10_;have hHeld:w13.cell? ⟨gb180,0,none⟩=some (.int .i64 a0_0)∧w13.cell? ⟨gb180,1,none⟩=some (.slice A0_1 l0_1.length c0_1)∧w13.cell? ⟨gb180,2,none⟩=some (.int .i64 a0_2):=hS_;obtain ⟨Ao14,co14,eo14⟩:=Kd.R_slice HO184.out;(first | subst eo14 | (injection eo14 with f1_ f2_ f3_;have f4_:=f1_.symm;have f5_:=f3_.symm;clear f1_ f2_ f3_;subst f4_;subst f5_))
    refine norm_ (a':=?_) ?_ ?_
    rotate_left
    ·simp only [putAll,Act.put,sI,s0,sS]
     rfl
    refine one_ (i:=8) (N:=none) #[ti,ti,ti,ti,ti,ti,ti,ti,ti] rfl rfl (one_of HT_.out (by kernel_rfl)) (by decide) (fun K hK=>?_)
    have hs15:w13.cell? ⟨gb185,0,none⟩=some (.int .i64 0):=(blk_cell BK185.out 0).trans rfl;have hfs15:=blk_frozen BK185.out 0;have hns15_0:=NB180_185.out;have hns15_1:=NB181_185.out;have hms15_0:=NB185_180.out;have hms15_1:=NB185_181.out;have hs16:w13.cell? ⟨gb185,1,none⟩=some (.slice none 0 0):=(blk_cell BK185.out 1).trans rfl;have hfs16:=blk_frozen BK185.out 1;have hns16_0:=NB180_185.out;have hns16_1:=NB181_185.out;have hms16_0:=NB185_180.out;have hms16_1:=NB185_181.out
    refine skip_ (w1:=?_) (by rfl) rfl ?_ ?_
    rotate_left
    ·go_simp
     rfl
    refine hK.out _ _ ⟨((cell_far (p:=⟨gb185,_,none⟩) NB180_185.out _).trans (((cell_far (p:=⟨gb185,_,none⟩) NB180_185.out _).trans (hHeld.1)))),((cell_far (p:=⟨gb185,_,none⟩) NB180_185.out _).trans (((cell_far (p:=⟨gb185,_,none⟩) NB180_185.out _).trans (hHeld.2.1)))),((cell_far (p:=⟨gb185,_,none⟩) NB180_185.out _).trans (((cell_far (p:=⟨gb185,_,none⟩) NB180_185.out _).trans (hHeld.2.2))))⟩ (fun hHeld=>?_)
    clear hK K
    refine done_ (done_of HT_.out (by kernel_rfl)) ?_
    have hnb17:=NB185_180.out;have hnc17:=NB180_185.out;have hnb18:=NB185_181.out;have hnc18:=NB181_185.out;obtain ⟨hcz19_0,hcz19_1,hfz19_0,hfz19_1⟩:=zk2 BK185.out;(try go_wp2)
    go_loopg [15] k (fun kq v15 w' => ∃ (x15_1:Int) (x186001_1:List Int) (u186001:Value),v15 = .int .i64 x15_1∧Aside0 (impl_tableOfDiagram.l0 kq (y182.length:Int) x15_1 a0_0 l0_1 a0_2 a0_0 x186001_1=some (r1,r2))∧Aside0 (kq≤k)∧Aside0 (Kd.R (Kd.int .i64) 3 w' w.heap.size (fun _=>True) u186001 x186001_1)∧Aside0 (w'.heap[gb180]?=some (.cells #[.int .i64 a0_0,(.slice A0_1 l0_1.length c0_1),.int .i64 a0_2] 28 (0,0)))∧Aside0 (w'.heap[gb181]?=some (.cells #[.int .i64 0,(.slice none 0 0)] 41 (0,0)))∧Aside0 (w'.heap[gb185]?=some (.cells #[.int .i64 a0_0,u186001] 41 (0,0)))∧Aside0 (Below w.heap.size w w'))
    case atStart=>exact ⟨(0),(y182),(.slice Ao14 y182.length co14),zd_,H',⟨Nat.le_refl _⟩,⟨by refine zr ?_;exact Kd.R_mono (Kd.R_far (p:=⟨gb185,1,none⟩) (Kd.R_far (p:=⟨gb185,0,none⟩) (Kd.R_types HO184.out BK185.out (by decide)) (fun _ hk=>hk.2) (.int .i64 a0_0)) (fun _ hk=>hk.2) (.slice Ao14 y182.length co14)) (fun _ hk=>trivial)⟩,⟨by refine zb ?_;refine blk_far ?_ NB180_185.out _;refine zb ?_;refine blk_far ?_ NB180_185.out _;refine zb ?_;exact BK180.out⟩,⟨by refine zb ?_;refine blk_far ?_ NB181_185.out _;refine zb ?_;refine blk_far ?_ NB181_185.out _;refine zb ?_;exact BK181.out⟩,⟨by refine zb ?_;refine blk_put (cs:=#[.int .i64 a0_0,.slice none 0 0]) ?_ 1 _ rfl;refine zb ?_;refine blk_put (cs:=#[.int .i64 0,.slice none 0 0]) ?_ 0 _ rfl;refine zb ?_;exact BK185.out⟩,⟨zed_⟩⟩
    case round =>
     clear H';(try clear c2b0);(try clear c2b1);(try clear c4b0);(try clear c4b1);(try clear c5b0);(try clear c5b1);(try clear hcz19_0);(try clear hcz19_1);(try clear hfz19_0);(try clear hfz19_1);obtain ⟨x15_1,x186001_1,u186001,rfl,HA,HK1,HO_186001,BK180,BK181,BK185,HB⟩:=hrel
     cases gk with
     | zero=>exact absurd HA.out (by simp [impl_tableOfDiagram.l0])
     | succ k1 =>
      have H:=HA.out;clear HA
      simp only [impl_tableOfDiagram.l0] at H
      by_cases c20:x15_1<(y182.length:Int)
      ·rw [if_pos c20] at H
       have c20b0:=decide_eq_true c20;clear c20;replace H:=oB.mp H;obtain ⟨t186,A210,H⟩:=H;replace H:((impl_diagramValue.f k1 a0_0 l0_1 a0_2 t186).bind fun t189=>(if 0≤x15_1 then (if x15_1<(x186001_1.length:Int) then (impl_tableOfDiagram.l0 k1 (y182.length:Int) (wrap64 (x15_1+1)) a0_0 l0_1 a0_2 a0_0 (x186001_1.set (x15_1:Int).toNat t189)) else (none)) else (none)))=some (r1,r2):=H;have A21:=aM A210;clear A210;replace H:=oB.mp H;obtain ⟨t189,A220,H⟩:=H;replace H:(if 0≤x15_1 then (if x15_1<(x186001_1.length:Int) then (impl_tableOfDiagram.l0 k1 (y182.length:Int) (wrap64 (x15_1+1)) a0_0 l0_1 a0_2 a0_0 (x186001_1.set (x15_1:Int).toNat t189)) else (none)) else (none))=some (r1,r2):=H;have A22:=aM A220;clear A220
       by_cases c23:0≤x15_1
       ·rw [if_pos c23] at H
        have c23b0:=decide_eq_true c23;clear c23
        by_cases c24:x15_1<(x186001_1.length:Int)
        ·rw [if_pos c24] at H
         have c24b0:=decide_eq_true c24;clear c24;obtain ⟨y190,hy190⟩:∃ y_:List Int,y_=(x186001_1.set (x15_1:Int).toNat t189):=⟨_,rfl⟩;replace H:(impl_tableOfDiagram.l0 k1 (y182.length:Int) (wrap64 (x15_1+1)) a0_0 l0_1 a0_2 a0_0 y190)=some (r1,r2):=q3y_ hy190 H
         have Ny190:=aM hy190;clear hy190;have H':=aM H;clear H;(try go_wp2);have n_:=z (kD HO_186001.out)<|z (blk_drew BK180.out)<|z (blk_drew BK181.out)<|z (blk_drew BK185.out)<|z1 (p1 HB.out)
         clear HO_186001 BK180 BK181 BK185 HB;obtain ⟨HO_186001,BK180,BK181,BK185,HB⟩:=n_
         refine start_ (n:=11) (S:=fun w'=>w'.cell? ⟨gb185,0,none⟩=some (.int .i64 a0_0)∧w'.cell? ⟨gb185,1,none⟩=some (u186001)∧w'.cell? ⟨gb180,0,none⟩=some (.int .i64 a0_0)∧w'.cell? ⟨gb180,1,none⟩=some (.slice A0_1 l0_1.length c0_1)∧w'.cell? ⟨gb180,2,none⟩=some (.int .i64 a0_2)) (ds:=[10]) #[fi,fi,fi,fi,fi,fi,fi,fi,fi,fi,fi] (by kernel_rfl) rfl rfl ⟨(blk_cell BK185.out 0).trans rfl,(blk_cell BK185.out 1).trans rfl,(blk_cell BK180.out 0).trans rfl,(blk_cell BK180.out 1).trans rfl,(blk_cell BK180.out 2).trans rfl⟩ (fun hHeld=>?_);refine with_tabW impl_tableOfDiagram.tab5 impl_tableOfDiagram.bits5 (fun HT_ HW_=>?_)
         generalize wr.drew=w26 at HO_186001 BK180 BK181 BK185 HB hHeld ⊢;refine py_ 0 18 HT_.out ?_;refine py_ 2 20 HT_.out ?_;refine py_ 4 22 HT_.out ?_;refine py_ 5 23 HT_.out ?_
         refine tw5_ 1 19 HT_.out HW_.out hHeld ?_
         refine tw5_ 3 21 HT_.out HW_.out hHeld ?_
         refine tw5_ 6 24 HT_.out HW_.out hHeld ?_
         refine one_ (i:=7) (N:=some 25) #[ti,ti,ti,ti,ti,ti,ti,ti,fi,fi,fi] rfl rfl (one_of HT_.out (by kernel_rfl)) (by decide) (fun K hK=>?_)
         refine goes_ Try.func108 (by kernel_rfl) rfl #[.int .i64 x15_1,.int .i64 a0_0] (by rfl) rfl rfl zf_ ?_
         with_reducible refine (impl_bitList.calls k1 x15_1 a0_0 t186 _ A21.out).mono ?_
         rintro e w27 ⟨v187,rfl,ho0,hb⟩
         refine ⟨_,rfl,?_⟩
         have n_:=z (Kd.R_elder' (zr HO_186001.out) (Kd.R_base ho0) hb)<|z (Kd.R_lower (Kd.R_new' ho0 (Kd.R_lt (zr HO_186001.out))) (below_size zed_))<|z (blk_below (zb BK180.out) hb)<|z (blk_below (zb BK181.out) hb)<|z (blk_below (zb BK185.out) hb)<|z1 (below_step zed_ hb)
         clear HO_186001 BK180 BK181 BK185 HB;obtain ⟨HO_186001,HO188,BK180,BK181,BK185,HB⟩:=n_;(try clear hb);(try clear hb2);(try clear hk);(try clear hi);(try clear ho0);obtain ⟨Ao28,co28,eo28⟩:=Kd.R_slice HO188.out;(first | subst eo28 | (injection eo28 with f1_ f2_ f3_;have f4_:=f1_.symm;have f5_:=f3_.symm;clear f1_ f2_ f3_;subst f4_;subst f5_))
         refine hK.out _ _ ⟨(blk_cell BK185.out 0).trans rfl,(blk_cell BK185.out 1).trans rfl,(blk_cell BK180.out 0).trans rfl,(blk_cell BK180.out 1).trans rfl,(blk_cell BK180.out 2).trans rfl⟩ (fun hHeld=>?_)
         clear hK K
         refine nz_ 25 ?_
         refine one_ (i:=8) (N:=some 26) #[ti,ti,ti,ti,ti,ti,ti,ti,ti,fi,fi] rfl rfl (one_of HT_.out (by kernel_rfl)) (by decide) (fun K hK=>?_)
         refine goes_ Try.func107 (by kernel_rfl) rfl #[.agg #[.int .i64 a0_0,.slice A0_1 l0_1.length c0_1,.int .i64 a0_2],.slice Ao28 t186.length co28] (by rfl) rfl rfl zf_ ?_
         with_reducible refine (impl_diagramValue.calls k1 a0_0 _ _ l0_1 a0_2 _ _ t186 t189 _ ?side1 ?side2 ?side3 ?side4 A22.out).mono ?_
         (case side1=>exact zj_)
         (case side2=>exact HC0_1.out)
         (case side3=>repeat (first | exact (Kd.R_reads' HO188.out).2.2 | (with_reducible refine cA ?_ _)|(with_reducible refine cN ?_ _)|(with_reducible refine cD ?_)))
         (case side4=>exact (Kd.R_reads' HO188.out).2.1)
         rintro e w29 ⟨rfl,hb⟩
         refine ⟨_,rfl,?_⟩
         have n_:=z (Kd.R_below (zr HO_186001.out) hb)<|z (Kd.R_below (zr HO188.out) hb)<|z (blk_below (zb BK180.out) hb)<|z (blk_below (zb BK181.out) hb)<|z (blk_below (zb BK185.out) hb)<|z1 (below_step zed_ hb)
         clear HO_186001 HO188 BK180 BK181 BK185 HB;obtain ⟨HO_186001,HO188,BK180,BK181,BK185,HB⟩:=n_;(try clear hb);(try clear hb2);(try clear hk);(try clear hi);have p25:0≤(x15_1:Int):=of_decide_eq_true zc_;have q25:(x15_1:Int)<((x186001_1.length:Int):Int):=of_decide_eq_true zc_;obtain ⟨go25,co25,eo25,gb25,gl25,cl25,HG25⟩:=Kd.R_form HO_186001.out (by omega);(first | cases eo25 | (injection eo25 with ea_ en_ ec_;(first | subst ea_ | (injection ea_ with ea_;subst ea_));subst ec_;clear en_));have GB25:=aM gb25;have GG25:=aM HG25;clear gb25 gl25 HG25;obtain ⟨hx25_0,hf25_0⟩:=Kd.R_celln 0 HO_186001.out (x15_1:Int) p25 q25;replace p25:=eq_true p25;replace q25:=eq_true q25;have HP30:=Kd.R_putn HO_186001.out (x15_1:Int) t189;rw [← Ny190.out] at HP30;have HQ30:=aM HP30;clear HP30
         refine hK.out _ _ ⟨(blk_cell BK185.out 0).trans rfl,(blk_cell BK185.out 1).trans rfl,(blk_cell BK180.out 0).trans rfl,(blk_cell BK180.out 1).trans rfl,(blk_cell BK180.out 2).trans rfl⟩ (fun hHeld=>?_)
         clear hK K
         refine nz_ 26 ?_
         refine py_ 9 27 HT_.out ?_
         refine last_ (i:=10) (N:=none) #[ti,ti,ti,ti,ti,ti,ti,ti,ti,ti,ti] rfl rfl (one_of HT_.out (by kernel_rfl)) (by decide) (fun K hK=>?_)
         refine skip_ (w1:=?_) (by rfl) rfl ?_ ?_
         rotate_left
         ·go_simp
          rfl
         refine hK.out _ _ ?_
         clear hK K
         refine done_ (done_of HT_.out (by kernel_rfl)) ?_
         (try go_wp2)
         go_roundg k1
         case measure=>have:=HK1.out;omega
         case rel=>exact ⟨(wrap64 (x15_1+1)),(y190),(.slice (some ⟨go25,0,none⟩) x186001_1.length co25),zd_,H',⟨zci_⟩,⟨by refine zr ?_;exact Kd.R_mono HQ30.out (fun _ hk=>trivial)⟩,⟨by refine zb ?_;refine blk_far ?_ (by have h_:=Kd.R_ne HO_186001.out BK180.out (by decide);intro e_;exact h_ (by rw [e_];rfl)) _;refine zb ?_;exact BK180.out⟩,⟨by refine zb ?_;refine blk_far ?_ (by have h_:=Kd.R_ne HO_186001.out BK181.out (by decide);intro e_;exact h_ (by rw [e_];rfl)) _;refine zb ?_;exact BK181.out⟩,⟨by refine zb ?_;refine blk_far ?_ (by have h_:=Kd.R_ne HO_186001.out BK185.out (by decide);intro e_;exact h_ (by rw [e_];rfl)) _;refine zb ?_;exact BK185.out⟩,⟨by repeat (first | (with_reducible first | exact HB.out | apply pA | apply pN | apply p1 | refine below_set ?_ GB25.out | refine below_set ?_ GE180.out | refine below_set ?_ GE181.out | refine below_set ?_ GE185.out) | exact HB.out)⟩⟩
        ·rw [if_neg c24] at H
         exact q3n_ H
       ·rw [if_neg c23] at H
        exact q3n_ H
      ·rw [if_neg c20] at H
       have c20b0:=decide_eq_false c20;clear c20
       simp only [Option.some.injEq,Prod.mk.injEq] at H
       obtain ⟨rfl,rfl⟩:=H;have hnb31:=NB185_180.out;have hnc31:=NB180_185.out;have hnb32:=NB185_181.out;have hnc32:=NB181_185.out;obtain ⟨hcz33_0,hcz33_1,hfz33_0,hfz33_1⟩:=zk2 BK185.out;have hnb34:=NB181_180.out;have hnc34:=NB180_181.out;obtain ⟨hcz35_0,hcz35_1,hfz35_0,hfz35_1⟩:=zk2 BK181.out;obtain ⟨Ao36,co36,eo36⟩:=Kd.R_slice HO_186001.out;subst eo36
       go_wp2
       refine bodyPost_ret (results_cell_row rfl _ _ gb181 41 #[.int .i64 a0_0,.slice Ao36 x186001_1.length co36] (0,0) _ rfl (by refine zb ?_;refine blk_put (cs:=#[.int .i64 a0_0,.slice none 0 0]) ?_ 1 _ rfl;refine zb ?_;refine blk_put (cs:=#[.int .i64 0,.slice none 0 0]) ?_ 0 _ rfl;refine zb ?_;exact BK181.out) Try.underlying41 rfl (by kernel_rfl)) rfl ?_
       exact ⟨_,by first | rfl | (simp [errW_none,errW_some] <;> rfl)|(simp only [← hji3];first | rfl | (simp [errW_none,errW_some] <;> rfl))|(simp [*,errW_none,errW_some] <;> rfl),by refine zr ?_;exact Kd.R_mono (Kd.R_far (p:=⟨gb181,1,none⟩) (Kd.R_far (p:=⟨gb181,0,none⟩) (Kd.R_types HO_186001.out BK181.out (by decide)) (fun _ hk=>hk.2) (.int .i64 a0_0)) (fun _ hk=>hk.2) (.slice Ao36 x186001_1.length co36)) (fun _ hk=>trivial),zed_⟩
   ·rw [if_neg c5] at H
    exact q3n_ H
  ·rw [if_neg c4] at H
   exact q3n_ H
 ·rw [if_neg c2] at H
  exact q3n_ H
section
attribute [local go_sem high] nd_eqA
open Go.Proofs.Ytlnhpkjioppbiaa.Sep in
set_option maxHeartbeats 16000000 in
set_option maxRecDepth 100000 in
theorem impl_diagramOf.build (w0:World) (gt gv gd n:Nat) (hn:n≤4) (vs:List Int) (hv:vs.length=2 ^ n) (At:Option Addr) (ct:Nat) (hr:Kd.C (Kd.int .i64) w0 At vs.length vs):∀ (d idx:Nat) (ns:List (S93)) (i xx:Int) (w:World) (vn:Value) (F:List Sep.Item) (_hd:d≤n) (_hi:idx<2 ^ (n - d)) (_he:i=((n - d:Nat):Int)) (_hx:xx=(idx:Int)) (_hb:ns.length+2 ^ d≤1000) (_h:Own w0 w (Sep.Item.box gd 28 #[.int .i64 ((n:Int)),vn,.int .i64 0] :: Sep.Item.row k93 93 (vn) (ns) :: Sep.Item.box gt 41 #[.int .i64 ((n:Int)),.slice At vs.length ct] :: Sep.Item.box gv 89 #[.func (.func 109) #[] #[.pointer (some ⟨gt,0,none⟩),.pointer (some ⟨gv,0,none⟩),.pointer (some ⟨gd,0,none⟩)]] :: F)),
  Calls Try.prog 109 #[.int .i64 i,.int .i64 xx,.pointer (some ⟨gt,0,none⟩),.pointer (some ⟨gv,0,none⟩),.pointer (some ⟨gd,0,none⟩)] w fun e w'=>e = .returned (.int .i64 (ndBuild vs n d idx ns).2)∧∃ vn':Value,Own w0 w' (Sep.Item.box gd 28 #[.int .i64 ((n:Int)),vn',.int .i64 0] :: Sep.Item.row k93 93 (vn') ((ndBuild vs n d idx ns).1) :: Sep.Item.box gt 41 #[.int .i64 ((n:Int)),.slice At vs.length ct] :: Sep.Item.box gv 89 #[.func (.func 109) #[] #[.pointer (some ⟨gt,0,none⟩),.pointer (some ⟨gv,0,none⟩),.pointer (some ⟨gd,0,none⟩)]] :: F):=by
 have HVL:=aM hv
 clear hv
 intro d
 induction d with
 | zero =>
  intro idx ns i xx w vn F hd hi he hx hb h
  obtain ⟨An,cn,rfl⟩:=h.row_slice 1 rfl;have HO:=aM h;have HB:=aM hb;have HI:=aM he;have HX:=aM hx;have HR:=aM hr;clear h hb hr;have c1b:(i == (n:Int))=true:=beq_iff_eq.mpr (by omega);have hx0:0≤xx:=by omega
  have hx1:xx<(vs.length:Int):=by rw [HVL.out,hx];simp only [Nat.sub_zero] at hi;omega
  obtain ⟨ad,ead,hc⟩:=Kd.at_int HR.out xx hx0 hx1
  cases ead
  have p1:(0≤xx)=True:=eq_true hx0;have q1:(xx<(vs.length:Int))=True:=eq_true hx1;obtain ⟨v,hv_⟩:∃ v,rd vs xx=v:=⟨_,rfl⟩;rw [hv_] at hc;have HV:=aM hv_;clear hc hv_ hi he hx
  go_enter Try.func109,Try.ntmps109
  have z_1:w.cell? ⟨gt,0,none⟩=some (.int .i64 ((n:Int))):=(HO.out.cell 2 rfl 0 rfl);have z_2:w.cell? ⟨gt,1,none⟩=some (.slice ((some ad)) vs.length ct):=(HO.out.cell 2 rfl 1 rfl);have z_3:w.cell? (ad.add xx.toNat)=some (.int .i64 v):=(by obtain ⟨_,e,h_⟩:=Kd.at_int (Kd.C_below HR.out HO.out.base) xx hx0 hx1;cases e;rw [HV.out] at h_;exact h_)
  go_wp2
  go_ret
  rw [ndBuild]
  exact ⟨by rw [← HX.out];show _=Ending.returned (.int .i64 (rd vs xx));rw [HV.out];rfl,_,HO.out⟩
 | succ d ih =>
  intro idx ns i xx w vn F hd hi he hx hb h
  obtain ⟨An,cn,rfl⟩:=h.row_slice 1 rfl;have HO:=aM h;have HB:=aM hb;have HI:=aM he;have HX:=aM hx;have HR:=aM hr;clear h hb hr;obtain ⟨hs1,hs2,hs3,hs4,hs5,hs6⟩:=nd_shl n d idx hn hd hi;rw [← he] at hs1;rw [← hx] at hs6;have c1b:(i == (n:Int))=false:=beq_eq_false_iff_ne.mpr (by omega);have hi1:wrap64 (i+1)=((n - d:Nat):Int):=by unfold wrap64;omega
  obtain ⟨pp,hpp⟩:∃ p:Nat,p=2 ^ (n - (d+1)):=⟨_,rfl⟩;rw [← hpp] at hs1 hs3 hs5 hs6;obtain ⟨x1,hx1⟩:∃ x1:Int,x1=((idx+pp:Nat):Int):=⟨_,rfl⟩;rw [← hx1] at hs6;have hi0:0≤i:=by omega
  have hi4:i≤3:=by omega
  have p0:(0≤i)=True:=eq_true hi0;have hb2:=HB.out;rw [Nat.pow_succ] at hb2;have hsh:wrap64 (2 ^ min i.toNat 64)=(pp:Int):=by rw [← hs1];unfold shl;rw [Int.one_mul,IntKind.wrap_i64,show IntKind.i64.bits=64 from rfl];unfold wrap64;omega
  generalize hA:ndBuild vs n d idx ns=ra;obtain ⟨n1,lo⟩:=ra;have hla:=ndBuild_length vs n d idx ns;rw [hA] at hla;generalize hB2:ndBuild vs n d (idx+pp) n1=rb;obtain ⟨n2,hh⟩:=rb;have hlb:=ndBuild_length vs n d (idx+pp) n1;rw [hB2] at hlb
  dsimp only at hla hlb
  have hfin:ndBuild vs n (d+1) idx ns=ndNode n2 ⟨i,lo,hh⟩:=by rw [ndBuild,hA,← hpp];dsimp only;rw [hB2,he]
  have HA:=aM hA;have HB2:=aM hB2;have HFIN:=aM hfin;have HN1:=aM (show n1.length+2 ^ d≤1000 by omega);have HN2:=aM (show n2.length≤999 by omega);have HN0:=aM (show ns.length+2 ^ d≤1000 by omega);have IH:=aM ih;have HS3:=aM hs3;have HS4:=aM hs4;have HX1:=aM hx1;have HI1:=aM hi1;have HD:=aM (show d≤n by omega);clear hi0 hi4 ih hla hlb hA hB2 hfin hs1 hs2 hs3 hs4 hs5 hi he hx hi1 hx1 hb2 hd hpp
  by_cases c2:lo=hh
  ·have c2b:(lo == hh)=true:=beq_iff_eq.mpr c2
   have HNE:=aM (show ndNode n2 (⟨i,lo,hh⟩:S93)=(n2,lo) from by unfold ndNode;rw [if_pos c2]);clear c2
   go_enter Try.func109,Try.ntmps109
   have z_1:w.cell? ⟨gt,0,none⟩=some (.int .i64 ((n:Int))):=(HO.out.cell 2 rfl 0 rfl);have z_2:w.cell? ⟨gv,0,none⟩=some (.func (.func 109) #[] #[.pointer (some ⟨gt,0,none⟩),.pointer (some ⟨gv,0,none⟩),.pointer (some ⟨gd,0,none⟩)]):=(HO.out.cell 3 rfl 0 rfl)
   go_wp2_with (first | ((with_reducible refine gate_dst (N:=26) rfl ?_);refine Sep.goesCL_ (some 26) rfl rfl (f:=109) (fn:=Try.f109) Try.func109 (by kernel_rfl) rfl #[.int .i64 (wrap64 (i+1)),.int .i64 xx,.pointer (some ⟨gt,0,none⟩),.pointer (some ⟨gv,0,none⟩),.pointer (some ⟨gd,0,none⟩)] rfl rfl (by (try simp only [mT,mC,mN]);first | done | rfl | (simp only [hsh,hs6];rfl)) ?_;refine (IH.out idx (ns) (wrap64 (i+1)) xx _ _ (F) HD.out HS4.out HI1.out HX.out HN0.out ((((HO.out.front 3 rfl).front 3 rfl).front 3 rfl).front 3 rfl)).mono ?_;rw [HA.out];rintro e w_1 ⟨rfl,vo,ho⟩;refine ⟨_,rfl,?_⟩;obtain ⟨A_b26,c_b26,rfl⟩:=ho.row_slice 1 rfl;have HO_1:=aM ho;clear ho))
   have HD_4_2:=aM (HO_1.out.drew)
   refine start_ (n:=9) (S:=fun w'=>w'.cell? ⟨gv,0,none⟩=some (.func (.func 109) #[] #[.pointer (some ⟨gt,0,none⟩),.pointer (some ⟨gv,0,none⟩),.pointer (some ⟨gd,0,none⟩)])) (ds:=[]) #[fi,fi,fi,fi,fi,fi,fi,fi,fi] (by kernel_rfl) rfl rfl ((HD_4_2.out.cell 3 rfl 0 rfl)) (fun hHeld=>?_)
   generalize w_1.drew=wd_4_3 at HD_4_2 hHeld ⊢
   refine oz_ 1 28 ?_
   refine oz_ 2 29 ?_
   refine oz_ 3 30 ?_
   refine oz_ 4 31 ?_
   refine oz_ 5 32 ?_
   refine oz_ 6 33 ?_
   refine tz1_ 0 27 hHeld ?_
   refine oo_ 7 34 (fun K hK=>?_)
   refine Sep.goesC_ (f:=109) Try.func109 (by kernel_rfl) rfl #[.int .i64 (wrap64 (i+1)),.int .i64 x1,.pointer (some ⟨gt,0,none⟩),.pointer (some ⟨gv,0,none⟩),.pointer (some ⟨gd,0,none⟩)] (by rfl) rfl rfl rfl ze_ ?_
   refine (IH.out (idx+pp) (n1) (wrap64 (i+1)) x1 _ _ (F) HD.out HS3.out HI1.out HX1.out HN1.out ((((HD_4_2.out.front 3 rfl).front 3 rfl).front 3 rfl).front 3 rfl)).mono ?_
   rw [HB2.out]
   rintro e w_2 ⟨rfl,vo,ho⟩
   refine ⟨_,rfl,?_⟩
   obtain ⟨A_b34,c_b34,rfl⟩:=ho.row_slice 1 rfl;have HO_2:=aM ho;clear ho
   refine hK.out _ _ ((HO_2.out.cell 3 rfl 0 rfl)) (fun hHeld=>?_)
   clear hK K
   refine nz_ 34 ?_
   refine oz_ 8 9 ?_
   refine done_ (by kernel_rfl) ?_
   go_wp2
   go_ret
   rw [HFIN.out,HNE.out]
   exact ⟨rfl,_,HO_2.out⟩
  ·have c2b:(lo == hh)=false:=beq_eq_false_iff_ne.mpr c2
   have HND:=aM (show ndNode n2 (⟨i,lo,hh⟩:S93)=if ndAt (⟨i,lo,hh⟩:S93) n2<n2.length then (n2,2+(ndAt (⟨i,lo,hh⟩:S93) n2:Int)) else (n2 ++ [(⟨i,lo,hh⟩:S93)],2+(n2.length:Int)) from by unfold ndNode;rw [if_neg c2]);clear c2
   go_enter Try.func109,Try.ntmps109
   have z_1:w.cell? ⟨gt,0,none⟩=some (.int .i64 ((n:Int))):=(HO.out.cell 2 rfl 0 rfl);have z_2:w.cell? ⟨gv,0,none⟩=some (.func (.func 109) #[] #[.pointer (some ⟨gt,0,none⟩),.pointer (some ⟨gv,0,none⟩),.pointer (some ⟨gd,0,none⟩)]):=(HO.out.cell 3 rfl 0 rfl)
   go_wp2_with (first | ((with_reducible refine gate_dst (N:=26) rfl ?_);refine Sep.goesCL_ (some 26) rfl rfl (f:=109) (fn:=Try.f109) Try.func109 (by kernel_rfl) rfl #[.int .i64 (wrap64 (i+1)),.int .i64 xx,.pointer (some ⟨gt,0,none⟩),.pointer (some ⟨gv,0,none⟩),.pointer (some ⟨gd,0,none⟩)] rfl rfl (by (try simp only [mT,mC,mN]);first | done | rfl | (simp only [hsh,hs6];rfl)) ?_;refine (IH.out idx (ns) (wrap64 (i+1)) xx _ _ (F) HD.out HS4.out HI1.out HX.out HN0.out ((((HO.out.front 3 rfl).front 3 rfl).front 3 rfl).front 3 rfl)).mono ?_;rw [HA.out];rintro e w_1 ⟨rfl,vo,ho⟩;refine ⟨_,rfl,?_⟩;obtain ⟨A_b26,c_b26,rfl⟩:=ho.row_slice 1 rfl;have HO_1:=aM ho;clear ho))
   have HD_4_2:=aM (HO_1.out.drew)
   refine start_ (n:=9) (S:=fun w'=>w'.cell? ⟨gv,0,none⟩=some (.func (.func 109) #[] #[.pointer (some ⟨gt,0,none⟩),.pointer (some ⟨gv,0,none⟩),.pointer (some ⟨gd,0,none⟩)])) (ds:=[]) #[fi,fi,fi,fi,fi,fi,fi,fi,fi] (by kernel_rfl) rfl rfl ((HD_4_2.out.cell 3 rfl 0 rfl)) (fun hHeld=>?_)
   generalize w_1.drew=wd_4_3 at HD_4_2 hHeld ⊢
   refine oz_ 1 28 ?_
   refine oz_ 2 29 ?_
   refine oz_ 3 30 ?_
   refine oz_ 4 31 ?_
   refine oz_ 5 32 ?_
   refine oz_ 6 33 ?_
   refine tz1_ 0 27 hHeld ?_
   refine oo_ 7 34 (fun K hK=>?_)
   refine Sep.goesC_ (f:=109) Try.func109 (by kernel_rfl) rfl #[.int .i64 (wrap64 (i+1)),.int .i64 x1,.pointer (some ⟨gt,0,none⟩),.pointer (some ⟨gv,0,none⟩),.pointer (some ⟨gd,0,none⟩)] (by rfl) rfl rfl rfl ze_ ?_
   refine (IH.out (idx+pp) (n1) (wrap64 (i+1)) x1 _ _ (F) HD.out HS3.out HI1.out HX1.out HN1.out ((((HD_4_2.out.front 3 rfl).front 3 rfl).front 3 rfl).front 3 rfl)).mono ?_
   rw [HB2.out]
   rintro e w_2 ⟨rfl,vo,ho⟩
   refine ⟨_,rfl,?_⟩
   obtain ⟨A_b34,c_b34,rfl⟩:=ho.row_slice 1 rfl;have HO_2:=aM ho;clear ho
   refine hK.out _ _ ((HO_2.out.cell 3 rfl 0 rfl)) (fun hHeld=>?_)
   clear hK K
   refine nz_ 34 ?_
   refine oz_ 8 9 ?_
   refine done_ (by kernel_rfl) ?_
   go_wp2_with (first | ((with_reducible refine gate_dst (N:=10) rfl ?_);refine box_event ?hg (N:=10) ?hd (cs:=#[.int .i64 0,.int .i64 0,.int .i64 0]) (t:=93) ?hr ?_;(case hd=>rfl);(case hg=>rfl);(case hr=>exact za_);intro gx hg w_3 hbox hb;have HO_3:=aM (HO_2.out.add_box (T:=93) (cs:=#[.int .i64 0,.int .i64 0,.int .i64 0]) hg hbox hb);clear hg hbox hb)|((with_reducible refine gate_store (t:=93) (p:=10) (v := .tmp 42) rfl ?_);refine Sep.own_store HO_3.out 0 gx 93 _ #[.int .i64 i,.int .i64 lo,.int .i64 hh] rfl rfl rfl 93 (.tmp 10) (.tmp 42) rfl rfl _ rfl rfl rfl (by kernel_rfl) (by simp [Value.oneCell']) ?_;intro w_4 ho;have HO_4:=aM ho;clear ho;have z_4:w_4.cell? ⟨gd,1,none⟩=some (.slice A_b34 n2.length c_b34):=(HO_4.out.cell 1 rfl 1 rfl)))
   (try simp only [Act.put,sI,s0,sS])
   go_loopw [46] (fun v46 wr => ∃ (j:Int),0≤j∧j≤(n2.length:Int)∧v46 = .int .i64 j∧Aside0 (ndAt (⟨i,lo,hh⟩:S93) (n2.drop j.toNat)+j.toNat=ndAt (⟨i,lo,hh⟩:S93) n2)∧Aside0 (Own w0 wr (Item.box gx 93 #[.int .i64 i,.int .i64 lo,.int .i64 hh] :: Item.box gd 28 #[.int .i64 ((n:Int)),.slice A_b34 n2.length c_b34,.int .i64 0] :: Item.row k93 93 (.slice A_b34 n2.length c_b34) (n2) :: Item.box gt 41 #[.int .i64 ((n:Int)),.slice At vs.length ct] :: Item.box gv 89 #[.func (.func 109) #[] #[.pointer (some ⟨gt,0,none⟩),.pointer (some ⟨gv,0,none⟩),.pointer (some ⟨gd,0,none⟩)]] :: F))) (fun v46 _=>n2.length - (intOf v46).toNat)
   case atStart=>exact ⟨0,Int.le_refl _,by omega,rfl,⟨rfl⟩,⟨(((((HO_4.out.front 4 rfl).front 4 rfl).front 4 rfl).front 4 rfl).front 4 rfl)⟩⟩
   case round =>
    clear HO HO_4;obtain ⟨j,hj0,hj1,rfl,HJ,HO⟩:=hrel
    by_cases c3:j<(n2.length:Int)
    ·have c3b:=decide_eq_true c3
     have hwj:wrap64 (j+1)=j+1:=by have:=HN2.out;unfold wrap64;omega
     obtain ⟨adn,er,hx_⟩:=at_T93 (HO.out.row_reads 2 rfl).2.2 j hj0 c3;clear hx_
     cases er
     have p1:(0≤j)=True:=eq_true hj0;have q1:(j<(n2.length:Int))=True:=eq_true c3;obtain ⟨y0,y1,y2,hnd⟩:∃ a0 a1 a2,rd_T93 n2 j=⟨a0,a1,a2⟩:=⟨_,_,_,rfl⟩;have HN:=aM hnd;have had:=ndAt_drop (⟨i,lo,hh⟩:S93) n2 j hj0 c3;rw [hnd] at had;have HAD:=aM had;clear had hnd;have HE:=aM (nd_eqb ⟨y0,y1,y2⟩ (⟨i,lo,hh⟩:S93))
     by_cases c4:(⟨y0,y1,y2⟩:S93)=(⟨i,lo,hh⟩:S93)
     ·have he:=HE.out
      rw [decide_eq_true c4] at he
      dsimp only at he
      have ha:=HAD.out;rw [if_pos c4] at ha;have hj_:=HJ.out;have HP:=aM (show ndAt (⟨i,lo,hh⟩:S93) n2=j.toNat by omega);have hw2:wrap64 (2+j)=2+j:=by have:=HN2.out;unfold wrap64;omega
      clear ha hj_ c4;have z_5:wr.cell? (adn.add (j.toNat * 3))=some (.int .i64 y0):=(by have e:=(nd_at3m (HO.out.row_reads 2 rfl).2.2 j hj0 c3).1;rw [HN.out] at e;exact e);have z_6:wr.cell? ⟨(adn.add (j.toNat * 3)).block,(adn.add (j.toNat * 3)).off+1,none⟩=some (.int .i64 y1):=(by have e:=(nd_at3m (HO.out.row_reads 2 rfl).2.2 j hj0 c3).2.1;rw [HN.out] at e;exact e);have z_7:wr.cell? ⟨(adn.add (j.toNat * 3)).block,(adn.add (j.toNat * 3)).off+2,none⟩=some (.int .i64 y2):=(by have e:=(nd_at3m (HO.out.row_reads 2 rfl).2.2 j hj0 c3).2.2;rw [HN.out] at e;exact e)
      go_wp2_with (first | ((with_reducible refine gate_dst (N:=12) rfl ?_);refine box_event ?hg (N:=12) ?hd (cs:=#[.int .i64 0,.int .i64 0,.int .i64 0]) (t:=93) ?hr ?_;(case hd=>rfl);(case hg=>rfl);(case hr=>exact za_);intro gy hg w_1 hbox hb;have HO_1:=aM (HO.out.add_box (T:=93) (cs:=#[.int .i64 0,.int .i64 0,.int .i64 0]) hg hbox hb);clear hg hbox hb)|((with_reducible refine gate_store (t:=93) (p:=12) (v := .tmp 50) rfl ?_);refine Sep.own_store HO_1.out 0 gy 93 _ #[.int .i64 y0,.int .i64 y1,.int .i64 y2] rfl rfl rfl 93 (.tmp 12) (.tmp 50) rfl rfl _ rfl rfl rfl (by kernel_rfl) (by simp [Value.oneCell']) ?_;intro w_2 ho;have HO_2:=aM ho;clear ho;have z_8:w_2.cell? ⟨gy,0,none⟩=some (.int .i64 y0):=(HO_2.out.cell 0 rfl 0 rfl);have z_9:w_2.cell? ⟨gy,1,none⟩=some (.int .i64 y1):=(HO_2.out.cell 0 rfl 1 rfl);have z_10:w_2.cell? ⟨gy,2,none⟩=some (.int .i64 y2):=(HO_2.out.cell 0 rfl 2 rfl);have z_11:w_2.cell? ⟨gx,0,none⟩=some (.int .i64 i):=(HO_2.out.cell 1 rfl 0 rfl);have z_12:w_2.cell? ⟨gx,1,none⟩=some (.int .i64 lo):=(HO_2.out.cell 1 rfl 1 rfl);have z_13:w_2.cell? ⟨gx,2,none⟩=some (.int .i64 hh):=(HO_2.out.cell 1 rfl 2 rfl)))
      have hnn:=HND.out;rw [HP.out,if_pos (by omega),Int.toNat_of_nonneg hj0] at hnn
      go_ret
      rw [HFIN.out,hnn]
      exact ⟨by first | rfl | (rw [hw2];done)|(rw [hw2];rfl),_,((((((HO_2.out.front 5 rfl).front 5 rfl).front 5 rfl).front 5 rfl).front 5 rfl).front 5 rfl).tail.tail⟩
     ·have he:=HE.out
      rw [decide_eq_false c4] at he
      dsimp only at he
      have ha:=HAD.out;rw [if_neg c4] at ha;have HJ2:=aM (show ndAt (⟨i,lo,hh⟩:S93) (n2.drop (j+1).toNat)+(j+1).toNat=ndAt (⟨i,lo,hh⟩:S93) n2 by have:=HJ.out;omega);clear ha c4;have z_5:wr.cell? (adn.add (j.toNat * 3))=some (.int .i64 y0):=(by have e:=(nd_at3m (HO.out.row_reads 2 rfl).2.2 j hj0 c3).1;rw [HN.out] at e;exact e);have z_6:wr.cell? ⟨(adn.add (j.toNat * 3)).block,(adn.add (j.toNat * 3)).off+1,none⟩=some (.int .i64 y1):=(by have e:=(nd_at3m (HO.out.row_reads 2 rfl).2.2 j hj0 c3).2.1;rw [HN.out] at e;exact e);have z_7:wr.cell? ⟨(adn.add (j.toNat * 3)).block,(adn.add (j.toNat * 3)).off+2,none⟩=some (.int .i64 y2):=(by have e:=(nd_at3m (HO.out.row_reads 2 rfl).2.2 j hj0 c3).2.2;rw [HN.out] at e;exact e)
      go_wp2_with (first | ((with_reducible refine gate_dst (N:=12) rfl ?_);refine box_event ?hg (N:=12) ?hd (cs:=#[.int .i64 0,.int .i64 0,.int .i64 0]) (t:=93) ?hr ?_;(case hd=>rfl);(case hg=>rfl);(case hr=>exact za_);intro gy hg w_1 hbox hb;have HO_1:=aM (HO.out.add_box (T:=93) (cs:=#[.int .i64 0,.int .i64 0,.int .i64 0]) hg hbox hb);clear hg hbox hb)|((with_reducible refine gate_store (t:=93) (p:=12) (v := .tmp 50) rfl ?_);refine Sep.own_store HO_1.out 0 gy 93 _ #[.int .i64 y0,.int .i64 y1,.int .i64 y2] rfl rfl rfl 93 (.tmp 12) (.tmp 50) rfl rfl _ rfl rfl rfl (by kernel_rfl) (by simp [Value.oneCell']) ?_;intro w_2 ho;have HO_2:=aM ho;clear ho;have z_8:w_2.cell? ⟨gy,0,none⟩=some (.int .i64 y0):=(HO_2.out.cell 0 rfl 0 rfl);have z_9:w_2.cell? ⟨gy,1,none⟩=some (.int .i64 y1):=(HO_2.out.cell 0 rfl 1 rfl);have z_10:w_2.cell? ⟨gy,2,none⟩=some (.int .i64 y2):=(HO_2.out.cell 0 rfl 2 rfl);have z_11:w_2.cell? ⟨gx,0,none⟩=some (.int .i64 i):=(HO_2.out.cell 1 rfl 0 rfl);have z_12:w_2.cell? ⟨gx,1,none⟩=some (.int .i64 lo):=(HO_2.out.cell 1 rfl 1 rfl);have z_13:w_2.cell? ⟨gx,2,none⟩=some (.int .i64 hh):=(HO_2.out.cell 1 rfl 2 rfl)))
      go_roundw
      case measure=>simp only [intOf,hwj];omega
      case rel=>exact ⟨j+1,by omega,by omega,zeh_,HJ2,⟨((((((HO_2.out.front 5 rfl).front 5 rfl).front 5 rfl).front 5 rfl).front 5 rfl).front 5 rfl).tail⟩⟩
    ·have c3b:=decide_eq_false c3
     obtain rfl:j=(n2.length:Int):=by omega
     have hj_:=HJ.out;rw [Int.toNat_natCast,List.drop_length,ndAt,Nat.zero_add] at hj_;have hnn:=HND.out;rw [← hj_,if_neg (Nat.lt_irrefl _)] at hnn;have HNN:=aM hnn;clear hnn hj_ HJ HND;have hwl:wrap64 (1+((n2.length+1:Nat):Int))=2+(n2.length:Int):=by have:=HN2.out;unfold wrap64;omega
     have z_5:wr.cell? ⟨gd,1,none⟩=some (.slice A_b34 n2.length c_b34):=(HO.out.cell 1 rfl 1 rfl);have z_6:wr.cell? ⟨gx,0,none⟩=some (.int .i64 i):=(HO.out.cell 0 rfl 0 rfl);have z_7:wr.cell? ⟨gx,1,none⟩=some (.int .i64 lo):=(HO.out.cell 0 rfl 1 rfl);have z_8:wr.cell? ⟨gx,2,none⟩=some (.int .i64 hh):=(HO.out.cell 0 rfl 2 rfl)
     go_wp2_with (first | ((with_reducible refine gate_dst (N:=61) rfl ?_);at_builtin;refine Sep.own_append k93 HO.out 2 _ (n2) 93 rfl rfl (.tmp 58) (.tmp 60) 26 (.agg #[.int .i64 0,.int .i64 0,.int .i64 0]) 24 rfl Try.underlying26 info93 rfl (by decide) (by omega) ((⟨i,lo,hh⟩:S93)) [.int .i64 i,.int .i64 lo,.int .i64 hh] rfl rfl (k93_mkM _ _ _ _) (by have:=HN2.out;omega) ?_;intro x_61 w_2 ho;obtain ⟨A_61,n_61,c_61,hn_,rfl⟩:=ho.row_seal 2 rfl;have HN_61:=aM hn_;clear hn_;have HO_2:=aM ho;clear ho)|((with_reducible refine gate_store (t:=26) (p:=62) (v := .tmp 61) rfl ?_);refine Sep.own_store_at HO_2.out 1 gd 28 _ rfl rfl rfl 26 (.tmp 62) (.tmp 61) rfl 1 rfl (.slice A_61 n_61 c_61) rfl rfl (by kernel_rfl) rfl (by simp) ?_;intro w_3 ho;have HO_3:=aM ho;clear ho;have z_9:w_3.cell? ⟨gd,1,none⟩=some (.slice A_61 n_61 c_61):=(HO_3.out.cell 1 rfl 1 rfl)))
     have hwl2:∀ m:Nat,m=(n2 ++ [(⟨i,lo,hh⟩:S93)]).length→wrap64 (1+(m:Int))=2+(n2.length:Int):=by intro m hm;rw [hm,List.length_append,List.length_singleton];exact hwl
     go_ret
     rw [HFIN.out,HNN.out]
     exact ⟨by have hq:=hwl2 _ HN_61.out;first | (rw [hq];done)|(rw [hq];rfl),_,(((((HO_3.out.front 4 rfl).front 4 rfl).front 4 rfl).front 4 rfl).front 4 rfl).tail⟩
end
def impl_diagramOf.f (k:Nat) (a0_0:Int) (l0_1:List Int):Option (Int×List (S93)×Int):=if 0≤a0_0∧a0_0≤4∧l0_1.length=2 ^ a0_0.toNat then some (a0_0,(ndBuild l0_1 a0_0.toNat a0_0.toNat 0 []).1,(ndBuild l0_1 a0_0.toNat a0_0.toNat 0 []).2) else none
theorem impl_diagramOf.mono:∀ a0 a1 k,LeO (impl_diagramOf.f k a0 a1) (impl_diagramOf.f (k+1) a0 a1):=fun _ _ _=>LeO.refl _
open Go.Proofs.Ytlnhpkjioppbiaa.Sep in
set_option maxHeartbeats 16000000 in
set_option maxRecDepth 100000 in
theorem impl_diagramOf.calls (k:Nat) (a0_0:Int) (A0_1:Option Addr) (c0_1:Nat) (l0_1:List Int) (r1:Int) (r2:List (S93)) (r3:Int) (w:World) (hr0_1:Kd.C (Kd.int .i64) w A0_1 l0_1.length l0_1) (hc0_1:l0_1.length≤c0_1) (h:impl_diagramOf.f k a0_0 l0_1=some (r1,r2,r3)) :
  Calls Try.prog 57 #[.agg #[.int .i64 a0_0,.slice A0_1 l0_1.length c0_1]] w fun e w' => ∃ v1_:Value,e = .returned (.agg #[.int .i64 r1,v1_,.int .i64 r3])∧Kd.R k93 93 w' w.heap.size (fun _=>True) v1_ r2∧Below w.heap.size w w':=by
 unfold impl_diagramOf.f at h
 split at h
 ·rename_i hcc
  obtain ⟨hn0,hn4,hl⟩:=hcc;obtain ⟨n,rfl⟩:=Int.eq_ofNat_of_zero_le hn0;rw [Int.toNat_natCast] at h hl;have h2:=Option.some.inj h;clear h;have HN4:=aM (show n≤4 by omega);have HVL:=aM hl;have HC:=aM hr0_1;clear hr0_1 hc0_1 hl hn0 hn4;have hbl:=ndBuild_length l0_1 n n 0 [];generalize hB:ndBuild l0_1 n n 0 []=rb at h2 hbl;obtain ⟨n2,rr⟩:=rb
  injection h2 with e1 e2
  injection e2 with e2 e3
  dsimp only at e1 e2 e3 hbl
  subst e1;subst e2;subst e3;have HB:=aM hB;clear hB hbl
  go_enter Try.func57,Try.ntmps57
  go_wp2_with (first | ((with_reducible refine gate_dst (N:=1) rfl ?_);refine box_event ?hg (N:=1) ?hd (cs:=#[.int .i64 ((n:Int)),.slice A0_1 l0_1.length c0_1]) (t:=41) ?hr ?_;(case hd=>rfl);(case hg=>rfl);(case hr=>exact za_);intro gt hg w_1 hbox hb;have HO_1:=aM ((Sep.Own.nil w).add_box (T:=41) (cs:=#[.int .i64 ((n:Int)),.slice A0_1 l0_1.length c0_1]) hg hbox hb);clear hg hbox hb)|((with_reducible refine gate_dst (N:=2) rfl ?_);refine box_event ?hg (N:=2) ?hd (cs:=#[.int .i64 0,.slice none 0 0,.int .i64 0]) (t:=28) ?hr ?_;(case hd=>rfl);(case hg=>rfl);(case hr=>exact za_);intro gr hg w_2 hbox hb;have HO_2:=aM (HO_1.out.add_box (T:=28) (cs:=#[.int .i64 0,.slice none 0 0,.int .i64 0]) hg hbox hb);clear hg hbox hb;have z_1:w_2.cell? ⟨gt,0,none⟩=some (.int .i64 ((n:Int))):=(HO_2.out.cell 1 rfl 0 rfl))|((with_reducible refine gate_dst (N:=3) rfl ?_);refine box_event ?hg (N:=3) ?hd (cs:=#[.int .i64 0,.slice none 0 0,.int .i64 0]) (t:=28) ?hr ?_;(case hd=>rfl);(case hg=>rfl);(case hr=>exact za_);intro gd hg w_3 hbox hb;have HO_3:=aM (HO_2.out.add_box (T:=28) (cs:=#[.int .i64 0,.slice none 0 0,.int .i64 0]) hg hbox hb);clear hg hbox hb)|((with_reducible refine gate_store (t:=28) (p:=3) (v := .tmp 7) rfl ?_);refine Sep.own_store HO_3.out 0 gd 28 _ #[.int .i64 ((n:Int)),.slice none 0 0,.int .i64 0] rfl rfl rfl 28 (.tmp 3) (.tmp 7) rfl rfl _ rfl rfl rfl (by kernel_rfl) (by simp [Value.oneCell']) ?_;intro w_4 ho;have HO_4:=aM ho;clear ho)|((with_reducible refine gate_dst (N:=4) rfl ?_);refine box_event ?hg (N:=4) ?hd (cs:=#[.nilFunc]) (t:=89) ?hr ?_;(case hd=>rfl);(case hg=>rfl);(case hr=>exact za_);intro gv hg w_5 hbox hb;have HO_5:=aM (HO_4.out.add_box (T:=89) (cs:=#[.nilFunc]) hg hbox hb);clear hg hbox hb)|((with_reducible refine gate_store (t:=89) (p:=4) (v := .tmp 8) rfl ?_);refine Sep.own_store HO_5.out 0 gv 89 _ #[.func (.func 109) #[] #[.pointer (some ⟨gt,0,none⟩),.pointer (some ⟨gv,0,none⟩),.pointer (some ⟨gd,0,none⟩)]] rfl rfl rfl 89 (.tmp 4) (.tmp 8) rfl rfl (.func (.func 109) #[] #[.pointer (some ⟨gt,0,none⟩),.pointer (some ⟨gv,0,none⟩),.pointer (some ⟨gd,0,none⟩)]) rfl rfl rfl (by kernel_rfl) (by simp [Value.oneCell']) ?_;intro w_6 ho;have HO_6:=aM ho;clear ho;have z_2:w_6.cell? ⟨gv,0,none⟩=some (.func (.func 109) #[] #[.pointer (some ⟨gt,0,none⟩),.pointer (some ⟨gv,0,none⟩),.pointer (some ⟨gd,0,none⟩)]):=(HO_6.out.cell 0 rfl 0 rfl))|((with_reducible refine gate_dst (N:=10) rfl ?_);refine Sep.goesCL_ (some 10) rfl rfl (f:=109) (fn:=Try.f109) Try.func109 (by kernel_rfl) rfl #[.int .i64 0,.int .i64 0,.pointer (some ⟨gt,0,none⟩),.pointer (some ⟨gv,0,none⟩),.pointer (some ⟨gd,0,none⟩)] rfl rfl ze_ ?_;refine (impl_diagramOf.build w gt gv gd n HN4.out l0_1 HVL.out _ _ HC.out n 0 [] 0 0 _ _ [Item.box gr 28 #[.int .i64 0,.slice none 0 0,.int .i64 0]] (Nat.le_refl _) (by simp) (by simp) rfl (by rw [List.length_nil,Nat.zero_add];exact Nat.le_trans (Nat.pow_le_pow_right (by decide) HN4.out) (by decide)) (((((HO_6.out.nilrow k93 93).front 1 rfl).front 4 rfl).front 2 rfl).front 3 rfl)).mono ?_;rw [HB.out];rintro e w_7 ⟨rfl,vo,ho⟩;refine ⟨_,rfl,?_⟩;obtain ⟨A_b,c_b,rfl⟩:=ho.row_slice 1 rfl;have HO_7:=aM ho;clear ho)|((with_reducible refine gate_store (t:=3) (p:=11) (v := .tmp 10) rfl ?_);refine Sep.own_store_at HO_7.out 0 gd 28 _ rfl rfl rfl 3 (.tmp 11) (.tmp 10) rfl 2 rfl (.int .i64 rr) rfl rfl (by kernel_rfl) rfl (by simp) ?_;intro w_8 ho;have HO_8:=aM ho;clear ho;have z_3:w_8.cell? ⟨gd,0,none⟩=some (.int .i64 ((n:Int))):=(HO_8.out.cell 0 rfl 0 rfl);have z_4:w_8.cell? ⟨gd,1,none⟩=some (.slice A_b n2.length c_b):=(HO_8.out.cell 0 rfl 1 rfl);have z_5:w_8.cell? ⟨gd,2,none⟩=some (.int .i64 rr):=(HO_8.out.cell 0 rfl 2 rfl))|((with_reducible refine gate_store (t:=28) (p:=2) (v := .tmp 12) rfl ?_);refine Sep.own_store HO_8.out 4 gr 28 _ #[.int .i64 ((n:Int)),.slice A_b n2.length c_b,.int .i64 rr] rfl rfl rfl 28 (.tmp 2) (.tmp 12) rfl rfl _ rfl rfl rfl (by kernel_rfl) (by simp [Value.oneCell']) ?_;intro w_9 ho;have HO_9:=aM ho;clear ho))
  (try simp only [Exit.inBlock,Exit.then])
  refine bodyPost_ret (results_cell_row rfl _ _ gr 28 #[.int .i64 ((n:Int)),.slice A_b n2.length c_b,.int .i64 rr] (0,0) _ rfl (HO_9.out.blk 4 rfl) Try.underlying28 rfl (by kernel_rfl)) rfl ?_
  obtain ⟨P_,hP⟩:=HO_9.out.get 1 rfl
  exact ⟨_,rfl,Kd.R_mono hP (fun _ _=>trivial),HO_9.out.base⟩
 ·cases h
end Go.Proofs.Ytlnhpkjioppbiaa.QFnDiagramOrders
