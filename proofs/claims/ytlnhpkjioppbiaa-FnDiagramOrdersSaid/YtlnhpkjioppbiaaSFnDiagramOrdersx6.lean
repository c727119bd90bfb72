/- Functions of FnDiagramOrders, each as a Lean function, with the proof that the Go code comes to its answers. -/
import Derived.Test.YtlnhpkjioppbiaaSFnDiagramOrdersx3
namespace Go.Proofs.Ytlnhpkjioppbiaa.QFnDiagramOrders
open Go.RowKit Go.Proofs.YtlnhpkjioppbiaaW.PrintWords Go.Proofs.YtlnhpkjioppbiaaW.PrintLast Go.Proofs.YtlnhpkjioppbiaaW.PrintMore
open Go.Proofs.YtlnhpkjioppbiaaW.PrintWords renaming pw_below_drewN→pN,below_drew1→p1,below_alloc→pA
open Go.Proofs.YtlnhpkjioppbiaaW.PrintWords.Kd renaming R_alloc→kA,R_drewN→kN,R_drew→kD,Q_alloc→qA,Q_drewN→qN,Q_drew→qD,C_alloc→cA,C_drewN→cN,C_drew→cD
open Go.Proofs.YtlnhpkjioppbiaaW.PrintWords.Aside0 renaming mk→aM
open List renaming setIfInBounds_toArray→sI,set_cons_zero→s0,set_cons_succ→sS,map_toArray→mT,length_take→lT,length_drop→lD,map_cons→mC,map_nil→mN
attribute [local go_sem] max2_int min2_int max_two min_two max_three min_three max_four min_four
set_option maxHeartbeats 8000000
set_option maxRecDepth 100000
set_option linter.unusedVariables false
set_option linter.unusedSimpArgs false
attribute [local go_sem high] eqA93
open Option renaming bind_eq_some_iff→oB
open Option renaming bind_eq_some_iff→oB,bind_some→oS
mutual
def spec_ddSame.j0:Nat→Bool→Int→List (S93)→Int→Int→List (S93)→Int→Option (Bool)
 | 0,_,_,_,_,_,_,_=>none
 | k+1,x27,x114000,x114001,x114002,x115000,x115001,x115002=>if x27=true then (some false) else (spec_ddSame.l0 k x114001 (x114001.length:Int) 0 x115000 x115001 x115002)
def spec_ddSame.l0:Nat→List (S93)→Int→Int→Int→List (S93)→Int→Option (Bool)
 | 0,_,_,_,_,_,_=>none
 | k+1,x29,x30,x31,x115000,x115001,x115002=>if x31<x30 then (if 0≤x31 then (if x31<(x29.length:Int) then (if x31<(x115001.length:Int) then (if (!(((rd_T93 x29 x31).f0) == ((rd_T93 x115001 x31).f0)) || (!(((rd_T93 x29 x31).f1) == ((rd_T93 x115001 x31).f1)) || (!(((rd_T93 x29 x31).f2) == ((rd_T93 x115001 x31).f2)))))=true then (some false) else (spec_ddSame.l0 k x29 x30 (wrap64 (x31+1)) x115000 x115001 x115002)) else (none)) else (none)) else (none)) else (some true)
end
def spec_ddSame.f (k:Nat) (a0_0:Int) (l0_1:List (S93)) (a0_2:Int) (a1_0:Int) (l1_1:List (S93)) (a1_2:Int):Option (Bool):=if a0_0=a1_0 then (if a0_2=a1_2 then (spec_ddSame.j0 k ((l0_1.length:Int) != (l1_1.length:Int)) a0_0 l0_1 a0_2 a1_0 l1_1 a1_2) else (spec_ddSame.j0 k true a0_0 l0_1 a0_2 a1_0 l1_1 a1_2)) else (spec_ddSame.j0 k true a0_0 l0_1 a0_2 a1_0 l1_1 a1_2)
theorem spec_ddSame.calls (k:Nat) (a0_0:Int) (A0_1:Option Addr) (c0_1:Nat) (l0_1:List (S93)) (a0_2:Int) (a1_0:Int) (A1_1:Option Addr) (c1_1:Nat) (l1_1:List (S93)) (a1_2:Int) (r:Bool) (w:World) (hr0_1:Kd.C k93 w A0_1 l0_1.length l0_1) (hc0_1:l0_1.length≤c0_1) (hr1_1:Kd.C k93 w A1_1 l1_1.length l1_1) (hc1_1:l1_1.length≤c1_1) (h:spec_ddSame.f k a0_0 l0_1 a0_2 a1_0 l1_1 a1_2=some r) :
  Calls Try.prog 102 #[.agg #[.int .i64 a0_0,.slice A0_1 l0_1.length c0_1,.int .i64 a0_2],.agg #[.int .i64 a1_0,.slice A1_1 l1_1.length c1_1,.int .i64 a1_2]] w fun e w'=>e = .returned (.bool r)∧Below w.heap.size w w':=by
 have hu28:=Try.underlying28
 have hu93:=Try.underlying93
 have HR0_1:=aM hr0_1
 have HC0_1:=aM hc0_1
 clear hr0_1 hc0_1
 have HR1_1:=aM hr1_1
 have HC1_1:=aM hc1_1
 clear hr1_1 hc1_1
 have HB:=aM (Below.refl w.heap.size w)
 have H:(if a0_0=a1_0 then (if a0_2=a1_2 then (spec_ddSame.j0 k ((l0_1.length:Int) != (l1_1.length:Int)) a0_0 l0_1 a0_2 a1_0 l1_1 a1_2) else (spec_ddSame.j0 k true a0_0 l0_1 a0_2 a1_0 l1_1 a1_2)) else (spec_ddSame.j0 k true a0_0 l0_1 a0_2 a1_0 l1_1 a1_2))=some r:=h
 clear h
 have HC3:=aM H
 clear H
 go_enter Try.func102,Try.ntmps102
 go_upto_region 1 with (first | ((with_reducible refine gate_dst (N:=2) rfl ?_);(try (refine gate_guard (by rfl) ?_;dsimp only));refine box_event ?hg (N:=2) ?hd (cs:=#[.int .i64 a0_0,.slice A0_1 l0_1.length c0_1,.int .i64 a0_2]) (t:=28) ?hr ?_;(case hd=>rfl);(case hg=>rfl);(case hr=>exact za_);intro gb113 hg w4 hbox hb;have n_:=z (below_step zb_ hb)<|z (hbox)<|z ((by rw [hg];exact (below_size zb_):w.heap.size≤gb113))<|z1 ((by rw [hg];exact (below_size zb_):w.heap.size≤gb113));clear HB;obtain ⟨HB,BK113,GW113,GE113⟩:=n_;clear hb hbox hg)|((with_reducible refine gate_dst (N:=3) rfl ?_);(try (refine gate_guard (by rfl) ?_;dsimp only));refine box_event ?hg (N:=3) ?hd (cs:=#[.int .i64 a1_0,.slice A1_1 l1_1.length c1_1,.int .i64 a1_2]) (t:=28) ?hr ?_;(case hd=>rfl);(case hg=>rfl);(case hr=>exact za_);intro gb114 hg w5 hbox hb;have n_:=z (blk_below (zb BK113.out) hb)<|z (below_step zdj_ hb)<|z (hbox)<|z ((by rw [hg];exact (below_size zdj_):w.heap.size≤gb114))<|z ((by rw [hg];exact (below_size zdj_):w.heap.size≤gb114))<|z ((by rw [hg];exact Nat.ne_of_lt (blk_lt (zb BK113.out)):gb113≠gb114))<|z1 ((by rw [hg];exact Nat.ne_of_gt (blk_lt (zb BK113.out)):gb114≠gb113));clear BK113 HB;obtain ⟨BK113,HB,BK114,GW114,GE114,NB113_114,NB114_113⟩:=n_;clear hb hbox hg))
 repeat (go_quiet (first | ((with_reducible refine gate_dst (N:=2) rfl ?_);(try (refine gate_guard (by rfl) ?_;dsimp only));refine box_event ?hg (N:=2) ?hd (cs:=#[.int .i64 a0_0,.slice A0_1 l0_1.length c0_1,.int .i64 a0_2]) (t:=28) ?hr ?_;(case hd=>rfl);(case hg=>rfl);(case hr=>exact za_);intro gb113 hg w4 hbox hb;have n_:=z (below_step zb_ hb)<|z (hbox)<|z ((by rw [hg];exact (below_size zb_):w.heap.size≤gb113))<|z1 ((by rw [hg];exact (below_size zb_):w.heap.size≤gb113));clear HB;obtain ⟨HB,BK113,GW113,GE113⟩:=n_;clear hb hbox hg)|((with_reducible refine gate_dst (N:=3) rfl ?_);(try (refine gate_guard (by rfl) ?_;dsimp only));refine box_event ?hg (N:=3) ?hd (cs:=#[.int .i64 a1_0,.slice A1_1 l1_1.length c1_1,.int .i64 a1_2]) (t:=28) ?hr ?_;(case hd=>rfl);(case hg=>rfl);(case hr=>exact za_);intro gb114 hg w5 hbox hb;have n_:=z (blk_below (zb BK113.out) hb)<|z (below_step zdj_ hb)<|z (hbox)<|z ((by rw [hg];exact (below_size zdj_):w.heap.size≤gb114))<|z ((by rw [hg];exact (below_size zdj_):w.heap.size≤gb114))<|z ((by rw [hg];exact Nat.ne_of_lt (blk_lt (zb BK113.out)):gb113≠gb114))<|z1 ((by rw [hg];exact Nat.ne_of_gt (blk_lt (zb BK113.out)):gb114≠gb113));clear BK113 HB;obtain ⟨BK113,HB,BK114,GW114,GE114,NB113_114,NB114_113⟩:=n_;clear hb hbox hg));go_upto_region 1 with (first | ((with_reducible refine gate_dst (N:=2) rfl ?_);(try (refine gate_guard (by rfl) ?_;dsimp only));refine box_event ?hg (N:=2) ?hd (cs:=#[.int .i64 a0_0,.slice A0_1 l0_1.length c0_1,.int .i64 a0_2]) (t:=28) ?hr ?_;(case hd=>rfl);(case hg=>rfl);(case hr=>exact za_);intro gb113 hg w4 hbox hb;have n_:=z (below_step zb_ hb)<|z (hbox)<|z ((by rw [hg];exact (below_size zb_):w.heap.size≤gb113))<|z1 ((by rw [hg];exact (below_size zb_):w.heap.size≤gb113));clear HB;obtain ⟨HB,BK113,GW113,GE113⟩:=n_;clear hb hbox hg)|((with_reducible refine gate_dst (N:=3) rfl ?_);(try (refine gate_guard (by rfl) ?_;dsimp only));refine box_event ?hg (N:=3) ?hd (cs:=#[.int .i64 a1_0,.slice A1_1 l1_1.length c1_1,.int .i64 a1_2]) (t:=28) ?hr ?_;(case hd=>rfl);(case hg=>rfl);(case hr=>exact za_);intro gb114 hg w5 hbox hb;have n_:=z (blk_below (zb BK113.out) hb)<|z (below_step zdj_ hb)<|z (hbox)<|z ((by rw [hg];exact (below_size zdj_):w.heap.size≤gb114))<|z ((by rw [hg];exact (below_size zdj_):w.heap.size≤gb114))<|z ((by rw [hg];exact Nat.ne_of_lt (blk_lt (zb BK113.out)):gb113≠gb114))<|z1 ((by rw [hg];exact Nat.ne_of_gt (blk_lt (zb BK113.out)):gb114≠gb113));clear BK113 HB;obtain ⟨BK113,HB,BK114,GW114,GE114,NB113_114,NB114_113⟩:=n_;clear hb hbox hg)))
 (try simp only [Act.put,sI,s0,sS])
 go_cut [27] (fun v27 wc => ∃ (kq:Nat) (x27_2:Bool),v27 = .bool x27_2∧Aside0 (spec_ddSame.j0 kq x27_2 a0_0 l0_1 a0_2 a1_0 l1_1 a1_2=some r)∧Aside0 (kq≤k)∧Aside0 (wc.heap[gb113]?=some (.cells #[.int .i64 a0_0,(.slice A0_1 l0_1.length c0_1),.int .i64 a0_2] 28 (0,0)))∧Aside0 (wc.heap[gb114]?=some (.cells #[.int .i64 a1_0,(.slice A1_1 l1_1.length c1_1),.int .i64 a1_2] 28 (0,0)))∧Aside0 (Below w.heap.size w wc))
 case first =>
  have H:=HC3.out;clear HC3
  by_cases c6:a0_0=a1_0
  ·rw [if_pos c6] at H
   have c6b0:=beq_iff_eq.mpr c6;have c6b1:=bne_eq_false_iff_eq.mpr c6;clear c6;(first | rw [c6b0]|(simp only [i64_w,i32_w];rw [c6b0]) | skip)
   by_cases c7:a0_2=a1_2
   ·rw [if_pos c7] at H
    have c7b0:=beq_iff_eq.mpr c7;have c7b1:=bne_eq_false_iff_eq.mpr c7;clear c7;have H':=aM H;clear H;have hnb8:=NB113_114.out;have hnc8:=NB114_113.out;obtain ⟨hcz9_0,hcz9_1,hcz9_2,hfz9_0,hfz9_1,hfz9_2⟩:=zk3 BK113.out;obtain ⟨hcz10_0,hcz10_1,hcz10_2,hfz10_0,hfz10_1,hfz10_2⟩:=zk3 BK114.out
    go_wp2
    repeat (go_quiet (fail);try go_wp2)
    go_meet
    case rel=>exact ⟨_,(((l0_1.length:Int) != (l1_1.length:Int))),zd_,H',⟨zbe_⟩,⟨zb BK113.out⟩,⟨zb BK114.out⟩,⟨zbh_⟩⟩
   ·rw [if_neg c7] at H
    have c7b0:=beq_eq_false_iff_ne.mpr c7;have c7b1:=bne_iff_ne.mpr c7;have H':=aM H;clear H;have hnb11:=NB113_114.out;have hnc11:=NB114_113.out;obtain ⟨hcz12_0,hcz12_1,hcz12_2,hfz12_0,hfz12_1,hfz12_2⟩:=zk3 BK113.out;obtain ⟨hcz13_0,hcz13_1,hcz13_2,hfz13_0,hfz13_1,hfz13_2⟩:=zk3 BK114.out
    go_wp2
    repeat (go_quiet (fail);try go_wp2)
    go_meet
    case rel=>exact ⟨_,(true),zd_,H',⟨zbe_⟩,⟨zb BK113.out⟩,⟨zb BK114.out⟩,⟨zbh_⟩⟩
  ·rw [if_neg c6] at H
   have c6b0:=beq_eq_false_iff_ne.mpr c6;have c6b1:=bne_iff_ne.mpr c6;(first | rw [c6b0]|(simp only [i64_w,i32_w];rw [c6b0]) | skip);have H':=aM H;clear H;have hnb14:=NB113_114.out;have hnc14:=NB114_113.out;obtain ⟨hcz15_0,hcz15_1,hcz15_2,hfz15_0,hfz15_1,hfz15_2⟩:=zk3 BK113.out;obtain ⟨hcz16_0,hcz16_1,hcz16_2,hfz16_0,hfz16_1,hfz16_2⟩:=zk3 BK114.out
   go_wp2
   repeat (go_quiet (fail);try go_wp2)
   go_meet
   case rel=>exact ⟨_,(true),zd_,H',⟨zbe_⟩,⟨zb BK113.out⟩,⟨zb BK114.out⟩,⟨zbh_⟩⟩
 case rest =>
  clear HC3;obtain ⟨kq,x27_2,rfl,HA,HJ2,BK113,BK114,HB⟩:=hcut
  cases kq with
  | zero=>exact absurd HA.out (by simp [spec_ddSame.j0])
  | succ kj2 =>
   have H:=HA.out;clear HA
   simp only [spec_ddSame.j0] at H
   by_cases c17:x27_2=true
   ·subst c17
    have H1:(some false)=some r:=by rw [if_pos rfl] at H;exact H
    clear H;have H:=H1;clear H1;obtain rfl:=Option.some.inj H
    go_wp2
    repeat (go_quiet (fail);try go_wp2)
    go_ret
    exact ⟨zg_,zbh_⟩
   ·replace c17:=Bool.eq_false_iff.mpr c17
    subst c17;have H1:(spec_ddSame.l0 kj2 l0_1 (l0_1.length:Int) 0 a1_0 l1_1 a1_2)=some r:=by rw [if_neg (show ¬ (false=true) by decide)] at H;exact H
    clear H;have H:=H1;clear H1;have H':=aM H;clear H;have hnb18:=NB113_114.out;have hnc18:=NB114_113.out;obtain ⟨hcz19_0,hcz19_1,hcz19_2,hfz19_0,hfz19_1,hfz19_2⟩:=zk3 BK113.out
    go_wp2
    repeat (go_quiet (fail);try go_wp2)
    go_loopg [31] kj2 (fun kq v31 w' => ∃ (x31_2:Int),v31 = .int .i64 x31_2∧Aside0 (spec_ddSame.l0 kq l0_1 (l0_1.length:Int) x31_2 a1_0 l1_1 a1_2=some r)∧Aside0 (kq≤kj2)∧Aside0 (w'.heap[gb113]?=some (.cells #[.int .i64 a0_0,(.slice A0_1 l0_1.length c0_1),.int .i64 a0_2] 28 (0,0)))∧Aside0 (w'.heap[gb114]?=some (.cells #[.int .i64 a1_0,(.slice A1_1 l1_1.length c1_1),.int .i64 a1_2] 28 (0,0)))∧Aside0 (Below w.heap.size w w'))
    case atStart=>exact ⟨(0),zd_,H',⟨Nat.le_refl _⟩,⟨zb BK113.out⟩,⟨zb BK114.out⟩,⟨zbh_⟩⟩
    case round =>
     clear H';(try clear hcz19_0);(try clear hcz19_1);(try clear hcz19_2);(try clear hfz19_0);(try clear hfz19_1);(try clear hfz19_2);obtain ⟨x31_2,rfl,HA,HK2,BK113,BK114,HB⟩:=hrel
     cases gk with
     | zero=>exact absurd HA.out (by simp [spec_ddSame.l0])
     | succ k2 =>
      have H:=HA.out;clear HA
      simp only [spec_ddSame.l0] at H
      by_cases c20:x31_2<(l0_1.length:Int)
      ·rw [if_pos c20] at H
       have c20b0:=decide_eq_true c20;clear c20
       by_cases c21:0≤x31_2
       ·rw [if_pos c21] at H
        have c21b0:=decide_eq_true c21;clear c21
        by_cases c22:x31_2<(l0_1.length:Int)
        ·rw [if_pos c22] at H
         have c22b0:=decide_eq_true c22;clear c22
         by_cases c23:x31_2<(l1_1.length:Int)
         ·rw [if_pos c23] at H
          have c23b0:=decide_eq_true c23;clear c23
          by_cases c24:(!(((rd_T93 l0_1 x31_2).f0) == ((rd_T93 l1_1 x31_2).f0)) || (!(((rd_T93 l0_1 x31_2).f1) == ((rd_T93 l1_1 x31_2).f1)) || (!(((rd_T93 l0_1 x31_2).f2) == ((rd_T93 l1_1 x31_2).f2)))))=true
          ·rw [if_pos c24] at H
           have c24b0:(!(((rd_T93 l0_1 x31_2).f0) == ((rd_T93 l1_1 x31_2).f0)) || (!(((rd_T93 l0_1 x31_2).f1) == ((rd_T93 l1_1 x31_2).f1)) || (!(((rd_T93 l0_1 x31_2).f2) == ((rd_T93 l1_1 x31_2).f2)))))=true:=c24;clear c24;obtain rfl:=Option.some.inj H;have p115:0≤(x31_2:Int):=of_decide_eq_true zc_;have q115:x31_2<(l0_1.length:Int):=of_decide_eq_true zc_;obtain ⟨ad115,e115,hx115_0,hx115_1,hx115_2⟩:=at_T93 HR0_1.out x31_2 p115 q115
           cases e115
           (try (replace hx115_0:=q3h_ HB.out hx115_0));(try (replace hx115_1:=q3h_ HB.out hx115_1));(try (replace hx115_2:=q3h_ HB.out hx115_2));replace p115:=eq_true p115;replace q115:=eq_true q115
           go_wp2_with (first | ((with_reducible refine gate_dst (N:=6) rfl ?_);(try (refine gate_guard (by rfl) ?_;dsimp only));refine box_event ?hg (N:=6) ?hd (cs:=#[.int .i64 0,.int .i64 0,.int .i64 0]) (t:=93) ?hr ?_;(case hd=>rfl);(case hg=>rfl);(case hr=>exact za_);intro gb116 hg w25 hbox hb;have n_:=z (blk_below (zb BK113.out) hb)<|z (blk_below (zb BK114.out) hb)<|z (below_step zbh_ hb)<|z (hbox)<|z ((by rw [hg];exact (below_size zbh_):w.heap.size≤gb116))<|z ((by rw [hg];exact (below_size zbh_):w.heap.size≤gb116))<|z ((by rw [hg];exact Nat.ne_of_lt (blk_lt (zb BK113.out)):gb113≠gb116))<|z ((by rw [hg];exact Nat.ne_of_gt (blk_lt (zb BK113.out)):gb116≠gb113))<|z ((by rw [hg];exact Nat.ne_of_lt (blk_lt (zb BK114.out)):gb114≠gb116))<|z1 ((by rw [hg];exact Nat.ne_of_gt (blk_lt (zb BK114.out)):gb116≠gb114));clear BK113 BK114 HB;obtain ⟨BK113,BK114,HB,BK116,GW116,GE116,NB113_116,NB116_113,NB114_116,NB116_114⟩:=n_;clear hb hbox hg;have hnb26:=NB116_113.out;have hnc26:=NB113_116.out;have hnb27:=NB116_114.out;have hnc27:=NB114_116.out;obtain ⟨hcz28_0,hcz28_1,hcz28_2,hfz28_0,hfz28_1,hfz28_2⟩:=zk3 BK116.out;have hnb29:=NB114_113.out;have hnc29:=NB113_114.out;obtain ⟨hcz30_0,hcz30_1,hcz30_2,hfz30_0,hfz30_1,hfz30_2⟩:=zk3 BK114.out;have p117:0≤(x31_2:Int):=of_decide_eq_true zc_;have q117:x31_2<(l1_1.length:Int):=of_decide_eq_true zc_;obtain ⟨ad117,e117,hx117_0,hx117_1,hx117_2⟩:=at_T93 HR1_1.out x31_2 p117 q117;cases e117;have hn117_0:ad117.block≠gb116:=Nat.ne_of_lt (Nat.lt_of_lt_of_le zce_ GW116.out);have hn117_1:ad117.block≠gb116:=Nat.ne_of_lt (Nat.lt_of_lt_of_le zce_ GW116.out);have hn117_2:ad117.block≠gb116:=Nat.ne_of_lt (Nat.lt_of_lt_of_le zce_ GW116.out);replace hx117_0:=(HB.out.cell (World.block_lt_of_cell? w _ hx117_0)).trans hx117_0;replace hx117_1:=(HB.out.cell (World.block_lt_of_cell? w _ hx117_1)).trans hx117_1;replace hx117_2:=(HB.out.cell (World.block_lt_of_cell? w _ hx117_2)).trans hx117_2;replace hx117_0:=(cell_far (p:=⟨gb116,0,none⟩) zcf_ (.int .i64 ((rd_T93 l0_1 x31_2).f0))).trans hx117_0;replace hx117_1:=(cell_far (p:=⟨gb116,0,none⟩) zcf_ (.int .i64 ((rd_T93 l0_1 x31_2).f0))).trans hx117_1;replace hx117_2:=(cell_far (p:=⟨gb116,0,none⟩) zcf_ (.int .i64 ((rd_T93 l0_1 x31_2).f0))).trans hx117_2;replace hx117_0:=(cell_far (p:=⟨gb116,1,none⟩) zcg_ (.int .i64 ((rd_T93 l0_1 x31_2).f1))).trans hx117_0;replace hx117_1:=(cell_far (p:=⟨gb116,1,none⟩) zcg_ (.int .i64 ((rd_T93 l0_1 x31_2).f1))).trans hx117_1;replace hx117_2:=(cell_far (p:=⟨gb116,1,none⟩) zcg_ (.int .i64 ((rd_T93 l0_1 x31_2).f1))).trans hx117_2;replace hx117_0:=(cell_far (p:=⟨gb116,2,none⟩) zch_ (.int .i64 ((rd_T93 l0_1 x31_2).f2))).trans hx117_0;replace hx117_1:=(cell_far (p:=⟨gb116,2,none⟩) zch_ (.int .i64 ((rd_T93 l0_1 x31_2).f2))).trans hx117_1;replace hx117_2:=(cell_far (p:=⟨gb116,2,none⟩) zch_ (.int .i64 ((rd_T93 l0_1 x31_2).f2))).trans hx117_2;(try have hy117_0:=fun (n_:Nat)=>(show (((((w25.drewN n_).setCell ⟨gb116,0,none⟩ (.int .i64 ((rd_T93 l0_1 x31_2).f0))).setCell ⟨gb116,1,none⟩ (.int .i64 ((rd_T93 l0_1 x31_2).f1))).setCell ⟨gb116,2,none⟩ (.int .i64 ((rd_T93 l0_1 x31_2).f2)))).cell? _=some _ from hx117_0));(try have hy117_1:=fun (n_:Nat)=>(show (((((w25.drewN n_).setCell ⟨gb116,0,none⟩ (.int .i64 ((rd_T93 l0_1 x31_2).f0))).setCell ⟨gb116,1,none⟩ (.int .i64 ((rd_T93 l0_1 x31_2).f1))).setCell ⟨gb116,2,none⟩ (.int .i64 ((rd_T93 l0_1 x31_2).f2)))).cell? _=some _ from hx117_1));(try have hy117_2:=fun (n_:Nat)=>(show (((((w25.drewN n_).setCell ⟨gb116,0,none⟩ (.int .i64 ((rd_T93 l0_1 x31_2).f0))).setCell ⟨gb116,1,none⟩ (.int .i64 ((rd_T93 l0_1 x31_2).f1))).setCell ⟨gb116,2,none⟩ (.int .i64 ((rd_T93 l0_1 x31_2).f2)))).cell? _=some _ from hx117_2));clear hn117_0 hn117_1 hn117_2;replace p117:=eq_true p117;replace q117:=eq_true q117))
           repeat (go_quiet (first | ((with_reducible refine gate_dst (N:=6) rfl ?_);(try (refine gate_guard (by rfl) ?_;dsimp only));refine box_event ?hg (N:=6) ?hd (cs:=#[.int .i64 0,.int .i64 0,.int .i64 0]) (t:=93) ?hr ?_;(case hd=>rfl);(case hg=>rfl);(case hr=>exact za_);intro gb116 hg w25 hbox hb;have n_:=z (blk_below (zb BK113.out) hb)<|z (blk_below (zb BK114.out) hb)<|z (below_step zbh_ hb)<|z (hbox)<|z ((by rw [hg];exact (below_size zbh_):w.heap.size≤gb116))<|z ((by rw [hg];exact (below_size zbh_):w.heap.size≤gb116))<|z ((by rw [hg];exact Nat.ne_of_lt (blk_lt (zb BK113.out)):gb113≠gb116))<|z ((by rw [hg];exact Nat.ne_of_gt (blk_lt (zb BK113.out)):gb116≠gb113))<|z ((by rw [hg];exact Nat.ne_of_lt (blk_lt (zb BK114.out)):gb114≠gb116))<|z1 ((by rw [hg];exact Nat.ne_of_gt (blk_lt (zb BK114.out)):gb116≠gb114));clear BK113 BK114 HB;obtain ⟨BK113,BK114,HB,BK116,GW116,GE116,NB113_116,NB116_113,NB114_116,NB116_114⟩:=n_;clear hb hbox hg;have hnb26:=NB116_113.out;have hnc26:=NB113_116.out;have hnb27:=NB116_114.out;have hnc27:=NB114_116.out;obtain ⟨hcz28_0,hcz28_1,hcz28_2,hfz28_0,hfz28_1,hfz28_2⟩:=zk3 BK116.out;have hnb29:=NB114_113.out;have hnc29:=NB113_114.out;obtain ⟨hcz30_0,hcz30_1,hcz30_2,hfz30_0,hfz30_1,hfz30_2⟩:=zk3 BK114.out;have p117:0≤(x31_2:Int):=of_decide_eq_true zc_;have q117:x31_2<(l1_1.length:Int):=of_decide_eq_true zc_;obtain ⟨ad117,e117,hx117_0,hx117_1,hx117_2⟩:=at_T93 HR1_1.out x31_2 p117 q117;cases e117;have hn117_0:ad117.block≠gb116:=Nat.ne_of_lt (Nat.lt_of_lt_of_le zce_ GW116.out);have hn117_1:ad117.block≠gb116:=Nat.ne_of_lt (Nat.lt_of_lt_of_le zce_ GW116.out);have hn117_2:ad117.block≠gb116:=Nat.ne_of_lt (Nat.lt_of_lt_of_le zce_ GW116.out);replace hx117_0:=(HB.out.cell (World.block_lt_of_cell? w _ hx117_0)).trans hx117_0;replace hx117_1:=(HB.out.cell (World.block_lt_of_cell? w _ hx117_1)).trans hx117_1;replace hx117_2:=(HB.out.cell (World.block_lt_of_cell? w _ hx117_2)).trans hx117_2;replace hx117_0:=(cell_far (p:=⟨gb116,0,none⟩) zcf_ (.int .i64 ((rd_T93 l0_1 x31_2).f0))).trans hx117_0;replace hx117_1:=(cell_far (p:=⟨gb116,0,none⟩) zcf_ (.int .i64 ((rd_T93 l0_1 x31_2).f0))).trans hx117_1;replace hx117_2:=(cell_far (p:=⟨gb116,0,none⟩) zcf_ (.int .i64 ((rd_T93 l0_1 x31_2).f0))).trans hx117_2;replace hx117_0:=(cell_far (p:=⟨gb116,1,none⟩) zcg_ (.int .i64 ((rd_T93 l0_1 x31_2).f1))).trans hx117_0;replace hx117_1:=(cell_far (p:=⟨gb116,1,none⟩) zcg_ (.int .i64 ((rd_T93 l0_1 x31_2).f1))).trans hx117_1;replace hx117_2:=(cell_far (p:=⟨gb116,1,none⟩) zcg_ (.int .i64 ((rd_T93 l0_1 x31_2).f1))).trans hx117_2;replace hx117_0:=(cell_far (p:=⟨gb116,2,none⟩) zch_ (.int .i64 ((rd_T93 l0_1 x31_2).f2))).trans hx117_0;replace hx117_1:=(cell_far (p:=⟨gb116,2,none⟩) zch_ (.int .i64 ((rd_T93 l0_1 x31_2).f2))).trans hx117_1;replace hx117_2:=(cell_far (p:=⟨gb116,2,none⟩) zch_ (.int .i64 ((rd_T93 l0_1 x31_2).f2))).trans hx117_2;(try have hy117_0:=fun (n_:Nat)=>(show (((((w25.drewN n_).setCell ⟨gb116,0,none⟩ (.int .i64 ((rd_T93 l0_1 x31_2).f0))).setCell ⟨gb116,1,none⟩ (.int .i64 ((rd_T93 l0_1 x31_2).f1))).setCell ⟨gb116,2,none⟩ (.int .i64 ((rd_T93 l0_1 x31_2).f2)))).cell? _=some _ from hx117_0));(try have hy117_1:=fun (n_:Nat)=>(show (((((w25.drewN n_).setCell ⟨gb116,0,none⟩ (.int .i64 ((rd_T93 l0_1 x31_2).f0))).setCell ⟨gb116,1,none⟩ (.int .i64 ((rd_T93 l0_1 x31_2).f1))).setCell ⟨gb116,2,none⟩ (.int .i64 ((rd_T93 l0_1 x31_2).f2)))).cell? _=some _ from hx117_1));(try have hy117_2:=fun (n_:Nat)=>(show (((((w25.drewN n_).setCell ⟨gb116,0,none⟩ (.int .i64 ((rd_T93 l0_1 x31_2).f0))).setCell ⟨gb116,1,none⟩ (.int .i64 ((rd_T93 l0_1 x31_2).f1))).setCell ⟨gb116,2,none⟩ (.int .i64 ((rd_T93 l0_1 x31_2).f2)))).cell? _=some _ from hx117_2));clear hn117_0 hn117_1 hn117_2;replace p117:=eq_true p117;replace q117:=eq_true q117));try go_wp2_with (first | ((with_reducible refine gate_dst (N:=6) rfl ?_);(try (refine gate_guard (by rfl) ?_;dsimp only));refine box_event ?hg (N:=6) ?hd (cs:=#[.int .i64 0,.int .i64 0,.int .i64 0]) (t:=93) ?hr ?_;(case hd=>rfl);(case hg=>rfl);(case hr=>exact za_);intro gb116 hg w25 hbox hb;have n_:=z (blk_below (zb BK113.out) hb)<|z (blk_below (zb BK114.out) hb)<|z (below_step zbh_ hb)<|z (hbox)<|z ((by rw [hg];exact (below_size zbh_):w.heap.size≤gb116))<|z ((by rw [hg];exact (below_size zbh_):w.heap.size≤gb116))<|z ((by rw [hg];exact Nat.ne_of_lt (blk_lt (zb BK113.out)):gb113≠gb116))<|z ((by rw [hg];exact Nat.ne_of_gt (blk_lt (zb BK113.out)):gb116≠gb113))<|z ((by rw [hg];exact Nat.ne_of_lt (blk_lt (zb BK114.out)):gb114≠gb116))<|z1 ((by rw [hg];exact Nat.ne_of_gt (blk_lt (zb BK114.out)):gb116≠gb114));clear BK113 BK114 HB;obtain ⟨BK113,BK114,HB,BK116,GW116,GE116,NB113_116,NB116_113,NB114_116,NB116_114⟩:=n_;clear hb hbox hg;have hnb26:=NB116_113.out;have hnc26:=NB113_116.out;have hnb27:=NB116_114.out;have hnc27:=NB114_116.out;obtain ⟨hcz28_0,hcz28_1,hcz28_2,hfz28_0,hfz28_1,hfz28_2⟩:=zk3 BK116.out;have hnb29:=NB114_113.out;have hnc29:=NB113_114.out;obtain ⟨hcz30_0,hcz30_1,hcz30_2,hfz30_0,hfz30_1,hfz30_2⟩:=zk3 BK114.out;have p117:0≤(x31_2:Int):=of_decide_eq_true zc_;have q117:x31_2<(l1_1.length:Int):=of_decide_eq_true zc_;obtain ⟨ad117,e117,hx117_0,hx117_1,hx117_2⟩:=at_T93 HR1_1.out x31_2 p117 q117;cases e117;have hn117_0:ad117.block≠gb116:=Nat.ne_of_lt (Nat.lt_of_lt_of_le zce_ GW116.out);have hn117_1:ad117.block≠gb116:=Nat.ne_of_lt (Nat.lt_of_lt_of_le zce_ GW116.out);have hn117_2:ad117.block≠gb116:=Nat.ne_of_lt (Nat.lt_of_lt_of_le zce_ GW116.out);replace hx117_0:=(HB.out.cell (World.block_lt_of_cell? w _ hx117_0)).trans hx117_0;replace hx117_1:=(HB.out.cell (World.block_lt_of_cell? w _ hx117_1)).trans hx117_1;replace hx117_2:=(HB.out.cell (World.block_lt_of_cell? w _ hx117_2)).trans hx117_2;replace hx117_0:=(cell_far (p:=⟨gb116,0,none⟩) zcf_ (.int .i64 ((rd_T93 l0_1 x31_2).f0))).trans hx117_0;replace hx117_1:=(cell_far (p:=⟨gb116,0,none⟩) zcf_ (.int .i64 ((rd_T93 l0_1 x31_2).f0))).trans hx117_1;replace hx117_2:=(cell_far (p:=⟨gb116,0,none⟩) zcf_ (.int .i64 ((rd_T93 l0_1 x31_2).f0))).trans hx117_2;replace hx117_0:=(cell_far (p:=⟨gb116,1,none⟩) zcg_ (.int .i64 ((rd_T93 l0_1 x31_2).f1))).trans hx117_0;replace hx117_1:=(cell_far (p:=⟨gb116,1,none⟩) zcg_ (.int .i64 ((rd_T93 l0_1 x31_2).f1))).trans hx117_1;replace hx117_2:=(cell_far (p:=⟨gb116,1,none⟩) zcg_ (.int .i64 ((rd_T93 l0_1 x31_2).f1))).trans hx117_2;replace hx117_0:=(cell_far (p:=⟨gb116,2,none⟩) zch_ (.int .i64 ((rd_T93 l0_1 x31_2).f2))).trans hx117_0;replace hx117_1:=(cell_far (p:=⟨gb116,2,none⟩) zch_ (.int .i64 ((rd_T93 l0_1 x31_2).f2))).trans hx117_1;replace hx117_2:=(cell_far (p:=⟨gb116,2,none⟩) zch_ (.int .i64 ((rd_T93 l0_1 x31_2).f2))).trans hx117_2;(try have hy117_0:=fun (n_:Nat)=>(show (((((w25.drewN n_).setCell ⟨gb116,0,none⟩ (.int .i64 ((rd_T93 l0_1 x31_2).f0))).setCell ⟨gb116,1,none⟩ (.int .i64 ((rd_T93 l0_1 x31_2).f1))).setCell ⟨gb116,2,none⟩ (.int .i64 ((rd_T93 l0_1 x31_2).f2)))).cell? _=some _ from hx117_0));(try have hy117_1:=fun (n_:Nat)=>(show (((((w25.drewN n_).setCell ⟨gb116,0,none⟩ (.int .i64 ((rd_T93 l0_1 x31_2).f0))).setCell ⟨gb116,1,none⟩ (.int .i64 ((rd_T93 l0_1 x31_2).f1))).setCell ⟨gb116,2,none⟩ (.int .i64 ((rd_T93 l0_1 x31_2).f2)))).cell? _=some _ from hx117_1));(try have hy117_2:=fun (n_:Nat)=>(show (((((w25.drewN n_).setCell ⟨gb116,0,none⟩ (.int .i64 ((rd_T93 l0_1 x31_2).f0))).setCell ⟨gb116,1,none⟩ (.int .i64 ((rd_T93 l0_1 x31_2).f1))).setCell ⟨gb116,2,none⟩ (.int .i64 ((rd_T93 l0_1 x31_2).f2)))).cell? _=some _ from hx117_2));clear hn117_0 hn117_1 hn117_2;replace p117:=eq_true p117;replace q117:=eq_true q117)))
           go_ret
           exact ⟨zg_,by repeat (first | (with_reducible first | exact HB.out | apply pA | apply pN | apply p1 | refine below_set ?_ GE113.out | refine below_set ?_ GE114.out | refine below_set ?_ GE116.out) | exact HB.out)⟩
          ·rw [if_neg c24] at H
           have c24b0:(!(((rd_T93 l0_1 x31_2).f0) == ((rd_T93 l1_1 x31_2).f0)) || (!(((rd_T93 l0_1 x31_2).f1) == ((rd_T93 l1_1 x31_2).f1)) || (!(((rd_T93 l0_1 x31_2).f2) == ((rd_T93 l1_1 x31_2).f2)))))=false:=by simpa using c24
           clear c24;have H':=aM H;clear H;have p115:0≤(x31_2:Int):=of_decide_eq_true zc_;have q115:x31_2<(l0_1.length:Int):=of_decide_eq_true zc_;obtain ⟨ad115,e115,hx115_0,hx115_1,hx115_2⟩:=at_T93 HR0_1.out x31_2 p115 q115
           cases e115
           (try (replace hx115_0:=q3h_ HB.out hx115_0));(try (replace hx115_1:=q3h_ HB.out hx115_1));(try (replace hx115_2:=q3h_ HB.out hx115_2));replace p115:=eq_true p115;replace q115:=eq_true q115
           go_wp2_with (first | ((with_reducible refine gate_dst (N:=6) rfl ?_);(try (refine gate_guard (by rfl) ?_;dsimp only));refine box_event ?hg (N:=6) ?hd (cs:=#[.int .i64 0,.int .i64 0,.int .i64 0]) (t:=93) ?hr ?_;(case hd=>rfl);(case hg=>rfl);(case hr=>exact za_);intro gb116 hg w31 hbox hb;have n_:=z (blk_below (zb BK113.out) hb)<|z (blk_below (zb BK114.out) hb)<|z (below_step zbh_ hb)<|z (hbox)<|z ((by rw [hg];exact (below_size zbh_):w.heap.size≤gb116))<|z ((by rw [hg];exact (below_size zbh_):w.heap.size≤gb116))<|z ((by rw [hg];exact Nat.ne_of_lt (blk_lt (zb BK113.out)):gb113≠gb116))<|z ((by rw [hg];exact Nat.ne_of_gt (blk_lt (zb BK113.out)):gb116≠gb113))<|z ((by rw [hg];exact Nat.ne_of_lt (blk_lt (zb BK114.out)):gb114≠gb116))<|z1 ((by rw [hg];exact Nat.ne_of_gt (blk_lt (zb BK114.out)):gb116≠gb114));clear BK113 BK114 HB;obtain ⟨BK113,BK114,HB,BK116,GW116,GE116,NB113_116,NB116_113,NB114_116,NB116_114⟩:=n_;clear hb hbox hg;have hnb32:=NB116_113.out;have hnc32:=NB113_116.out;have hnb33:=NB116_114.out;have hnc33:=NB114_116.out;obtain ⟨hcz34_0,hcz34_1,hcz34_2,hfz34_0,hfz34_1,hfz34_2⟩:=zk3 BK116.out;have hnb35:=NB114_113.out;have hnc35:=NB113_114.out;obtain ⟨hcz36_0,hcz36_1,hcz36_2,hfz36_0,hfz36_1,hfz36_2⟩:=zk3 BK114.out;have p117:0≤(x31_2:Int):=of_decide_eq_true zc_;have q117:x31_2<(l1_1.length:Int):=of_decide_eq_true zc_;obtain ⟨ad117,e117,hx117_0,hx117_1,hx117_2⟩:=at_T93 HR1_1.out x31_2 p117 q117;cases e117;have hn117_0:ad117.block≠gb116:=Nat.ne_of_lt (Nat.lt_of_lt_of_le zce_ GW116.out);have hn117_1:ad117.block≠gb116:=Nat.ne_of_lt (Nat.lt_of_lt_of_le zce_ GW116.out);have hn117_2:ad117.block≠gb116:=Nat.ne_of_lt (Nat.lt_of_lt_of_le zce_ GW116.out);replace hx117_0:=(HB.out.cell (World.block_lt_of_cell? w _ hx117_0)).trans hx117_0;replace hx117_1:=(HB.out.cell (World.block_lt_of_cell? w _ hx117_1)).trans hx117_1;replace hx117_2:=(HB.out.cell (World.block_lt_of_cell? w _ hx117_2)).trans hx117_2;replace hx117_0:=(cell_far (p:=⟨gb116,0,none⟩) zcf_ (.int .i64 ((rd_T93 l0_1 x31_2).f0))).trans hx117_0;replace hx117_1:=(cell_far (p:=⟨gb116,0,none⟩) zcf_ (.int .i64 ((rd_T93 l0_1 x31_2).f0))).trans hx117_1;replace hx117_2:=(cell_far (p:=⟨gb116,0,none⟩) zcf_ (.int .i64 ((rd_T93 l0_1 x31_2).f0))).trans hx117_2;replace hx117_0:=(cell_far (p:=⟨gb116,1,none⟩) zcg_ (.int .i64 ((rd_T93 l0_1 x31_2).f1))).trans hx117_0;replace hx117_1:=(cell_far (p:=⟨gb116,1,none⟩) zcg_ (.int .i64 ((rd_T93 l0_1 x31_2).f1))).trans hx117_1;replace hx117_2:=(cell_far (p:=⟨gb116,1,none⟩) zcg_ (.int .i64 ((rd_T93 l0_1 x31_2).f1))).trans hx117_2;replace hx117_0:=(cell_far (p:=⟨gb116,2,none⟩) zch_ (.int .i64 ((rd_T93 l0_1 x31_2).f2))).trans hx117_0;replace hx117_1:=(cell_far (p:=⟨gb116,2,none⟩) zch_ (.int .i64 ((rd_T93 l0_1 x31_2).f2))).trans hx117_1;replace hx117_2:=(cell_far (p:=⟨gb116,2,none⟩) zch_ (.int .i64 ((rd_T93 l0_1 x31_2).f2))).trans hx117_2;(try have hy117_0:=fun (n_:Nat)=>(show (((((w31.drewN n_).setCell ⟨gb116,0,none⟩ (.int .i64 ((rd_T93 l0_1 x31_2).f0))).setCell ⟨gb116,1,none⟩ (.int .i64 ((rd_T93 l0_1 x31_2).f1))).setCell ⟨gb116,2,none⟩ (.int .i64 ((rd_T93 l0_1 x31_2).f2)))).cell? _=some _ from hx117_0));(try have hy117_1:=fun (n_:Nat)=>(show (((((w31.drewN n_).setCell ⟨gb116,0,none⟩ (.int .i64 ((rd_T93 l0_1 x31_2).f0))).setCell ⟨gb116,1,none⟩ (.int .i64 ((rd_T93 l0_1 x31_2).f1))).setCell ⟨gb116,2,none⟩ (.int .i64 ((rd_T93 l0_1 x31_2).f2)))).cell? _=some _ from hx117_1));(try have hy117_2:=fun (n_:Nat)=>(show (((((w31.drewN n_).setCell ⟨gb116,0,none⟩ (.int .i64 ((rd_T93 l0_1 x31_2).f0))).setCell ⟨gb116,1,none⟩ (.int .i64 ((rd_T93 l0_1 x31_2).f1))).setCell ⟨gb116,2,none⟩ (.int .i64 ((rd_T93 l0_1 x31_2).f2)))).cell? _=some _ from hx117_2));clear hn117_0 hn117_1 hn117_2;replace p117:=eq_true p117;replace q117:=eq_true q117))
           repeat (go_quiet (first | ((with_reducible refine gate_dst (N:=6) rfl ?_);(try (refine gate_guard (by rfl) ?_;dsimp only));refine box_event ?hg (N:=6) ?hd (cs:=#[.int .i64 0,.int .i64 0,.int .i64 0]) (t:=93) ?hr ?_;(case hd=>rfl);(case hg=>rfl);(case hr=>exact za_);intro gb116 hg w31 hbox hb;have n_:=z (blk_below (zb BK113.out) hb)<|z (blk_below (zb BK114.out) hb)<|z (below_step zbh_ hb)<|z (hbox)<|z ((by rw [hg];exact (below_size zbh_):w.heap.size≤gb116))<|z ((by rw [hg];exact (below_size zbh_):w.heap.size≤gb116))<|z ((by rw [hg];exact Nat.ne_of_lt (blk_lt (zb BK113.out)):gb113≠gb116))<|z ((by rw [hg];exact Nat.ne_of_gt (blk_lt (zb BK113.out)):gb116≠gb113))<|z ((by rw [hg];exact Nat.ne_of_lt (blk_lt (zb BK114.out)):gb114≠gb116))<|z1 ((by rw [hg];exact Nat.ne_of_gt (blk_lt (zb BK114.out)):gb116≠gb114));clear BK113 BK114 HB;obtain ⟨BK113,BK114,HB,BK116,GW116,GE116,NB113_116,NB116_113,NB114_116,NB116_114⟩:=n_;clear hb hbox hg;have hnb32:=NB116_113.out;have hnc32:=NB113_116.out;have hnb33:=NB116_114.out;have hnc33:=NB114_116.out;obtain ⟨hcz34_0,hcz34_1,hcz34_2,hfz34_0,hfz34_1,hfz34_2⟩:=zk3 BK116.out;have hnb35:=NB114_113.out;have hnc35:=NB113_114.out;obtain ⟨hcz36_0,hcz36_1,hcz36_2,hfz36_0,hfz36_1,hfz36_2⟩:=zk3 BK114.out;have p117:0≤(x31_2:Int):=of_decide_eq_true zc_;have q117:x31_2<(l1_1.length:Int):=of_decide_eq_true zc_;obtain ⟨ad117,e117,hx117_0,hx117_1,hx117_2⟩:=at_T93 HR1_1.out x31_2 p117 q117;cases e117;have hn117_0:ad117.block≠gb116:=Nat.ne_of_lt (Nat.lt_of_lt_of_le zce_ GW116.out);have hn117_1:ad117.block≠gb116:=Nat.ne_of_lt (Nat.lt_of_lt_of_le zce_ GW116.out);have hn117_2:ad117.block≠gb116:=Nat.ne_of_lt (Nat.lt_of_lt_of_le zce_ GW116.out);replace hx117_0:=(HB.out.cell (World.block_lt_of_cell? w _ hx117_0)).trans hx117_0;replace hx117_1:=(HB.out.cell (World.block_lt_of_cell? w _ hx117_1)).trans hx117_1;replace hx117_2:=(HB.out.cell (World.block_lt_of_cell? w _ hx117_2)).trans hx117_2;replace hx117_0:=(cell_far (p:=⟨gb116,0,none⟩) zcf_ (.int .i64 ((rd_T93 l0_1 x31_2).f0))).trans hx117_0;replace hx117_1:=(cell_far (p:=⟨gb116,0,none⟩) zcf_ (.int .i64 ((rd_T93 l0_1 x31_2).f0))).trans hx117_1;replace hx117_2:=(cell_far (p:=⟨gb116,0,none⟩) zcf_ (.int .i64 ((rd_T93 l0_1 x31_2).f0))).trans hx117_2;replace hx117_0:=(cell_far (p:=⟨gb116,1,none⟩) zcg_ (.int .i64 ((rd_T93 l0_1 x31_2).f1))).trans hx117_0;replace hx117_1:=(cell_far (p:=⟨gb116,1,none⟩) zcg_ (.int .i64 ((rd_T93 l0_1 x31_2).f1))).trans hx117_1;replace hx117_2:=(cell_far (p:=⟨gb116,1,none⟩) zcg_ (.int .i64 ((rd_T93 l0_1 x31_2).f1))).trans hx117_2;replace hx117_0:=(cell_far (p:=⟨gb116,2,none⟩) zch_ (.int .i64 ((rd_T93 l0_1 x31_2).f2))).trans hx117_0;replace hx117_1:=(cell_far (p:=⟨gb116,2,none⟩) zch_ (.int .i64 ((rd_T93 l0_1 x31_2).f2))).trans hx117_1;replace hx117_2:=(cell_far (p:=⟨gb116,2,none⟩) zch_ (.int .i64 ((rd_T93 l0_1 x31_2).f2))).trans hx117_2;(try have hy117_0:=fun (n_:Nat)=>(show (((((w31.drewN n_).setCell ⟨gb116,0,none⟩ (.int .i64 ((rd_T93 l0_1 x31_2).f0))).setCell ⟨gb116,1,none⟩ (.int .i64 ((rd_T93 l0_1 x31_2).f1))).setCell ⟨gb116,2,none⟩ (.int .i64 ((rd_T93 l0_1 x31_2).f2)))).cell? _=some _ from hx117_0));(try have hy117_1:=fun (n_:Nat)=>(show (((((w31.drewN n_).setCell ⟨gb116,0,none⟩ (.int .i64 ((rd_T93 l0_1 x31_2).f0))).setCell ⟨gb116,1,none⟩ (.int .i64 ((rd_T93 l0_1 x31_2).f1))).setCell ⟨gb116,2,none⟩ (.int .i64 ((rd_T93 l0_1 x31_2).f2)))).cell? _=some _ from hx117_1));(try have hy117_2:=fun (n_:Nat)=>(show (((((w31.drewN n_).setCell ⟨gb116,0,none⟩ (.int .i64 ((rd_T93 l0_1 x31_2).f0))).setCell ⟨gb116,1,none⟩ (.int .i64 ((rd_T93 l0_1 x31_2).f1))).setCell ⟨gb116,2,none⟩ (.int .i64 ((rd_T93 l0_1 x31_2).f2)))).cell? _=some _ from hx117_2));clear hn117_0 hn117_1 hn117_2;replace p117:=eq_true p117;replace q117:=eq_true q117));try go_wp2_with (first | ((with_reducible refine gate_dst (N:=6) rfl ?_);(try (refine gate_guard (by rfl) ?_;dsimp only));refine box_event ?hg (N:=6) ?hd (cs:=#[.int .i64 0,.int .i64 0,.int .i64 0]) (t:=93) ?hr ?_;(case hd=>rfl);(case hg=>rfl);(case hr=>exact za_);intro gb116 hg w31 hbox hb;have n_:=z (blk_below (zb BK113.out) hb)<|z (blk_below (zb BK114.out) hb)<|z (below_step zbh_ hb)<|z (hbox)<|z ((by rw [hg];exact (below_size zbh_):w.heap.size≤gb116))<|z ((by rw [hg];exact (below_size zbh_):w.heap.size≤gb116))<|z ((by rw [hg];exact Nat.ne_of_lt (blk_lt (zb BK113.out)):gb113≠gb116))<|z ((by rw [hg];exact Nat.ne_of_gt (blk_lt (zb BK113.out)):gb116≠gb113))<|z ((by rw [hg];exact Nat.ne_of_lt (blk_lt (zb BK114.out)):gb114≠gb116))<|z1 ((by rw [hg];exact Nat.ne_of_gt (blk_lt (zb BK114.out)):gb116≠gb114));clear BK113 BK114 HB;obtain ⟨BK113,BK114,HB,BK116,GW116,GE116,NB113_116,NB116_113,NB114_116,NB116_114⟩:=n_;clear hb hbox hg;have hnb32:=NB116_113.out;have hnc32:=NB113_116.out;have hnb33:=NB116_114.out;have hnc33:=NB114_116.out;obtain ⟨hcz34_0,hcz34_1,hcz34_2,hfz34_0,hfz34_1,hfz34_2⟩:=zk3 BK116.out;have hnb35:=NB114_113.out;have hnc35:=NB113_114.out;obtain ⟨hcz36_0,hcz36_1,hcz36_2,hfz36_0,hfz36_1,hfz36_2⟩:=zk3 BK114.out;have p117:0≤(x31_2:Int):=of_decide_eq_true zc_;have q117:x31_2<(l1_1.length:Int):=of_decide_eq_true zc_;obtain ⟨ad117,e117,hx117_0,hx117_1,hx117_2⟩:=at_T93 HR1_1.out x31_2 p117 q117;cases e117;have hn117_0:ad117.block≠gb116:=Nat.ne_of_lt (Nat.lt_of_lt_of_le zce_ GW116.out);have hn117_1:ad117.block≠gb116:=Nat.ne_of_lt (Nat.lt_of_lt_of_le zce_ GW116.out);have hn117_2:ad117.block≠gb116:=Nat.ne_of_lt (Nat.lt_of_lt_of_le zce_ GW116.out);replace hx117_0:=(HB.out.cell (World.block_lt_of_cell? w _ hx117_0)).trans hx117_0;replace hx117_1:=(HB.out.cell (World.block_lt_of_cell? w _ hx117_1)).trans hx117_1;replace hx117_2:=(HB.out.cell (World.block_lt_of_cell? w _ hx117_2)).trans hx117_2;replace hx117_0:=(cell_far (p:=⟨gb116,0,none⟩) zcf_ (.int .i64 ((rd_T93 l0_1 x31_2).f0))).trans hx117_0;replace hx117_1:=(cell_far (p:=⟨gb116,0,none⟩) zcf_ (.int .i64 ((rd_T93 l0_1 x31_2).f0))).trans hx117_1;replace hx117_2:=(cell_far (p:=⟨gb116,0,none⟩) zcf_ (.int .i64 ((rd_T93 l0_1 x31_2).f0))).trans hx117_2;replace hx117_0:=(cell_far (p:=⟨gb116,1,none⟩) zcg_ (.int .i64 ((rd_T93 l0_1 x31_2).f1))).trans hx117_0;replace hx117_1:=(cell_far (p:=⟨gb116,1,none⟩) zcg_ (.int .i64 ((rd_T93 l0_1 x31_2).f1))).trans hx117_1;replace hx117_2:=(cell_far (p:=⟨gb116,1,none⟩) zcg_ (.int .i64 ((rd_T93 l0_1 x31_2).f1))).trans hx117_2;replace hx117_0:=(cell_far (p:=⟨gb116,2,none⟩) zch_ (.int .i64 ((rd_T93 l0_1 x31_2).f2))).trans hx117_0;replace hx117_1:=(cell_far (p:=⟨gb116,2,none⟩) zch_ (.int .i64 ((rd_T93 l0_1 x31_2).f2))).trans hx117_1;replace hx117_2:=(cell_far (p:=⟨gb116,2,none⟩) zch_ (.int .i64 ((rd_T93 l0_1 x31_2).f2))).trans hx117_2;(try have hy117_0:=fun (n_:Nat)=>(show (((((w31.drewN n_).setCell ⟨gb116,0,none⟩ (.int .i64 ((rd_T93 l0_1 x31_2).f0))).setCell ⟨gb116,1,none⟩ (.int .i64 ((rd_T93 l0_1 x31_2).f1))).setCell ⟨gb116,2,none⟩ (.int .i64 ((rd_T93 l0_1 x31_2).f2)))).cell? _=some _ from hx117_0));(try have hy117_1:=fun (n_:Nat)=>(show (((((w31.drewN n_).setCell ⟨gb116,0,none⟩ (.int .i64 ((rd_T93 l0_1 x31_2).f0))).setCell ⟨gb116,1,none⟩ (.int .i64 ((rd_T93 l0_1 x31_2).f1))).setCell ⟨gb116,2,none⟩ (.int .i64 ((rd_T93 l0_1 x31_2).f2)))).cell? _=some _ from hx117_1));(try have hy117_2:=fun (n_:Nat)=>(show (((((w31.drewN n_).setCell ⟨gb116,0,none⟩ (.int .i64 ((rd_T93 l0_1 x31_2).f0))).setCell ⟨gb116,1,none⟩ (.int .i64 ((rd_T93 l0_1 x31_2).f1))).setCell ⟨gb116,2,none⟩ (.int .i64 ((rd_T93 l0_1 x31_2).f2)))).cell? _=some _ from hx117_2));clear hn117_0 hn117_1 hn117_2;replace p117:=eq_true p117;replace q117:=eq_true q117)))
           go_roundg k2
           case measure=>have:=HJ2.out;have:=HK2.out;omega
           case rel=>exact ⟨(wrap64 (x31_2+1)),zd_,H',⟨by have:=HJ2.out;have:=HK2.out;omega⟩,⟨by refine zb ?_;refine blk_far ?_ NB113_116.out _;refine zb ?_;refine blk_far ?_ NB113_116.out _;refine zb ?_;refine blk_far ?_ NB113_116.out _;refine zb ?_;exact BK113.out⟩,⟨by refine zb ?_;refine blk_far ?_ NB114_116.out _;refine zb ?_;refine blk_far ?_ NB114_116.out _;refine zb ?_;refine blk_far ?_ NB114_116.out _;refine zb ?_;exact BK114.out⟩,⟨by repeat (first | (with_reducible first | exact HB.out | apply pA | apply pN | apply p1 | refine below_set ?_ GE113.out | refine below_set ?_ GE114.out | refine below_set ?_ GE116.out) | exact HB.out)⟩⟩
         ·rw [if_neg c23] at H
          exact q3n_ H
        ·rw [if_neg c22] at H
         exact q3n_ H
       ·rw [if_neg c21] at H
        exact q3n_ H
      ·rw [if_neg c20] at H
       have c20b0:=decide_eq_false c20;clear c20;obtain rfl:=Option.some.inj H
       go_wp2
       repeat (go_quiet (fail);try go_wp2)
       go_ret
       exact ⟨zg_,zbh_⟩
mutual
def spec_ddGood.j0:Nat→Bool→Int→List (S93)→Int→Option (Bool)
 | 0,_,_,_,_=>none
 | k+1,x24,x119000,x119001,x119002=>if x24=true then (some false) else (spec_ddGood.l0 k x119001 (x119001.length:Int) 0 x119000 x119001 x119002)
def spec_ddGood.l0:Nat→List (S93)→Int→Int→Int→List (S93)→Int→Option (Bool)
 | 0,_,_,_,_,_,_=>none
 | k+1,x26,x27,x28,x119000,x119001,x119002=>if x28<x27 then (if 0≤x28 then (if x28<(x26.length:Int) then ((spec_l1In.f ((rd_T93 x26 x28).f0) 0 (wrap64 (x119000 - 1))).bind fun t133=>(if t133=true then ((spec_l1In.f ((rd_T93 x26 x28).f1) 0 (wrap64 (x28+1))).bind fun t134=>(if t134=true then ((spec_l1In.f ((rd_T93 x26 x28).f2) 0 (wrap64 (x28+1))).bind fun t135=>(if t135=true then (spec_ddGood.l0 k x26 x27 (wrap64 (x28+1)) x119000 x119001 x119002) else (some false))) else (some false))) else (some false))) else (none)) else (none)) else ((spec_ddTable.f k x119000 x119001 x119002).bind fun bt121=>((spec_ddMake.f k bt121.1 bt121.2).bind fun bt125=>((spec_ddSame.f k x119000 x119001 x119002 bt125.1 bt125.2.1 bt125.2.2).bind fun t130=>(some t130))))
end
def spec_ddGood.f (k:Nat) (a0_0:Int) (l0_1:List (S93)) (a0_2:Int):Option (Bool):=(spec_ttInputs.f a0_0).bind fun t119=>(if t119=true then (if (l0_1.length:Int)>40 then (spec_ddGood.j0 k true a0_0 l0_1 a0_2) else ((spec_l1In.f a0_2 0 (wrap64 ((l0_1.length:Int)+1))).bind fun t120=>(spec_ddGood.j0 k (!t120) a0_0 l0_1 a0_2))) else (spec_ddGood.j0 k true a0_0 l0_1 a0_2))
theorem spec_ddGood.calls (k:Nat) (a0_0:Int) (A0_1:Option Addr) (c0_1:Nat) (l0_1:List (S93)) (a0_2:Int) (r:Bool) (w:World) (hr0_1:Kd.C k93 w A0_1 l0_1.length l0_1) (hc0_1:l0_1.length≤c0_1) (h:spec_ddGood.f k a0_0 l0_1 a0_2=some r) :
  Calls Try.prog 51 #[.agg #[.int .i64 a0_0,.slice A0_1 l0_1.length c0_1,.int .i64 a0_2]] w fun e w'=>e = .returned (.bool r)∧Below w.heap.size w w':=by
 have hu28:=Try.underlying28
 have hu93:=Try.underlying93
 have HR0_1:=aM hr0_1
 have HC0_1:=aM hc0_1
 clear hr0_1 hc0_1
 have HB:=aM (Below.refl w.heap.size w)
 have H:((spec_ttInputs.f a0_0).bind fun t119=>(if t119=true then (if (l0_1.length:Int)>40 then (spec_ddGood.j0 k true a0_0 l0_1 a0_2) else ((spec_l1In.f a0_2 0 (wrap64 ((l0_1.length:Int)+1))).bind fun t120=>(spec_ddGood.j0 k (!t120) a0_0 l0_1 a0_2))) else (spec_ddGood.j0 k true a0_0 l0_1 a0_2)))=some r:=h
 clear h
 have HC2:=aM H
 clear H
 go_enter Try.func51,Try.ntmps51
 go_upto_region 1 with (first | ((with_reducible refine gate_dst (N:=1) rfl ?_);(try (refine gate_guard (by rfl) ?_;dsimp only));refine box_event ?hg (N:=1) ?hd (cs:=#[.int .i64 a0_0,.slice A0_1 l0_1.length c0_1,.int .i64 a0_2]) (t:=28) ?hr ?_;(case hd=>rfl);(case hg=>rfl);(case hr=>exact za_);intro gb118 hg w3 hbox hb;have n_:=z (below_step zb_ hb)<|z (hbox)<|z ((by rw [hg];exact (below_size zb_):w.heap.size≤gb118))<|z1 ((by rw [hg];exact (below_size zb_):w.heap.size≤gb118));clear HB;obtain ⟨HB,BK118,GW118,GE118⟩:=n_;clear hb hbox hg))
 (try simp only [Act.put,sI,s0,sS])
 go_cut [24] (fun v24 wc => ∃ (kq:Nat) (x24_1:Bool),v24 = .bool x24_1∧Aside0 (spec_ddGood.j0 kq x24_1 a0_0 l0_1 a0_2=some r)∧Aside0 (kq≤k)∧Aside0 (wc.heap[gb118]?=some (.cells #[.int .i64 a0_0,(.slice A0_1 l0_1.length c0_1),.int .i64 a0_2] 28 (0,0)))∧Aside0 (Below w.heap.size w wc))
 case first =>
  have H:=HC2.out;clear HC2;replace H:=oB.mp H;obtain ⟨t119,A40,H⟩:=H;replace H:(if t119=true then (if (l0_1.length:Int)>40 then (spec_ddGood.j0 k true a0_0 l0_1 a0_2) else ((spec_l1In.f a0_2 0 (wrap64 ((l0_1.length:Int)+1))).bind fun t120=>(spec_ddGood.j0 k (!t120) a0_0 l0_1 a0_2))) else (spec_ddGood.j0 k true a0_0 l0_1 a0_2))=some r:=H;have A4:=aM A40;clear A40
  by_cases c5:t119=true
  ·subst c5
   have H1:(if (l0_1.length:Int)>40 then (spec_ddGood.j0 k true a0_0 l0_1 a0_2) else ((spec_l1In.f a0_2 0 (wrap64 ((l0_1.length:Int)+1))).bind fun t120=>(spec_ddGood.j0 k (!t120) a0_0 l0_1 a0_2)))=some r:=by rw [if_pos rfl] at H;exact H
   clear H;have H:=H1;clear H1
   by_cases c6:(l0_1.length:Int)>40
   ·rw [if_pos c6] at H
    have c6b0:decide (40<(l0_1.length:Int))=true:=decide_eq_true c6;have c6b1:decide (40<l0_1.length)=true:=decide_eq_true (by omega);clear c6;(first | rw [c6b0]|(simp only [i64_w,i32_w];rw [c6b0]) | skip);have H':=aM H;clear H;obtain ⟨hcz7_0,hcz7_1,hcz7_2,hfz7_0,hfz7_1,hfz7_2⟩:=zk3 BK118.out
    go_wp2_with (first | ((with_reducible refine gate_callee (f:=100) rfl ?_);refine goesL_ (some 7) rfl rfl Try.func100 (by kernel_rfl) rfl #[.int .i64 a0_0] rfl zf_ ?_;(with_reducible refine (spec_ttInputs.calls a0_0 true _ A4.out).mono ?_);rintro e w' ⟨rfl,⟨nd,rfl⟩⟩;refine ⟨_,rfl,?_⟩))
    go_meet
    case rel=>exact ⟨_,(true),zd_,H',⟨zbe_⟩,⟨zb BK118.out⟩,⟨zbj_⟩⟩
   ·rw [if_neg c6] at H
    have c6b0:decide (40<(l0_1.length:Int))=false:=decide_eq_false c6;have c6b1:decide (40<l0_1.length)=false:=decide_eq_false (by omega);clear c6;(first | rw [c6b0]|(simp only [i64_w,i32_w];rw [c6b0]) | skip);replace H:=oB.mp H;obtain ⟨t120,A80,H⟩:=H;replace H:(spec_ddGood.j0 k (!t120) a0_0 l0_1 a0_2)=some r:=H;have A8:=aM A80;clear A80;have H':=aM H;clear H;obtain ⟨hcz9_0,hcz9_1,hcz9_2,hfz9_0,hfz9_1,hfz9_2⟩:=zk3 BK118.out
    go_wp2_with (first | ((with_reducible refine gate_callee (f:=100) rfl ?_);refine goesL_ (some 7) rfl rfl Try.func100 (by kernel_rfl) rfl #[.int .i64 a0_0] rfl zf_ ?_;(with_reducible refine (spec_ttInputs.calls a0_0 true _ A4.out).mono ?_);rintro e w' ⟨rfl,⟨nd,rfl⟩⟩;refine ⟨_,rfl,?_⟩)|(go_at_call 101;(with_reducible refine (spec_l1In.calls a0_2 0 (wrap64 ((l0_1.length:Int)+1)) t120 _ A8.out).mono ?_);rintro e w' ⟨rfl,⟨nd,rfl⟩⟩))
    go_meet
    case rel=>exact ⟨_,(!t120),zd_,H',⟨zbe_⟩,⟨zb BK118.out⟩,⟨zbj_⟩⟩
  ·replace c5:=Bool.eq_false_iff.mpr c5
   subst c5;have H1:(spec_ddGood.j0 k true a0_0 l0_1 a0_2)=some r:=by rw [if_neg (show ¬ (false=true) by decide)] at H;exact H
   clear H;have H:=H1;clear H1;have H':=aM H;clear H;obtain ⟨hcz10_0,hcz10_1,hcz10_2,hfz10_0,hfz10_1,hfz10_2⟩:=zk3 BK118.out
   go_wp2_with (first | ((with_reducible refine gate_callee (f:=100) rfl ?_);refine goesL_ (some 7) rfl rfl Try.func100 (by kernel_rfl) rfl #[.int .i64 a0_0] rfl zf_ ?_;(with_reducible refine (spec_ttInputs.calls a0_0 false _ A4.out).mono ?_);rintro e w' ⟨rfl,⟨nd,rfl⟩⟩;refine ⟨_,rfl,?_⟩))
   go_meet
   case rel=>exact ⟨_,(true),zd_,H',⟨zbe_⟩,⟨zb BK118.out⟩,⟨zbj_⟩⟩
 case rest =>
  clear HC2;obtain ⟨kq,x24_1,rfl,HA,HJ1,BK118,HB⟩:=hcut
  cases kq with
  | zero=>exact absurd HA.out (by simp [spec_ddGood.j0])
  | succ kj1 =>
   have H:=HA.out;clear HA
   simp only [spec_ddGood.j0] at H
   by_cases c11:x24_1=true
   ·subst c11
    have H1:(some false)=some r:=by rw [if_pos rfl] at H;exact H
    clear H;have H:=H1;clear H1;obtain rfl:=Option.some.inj H
    go_wp2
    go_ret
    exact ⟨zg_,zbj_⟩
   ·replace c11:=Bool.eq_false_iff.mpr c11
    subst c11;have H1:(spec_ddGood.l0 kj1 l0_1 (l0_1.length:Int) 0 a0_0 l0_1 a0_2)=some r:=by rw [if_neg (show ¬ (false=true) by decide)] at H;exact H
    clear H;have H:=H1;clear H1;have H':=aM H;clear H;obtain ⟨hcz12_0,hcz12_1,hcz12_2,hfz12_0,hfz12_1,hfz12_2⟩:=zk3 BK118.out
    go_wp2
    go_loopg [28] kj1 (fun kq v28 w' => ∃ (x28_2:Int),v28 = .int .i64 x28_2∧Aside0 (spec_ddGood.l0 kq l0_1 (l0_1.length:Int) x28_2 a0_0 l0_1 a0_2=some r)∧Aside0 (kq≤kj1)∧Aside0 (w'.heap[gb118]?=some (.cells #[.int .i64 a0_0,(.slice A0_1 l0_1.length c0_1),.int .i64 a0_2] 28 (0,0)))∧Aside0 (Below w.heap.size w w'))
    case atStart=>exact ⟨(0),zd_,H',⟨Nat.le_refl _⟩,⟨zb BK118.out⟩,⟨zbj_⟩⟩
    case round =>
     clear H';(try clear hcz12_0);(try clear hcz12_1);(try clear hcz12_2);(try clear hfz12_0);(try clear hfz12_1);(try clear hfz12_2);obtain ⟨x28_2,rfl,HA,HK2,BK118,HB⟩:=hrel
     cases gk with
     | zero=>exact absurd HA.out (by simp [spec_ddGood.l0])
     | succ k2 =>
      have H:=HA.out;clear HA
      simp only [spec_ddGood.l0] at H
      by_cases c13:x28_2<(l0_1.length:Int)
      ·rw [if_pos c13] at H
       have c13b0:=decide_eq_true c13;clear c13
       by_cases c14:0≤x28_2
       ·rw [if_pos c14] at H
        have c14b0:=decide_eq_true c14;clear c14
        by_cases c15:x28_2<(l0_1.length:Int)
        ·rw [if_pos c15] at H
         have c15b0:=decide_eq_true c15;clear c15;replace H:=oB.mp H;obtain ⟨t133,A160,H⟩:=H;replace H:(if t133=true then ((spec_l1In.f ((rd_T93 l0_1 x28_2).f1) 0 (wrap64 (x28_2+1))).bind fun t134=>(if t134=true then ((spec_l1In.f ((rd_T93 l0_1 x28_2).f2) 0 (wrap64 (x28_2+1))).bind fun t135=>(if t135=true then (spec_ddGood.l0 k2 l0_1 (l0_1.length:Int) (wrap64 (x28_2+1)) a0_0 l0_1 a0_2) else (some false))) else (some false))) else (some false))=some r:=H;have A16:=aM A160;clear A160
         by_cases c17:t133=true
         ·subst c17
          have H1:((spec_l1In.f ((rd_T93 l0_1 x28_2).f1) 0 (wrap64 (x28_2+1))).bind fun t134=>(if t134=true then ((spec_l1In.f ((rd_T93 l0_1 x28_2).f2) 0 (wrap64 (x28_2+1))).bind fun t135=>(if t135=true then (spec_ddGood.l0 k2 l0_1 (l0_1.length:Int) (wrap64 (x28_2+1)) a0_0 l0_1 a0_2) else (some false))) else (some false)))=some r:=by rw [if_pos rfl] at H;exact H
          clear H;have H:=H1;clear H1;replace H:=oB.mp H;obtain ⟨t134,A180,H⟩:=H;replace H:(if t134=true then ((spec_l1In.f ((rd_T93 l0_1 x28_2).f2) 0 (wrap64 (x28_2+1))).bind fun t135=>(if t135=true then (spec_ddGood.l0 k2 l0_1 (l0_1.length:Int) (wrap64 (x28_2+1)) a0_0 l0_1 a0_2) else (some false))) else (some false))=some r:=H;have A18:=aM A180;clear A180
          by_cases c19:t134=true
          ·subst c19
           have H1:((spec_l1In.f ((rd_T93 l0_1 x28_2).f2) 0 (wrap64 (x28_2+1))).bind fun t135=>(if t135=true then (spec_ddGood.l0 k2 l0_1 (l0_1.length:Int) (wrap64 (x28_2+1)) a0_0 l0_1 a0_2) else (some false)))=some r:=by rw [if_pos rfl] at H;exact H
           clear H;have H:=H1;clear H1;replace H:=oB.mp H;obtain ⟨t135,A200,H⟩:=H;replace H:(if t135=true then (spec_ddGood.l0 k2 l0_1 (l0_1.length:Int) (wrap64 (x28_2+1)) a0_0 l0_1 a0_2) else (some false))=some r:=H;have A20:=aM A200;clear A200
           by_cases c21:t135=true
           ·subst c21
            have H1:(spec_ddGood.l0 k2 l0_1 (l0_1.length:Int) (wrap64 (x28_2+1)) a0_0 l0_1 a0_2)=some r:=by rw [if_pos rfl] at H;exact H
            clear H;have H:=H1;clear H1;have H':=aM H;clear H;have p131:0≤(x28_2:Int):=of_decide_eq_true zc_;have q131:x28_2<(l0_1.length:Int):=of_decide_eq_true zc_;obtain ⟨ad131,e131,hx131_0,hx131_1,hx131_2⟩:=at_T93 HR0_1.out x28_2 p131 q131
            cases e131
            (try (replace hx131_0:=q3h_ HB.out hx131_0));(try (replace hx131_1:=q3h_ HB.out hx131_1));(try (replace hx131_2:=q3h_ HB.out hx131_2));replace p131:=eq_true p131;replace q131:=eq_true q131
            go_wp2_with (first | ((with_reducible refine gate_dst (N:=4) rfl ?_);(try (refine gate_guard (by rfl) ?_;dsimp only));refine box_event ?hg (N:=4) ?hd (cs:=#[.int .i64 0,.int .i64 0,.int .i64 0]) (t:=93) ?hr ?_;(case hd=>rfl);(case hg=>rfl);(case hr=>exact za_);intro gb132 hg w22 hbox hb;have n_:=z (blk_below (zb BK118.out) hb)<|z (below_step zbj_ hb)<|z (hbox)<|z ((by rw [hg];exact (below_size zbj_):w.heap.size≤gb132))<|z ((by rw [hg];exact (below_size zbj_):w.heap.size≤gb132))<|z ((by rw [hg];exact Nat.ne_of_lt (blk_lt (zb BK118.out)):gb118≠gb132))<|z1 ((by rw [hg];exact Nat.ne_of_gt (blk_lt (zb BK118.out)):gb132≠gb118));clear BK118 HB;obtain ⟨BK118,HB,BK132,GW132,GE132,NB118_132,NB132_118⟩:=n_;clear hb hbox hg;have hnb23:=NB132_118.out;have hnc23:=NB118_132.out;obtain ⟨hcz24_0,hcz24_1,hcz24_2,hfz24_0,hfz24_1,hfz24_2⟩:=zk3 BK132.out;obtain ⟨hcz25_0,hcz25_1,hcz25_2,hfz25_0,hfz25_1,hfz25_2⟩:=zk3 BK118.out)|((with_reducible refine gate_callee (f:=101) rfl ?_);refine goesL_ (some 38) rfl rfl Try.func101 (by kernel_rfl) rfl #[.int .i64 ((rd_T93 l0_1 x28_2).f0),.int .i64 0,.int .i64 (wrap64 (a0_0 - 1))] rfl zf_ ?_;(with_reducible refine (spec_l1In.calls ((rd_T93 l0_1 x28_2).f0) 0 (wrap64 (a0_0 - 1)) true _ A16.out).mono ?_);rintro e w' ⟨rfl,⟨nd,rfl⟩⟩;refine ⟨_,rfl,?_⟩)|(go_at_call 101;(with_reducible refine (spec_l1In.calls ((rd_T93 l0_1 x28_2).f1) 0 (wrap64 (x28_2+1)) true _ A18.out).mono ?_);rintro e w' ⟨rfl,⟨nd,rfl⟩⟩)|(go_at_call 101;(with_reducible refine (spec_l1In.calls ((rd_T93 l0_1 x28_2).f2) 0 (wrap64 (x28_2+1)) true _ A20.out).mono ?_);rintro e w' ⟨rfl,⟨nd,rfl⟩⟩))
            go_roundg k2
            case measure=>have:=HJ1.out;have:=HK2.out;omega
            case rel=>exact ⟨(wrap64 (x28_2+1)),zd_,H',⟨by have:=HJ1.out;have:=HK2.out;omega⟩,⟨by refine zb ?_;refine blk_far ?_ NB118_132.out _;refine zb ?_;refine blk_far ?_ NB118_132.out _;refine zb ?_;refine blk_far ?_ NB118_132.out _;refine zb ?_;exact BK118.out⟩,⟨zie_⟩⟩
           ·replace c21:=Bool.eq_false_iff.mpr c21
            subst c21;have H1:(some false)=some r:=by rw [if_neg (show ¬ (false=true) by decide)] at H;exact H
            clear H;have H:=H1;clear H1;obtain rfl:=Option.some.inj H;have p131:0≤(x28_2:Int):=of_decide_eq_true zc_;have q131:x28_2<(l0_1.length:Int):=of_decide_eq_true zc_;obtain ⟨ad131,e131,hx131_0,hx131_1,hx131_2⟩:=at_T93 HR0_1.out x28_2 p131 q131
            cases e131
            (try (replace hx131_0:=q3h_ HB.out hx131_0));(try (replace hx131_1:=q3h_ HB.out hx131_1));(try (replace hx131_2:=q3h_ HB.out hx131_2));replace p131:=eq_true p131;replace q131:=eq_true q131
            go_wp2_with (first | ((with_reducible refine gate_dst (N:=4) rfl ?_);(try (refine gate_guard (by rfl) ?_;dsimp only));refine box_event ?hg (N:=4) ?hd (cs:=#[.int .i64 0,.int .i64 0,.int .i64 0]) (t:=93) ?hr ?_;(case hd=>rfl);(case hg=>rfl);(case hr=>exact za_);intro gb132 hg w26 hbox hb;have n_:=z (blk_below (zb BK118.out) hb)<|z (below_step zbj_ hb)<|z (hbox)<|z ((by rw [hg];exact (below_size zbj_):w.heap.size≤gb132))<|z ((by rw [hg];exact (below_size zbj_):w.heap.size≤gb132))<|z ((by rw [hg];exact Nat.ne_of_lt (blk_lt (zb BK118.out)):gb118≠gb132))<|z1 ((by rw [hg];exact Nat.ne_of_gt (blk_lt (zb BK118.out)):gb132≠gb118));clear BK118 HB;obtain ⟨BK118,HB,BK132,GW132,GE132,NB118_132,NB132_118⟩:=n_;clear hb hbox hg;have hnb27:=NB132_118.out;have hnc27:=NB118_132.out;obtain ⟨hcz28_0,hcz28_1,hcz28_2,hfz28_0,hfz28_1,hfz28_2⟩:=zk3 BK132.out;obtain ⟨hcz29_0,hcz29_1,hcz29_2,hfz29_0,hfz29_1,hfz29_2⟩:=zk3 BK118.out)|((with_reducible refine gate_callee (f:=101) rfl ?_);refine goesL_ (some 38) rfl rfl Try.func101 (by kernel_rfl) rfl #[.int .i64 ((rd_T93 l0_1 x28_2).f0),.int .i64 0,.int .i64 (wrap64 (a0_0 - 1))] rfl zf_ ?_;(with_reducible refine (spec_l1In.calls ((rd_T93 l0_1 x28_2).f0) 0 (wrap64 (a0_0 - 1)) true _ A16.out).mono ?_);rintro e w' ⟨rfl,⟨nd,rfl⟩⟩;refine ⟨_,rfl,?_⟩)|(go_at_call 101;(with_reducible refine (spec_l1In.calls ((rd_T93 l0_1 x28_2).f1) 0 (wrap64 (x28_2+1)) true _ A18.out).mono ?_);rintro e w' ⟨rfl,⟨nd,rfl⟩⟩)|(go_at_call 101;(with_reducible refine (spec_l1In.calls ((rd_T93 l0_1 x28_2).f2) 0 (wrap64 (x28_2+1)) false _ A20.out).mono ?_);rintro e w' ⟨rfl,⟨nd,rfl⟩⟩))
            go_ret
            exact ⟨zg_,zie_⟩
          ·replace c19:=Bool.eq_false_iff.mpr c19
           subst c19;have H1:(some false)=some r:=by rw [if_neg (show ¬ (false=true) by decide)] at H;exact H
           clear H;have H:=H1;clear H1;obtain rfl:=Option.some.inj H;have p131:0≤(x28_2:Int):=of_decide_eq_true zc_;have q131:x28_2<(l0_1.length:Int):=of_decide_eq_true zc_;obtain ⟨ad131,e131,hx131_0,hx131_1,hx131_2⟩:=at_T93 HR0_1.out x28_2 p131 q131
           cases e131
           (try (replace hx131_0:=q3h_ HB.out hx131_0));(try (replace hx131_1:=q3h_ HB.out hx131_1));(try (replace hx131_2:=q3h_ HB.out hx131_2));replace p131:=eq_true p131;replace q131:=eq_true q131
           go_wp2_with (first | ((with_reducible refine gate_dst (N:=4) rfl ?_);(try (refine gate_guard (by rfl) ?_;dsimp only));refine box_event ?hg (N:=4) ?hd (cs:=#[.int .i64 0,.int .i64 0,.int .i64 0]) (t:=93) ?hr ?_;(case hd=>rfl);(case hg=>rfl);(case hr=>exact za_);intro gb132 hg w30 hbox hb;have n_:=z (blk_below (zb BK118.out) hb)<|z (below_step zbj_ hb)<|z (hbox)<|z ((by rw [hg];exact (below_size zbj_):w.heap.size≤gb132))<|z ((by rw [hg];exact (below_size zbj_):w.heap.size≤gb132))<|z ((by rw [hg];exact Nat.ne_of_lt (blk_lt (zb BK118.out)):gb118≠gb132))<|z1 ((by rw [hg];exact Nat.ne_of_gt (blk_lt (zb BK118.out)):gb132≠gb118));clear BK118 HB;obtain ⟨BK118,HB,BK132,GW132,GE132,NB118_132,NB132_118⟩:=n_;clear hb hbox hg;have hnb31:=NB132_118.out;have hnc31:=NB118_132.out;obtain ⟨hcz32_0,hcz32_1,hcz32_2,hfz32_0,hfz32_1,hfz32_2⟩:=zk3 BK132.out;obtain ⟨hcz33_0,hcz33_1,hcz33_2,hfz33_0,hfz33_1,hfz33_2⟩:=zk3 BK118.out)|((with_reducible refine gate_callee (f:=101) rfl ?_);refine goesL_ (some 38) rfl rfl Try.func101 (by kernel_rfl) rfl #[.int .i64 ((rd_T93 l0_1 x28_2).f0),.int .i64 0,.int .i64 (wrap64 (a0_0 - 1))] rfl zf_ ?_;(with_reducible refine (spec_l1In.calls ((rd_T93 l0_1 x28_2).f0) 0 (wrap64 (a0_0 - 1)) true _ A16.out).mono ?_);rintro e w' ⟨rfl,⟨nd,rfl⟩⟩;refine ⟨_,rfl,?_⟩)|(go_at_call 101;(with_reducible refine (spec_l1In.calls ((rd_T93 l0_1 x28_2).f1) 0 (wrap64 (x28_2+1)) false _ A18.out).mono ?_);rintro e w' ⟨rfl,⟨nd,rfl⟩⟩))
           go_ret
           exact ⟨zg_,zie_⟩
         ·replace c17:=Bool.eq_false_iff.mpr c17
          subst c17;have H1:(some false)=some r:=by rw [if_neg (show ¬ (false=true) by decide)] at H;exact H
          clear H;have H:=H1;clear H1;obtain rfl:=Option.some.inj H;have p131:0≤(x28_2:Int):=of_decide_eq_true zc_;have q131:x28_2<(l0_1.length:Int):=of_decide_eq_true zc_;obtain ⟨ad131,e131,hx131_0,hx131_1,hx131_2⟩:=at_T93 HR0_1.out x28_2 p131 q131
          cases e131
          (try (replace hx131_0:=q3h_ HB.out hx131_0));(try (replace hx131_1:=q3h_ HB.out hx131_1));(try (replace hx131_2:=q3h_ HB.out hx131_2));replace p131:=eq_true p131;replace q131:=eq_true q131
          go_wp2_with (first | ((with_reducible refine gate_dst (N:=4) rfl ?_);(try (refine gate_guard (by rfl) ?_;dsimp only));refine box_event ?hg (N:=4) ?hd (cs:=#[.int .i64 0,.int .i64 0,.int .i64 0]) (t:=93) ?hr ?_;(case hd=>rfl);(case hg=>rfl);(case hr=>exact za_);intro gb132 hg w34 hbox hb;have n_:=z (blk_below (zb BK118.out) hb)<|z (below_step zbj_ hb)<|z (hbox)<|z ((by rw [hg];exact (below_size zbj_):w.heap.size≤gb132))<|z ((by rw [hg];exact (below_size zbj_):w.heap.size≤gb132))<|z ((by rw [hg];exact Nat.ne_of_lt (blk_lt (zb BK118.out)):gb118≠gb132))<|z1 ((by rw [hg];exact Nat.ne_of_gt (blk_lt (zb BK118.out)):gb132≠gb118));clear BK118 HB;obtain ⟨BK118,HB,BK132,GW132,GE132,NB118_132,NB132_118⟩:=n_;clear hb hbox hg;have hnb35:=NB132_118.out;have hnc35:=NB118_132.out;obtain ⟨hcz36_0,hcz36_1,hcz36_2,hfz36_0,hfz36_1,hfz36_2⟩:=zk3 BK132.out;obtain ⟨hcz37_0,hcz37_1,hcz37_2,hfz37_0,hfz37_1,hfz37_2⟩:=zk3 BK118.out)|((with_reducible refine gate_callee (f:=101) rfl ?_);refine goesL_ (some 38) rfl rfl Try.func101 (by kernel_rfl) rfl #[.int .i64 ((rd_T93 l0_1 x28_2).f0),.int .i64 0,.int .i64 (wrap64 (a0_0 - 1))] rfl zf_ ?_;(with_reducible refine (spec_l1In.calls ((rd_T93 l0_1 x28_2).f0) 0 (wrap64 (a0_0 - 1)) false _ A16.out).mono ?_);rintro e w' ⟨rfl,⟨nd,rfl⟩⟩;refine ⟨_,rfl,?_⟩))
          go_ret
          exact ⟨zg_,zie_⟩
        ·rw [if_neg c15] at H
         exact q3n_ H
       ·rw [if_neg c14] at H
        exact q3n_ H
      ·rw [if_neg c13] at H
       have c13b0:=decide_eq_false c13;clear c13;replace H:=oB.mp H;obtain ⟨⟨t121,t122⟩,A380,H⟩:=H;replace H:((spec_ddMake.f k2 t121 t122).bind fun bt125=>((spec_ddSame.f k2 a0_0 l0_1 a0_2 bt125.1 bt125.2.1 bt125.2.2).bind fun t130=>(some t130)))=some r:=H;have A38:=aM A380;clear A380;replace H:=oB.mp H;obtain ⟨⟨t125,t126,t129⟩,A390,H⟩:=H;replace H:((spec_ddSame.f k2 a0_0 l0_1 a0_2 t125 t126 t129).bind fun t130=>(some t130))=some r:=H;have A39:=aM A390;clear A390;replace H:=oB.mp H;obtain ⟨t130,A400,H⟩:=H;replace H:(some t130)=some r:=H;have A40:=aM A400;clear A400;obtain rfl:=Option.some.inj H;(try go_wp2);have n_:=z (blk_drew BK118.out)<|z1 (p1 HB.out)
       clear BK118 HB;obtain ⟨BK118,HB⟩:=n_
       refine start_ (n:=6) (S:=fun w'=>w'.cell? ⟨gb118,0,none⟩=some (.int .i64 a0_0)∧w'.cell? ⟨gb118,1,none⟩=some (.slice A0_1 l0_1.length c0_1)∧w'.cell? ⟨gb118,2,none⟩=some (.int .i64 a0_2)) (ds:=[]) #[fi,fi,fi,fi,fi,fi] (by kernel_rfl) rfl rfl ⟨(blk_cell BK118.out 0).trans rfl,(blk_cell BK118.out 1).trans rfl,(blk_cell BK118.out 2).trans rfl⟩ (fun hHeld=>?_)
       generalize wr.drew=w41 at BK118 HB hHeld ⊢
       refine tz3_ 0 57 hHeld ?_
       refine tz3_ 1 58 hHeld ?_
       refine oo_ 2 59 (fun K hK=>?_)
       refine goes_ Try.func53 (by kernel_rfl) rfl #[.agg #[.int .i64 a0_0,.slice A0_1 l0_1.length c0_1,.int .i64 a0_2]] (by rfl) rfl rfl zf_ ?_
       with_reducible refine (spec_ddTable.calls k2 a0_0 _ _ l0_1 a0_2 t121 t122 _ ?side1 ?side2 A38.out).mono ?_
       (case side1=>exact zj_)
       (case side2=>exact HC0_1.out)
       rintro e w42 ⟨v123,rfl,ho0,hb⟩
       refine ⟨_,rfl,?_⟩
       have n_:=z (Kd.R_lower ho0 (below_size zbj_))<|z (blk_below (zb BK118.out) hb)<|z1 (below_step zbj_ hb)
       clear BK118 HB;obtain ⟨HO124,BK118,HB⟩:=n_;(try clear hb);(try clear hb2);(try clear hk);(try clear hi);(try clear ho0);obtain ⟨Ao43,co43,eo43⟩:=Kd.R_slice HO124.out;(first | subst eo43 | (injection eo43 with f1_ f2_ f3_;have f4_:=f1_.symm;have f5_:=f3_.symm;clear f1_ f2_ f3_;subst f4_;subst f5_))
       refine hK.out _ _ ⟨(blk_cell BK118.out 0).trans rfl,(blk_cell BK118.out 1).trans rfl,(blk_cell BK118.out 2).trans rfl⟩ (fun hHeld=>?_)
       clear hK K
       refine nz_ 59 ?_
       refine oo_ 3 60 (fun K hK=>?_)
       refine goes_ Try.func54 (by kernel_rfl) rfl #[.agg #[.int .i64 t121,.slice Ao43 t122.length co43]] (by rfl) rfl rfl zf_ ?_
       with_reducible refine (spec_ddMake.calls k2 t121 _ _ t122 t125 t126 t129 _ ?side1 ?side2 A39.out).mono ?_
       (case side1=>repeat (first | exact (Kd.R_reads' HO124.out).2.2 | (with_reducible refine cA ?_ _)|(with_reducible refine cN ?_ _)|(with_reducible refine cD ?_)))
       (case side2=>exact (Kd.R_reads' HO124.out).2.1)
       rintro e w44 ⟨v127,rfl,ho0,hb⟩
       refine ⟨_,rfl,?_⟩
       have n_:=z (Kd.R_below (zr HO124.out) hb)<|z (Kd.R_lower ho0 (below_size zbj_))<|z (blk_below (zb BK118.out) hb)<|z1 (below_step zbj_ hb)
       clear HO124 BK118 HB;obtain ⟨HO124,HO128,BK118,HB⟩:=n_;(try clear hb);(try clear hb2);(try clear hk);(try clear hi);(try clear ho0);obtain ⟨Ao45,co45,eo45⟩:=Kd.R_slice HO128.out;(first | subst eo45 | (injection eo45 with f1_ f2_ f3_;have f4_:=f1_.symm;have f5_:=f3_.symm;clear f1_ f2_ f3_;subst f4_;subst f5_))
       refine hK.out _ _ ⟨(blk_cell BK118.out 0).trans rfl,(blk_cell BK118.out 1).trans rfl,(blk_cell BK118.out 2).trans rfl⟩ (fun hHeld=>?_)
       clear hK K
       refine nz_ 60 ?_
       refine oo_ 4 61 (fun K hK=>?_)
       refine goes_ Try.func102 (by kernel_rfl) rfl #[.agg #[.int .i64 a0_0,.slice A0_1 l0_1.length c0_1,.int .i64 a0_2],.agg #[.int .i64 t125,.slice Ao45 t126.length co45,.int .i64 t129]] (by rfl) rfl rfl zf_ ?_
       with_reducible refine (spec_ddSame.calls k2 a0_0 _ _ l0_1 a0_2 t125 _ _ t126 t129 t130 _ ?side1 ?side2 ?side3 ?side4 A40.out).mono ?_
       (case side1=>exact zj_)
       (case side2=>exact HC0_1.out)
       (case side3=>repeat (first | exact (Kd.R_reads' HO128.out).2.2 | (with_reducible refine cA ?_ _)|(with_reducible refine cN ?_ _)|(with_reducible refine cD ?_)))
       (case side4=>exact (Kd.R_reads' HO128.out).2.1)
       rintro e w46 ⟨rfl,hb⟩
       refine ⟨_,rfl,?_⟩
       have n_:=z (Kd.R_below (zr HO124.out) hb)<|z (Kd.R_below (zr HO128.out) hb)<|z (blk_below (zb BK118.out) hb)<|z1 (below_step zbj_ hb)
       clear HO124 HO128 BK118 HB;obtain ⟨HO124,HO128,BK118,HB⟩:=n_;(try clear hb);(try clear hb2);(try clear hk);(try clear hi)
       refine hK.out _ _ ⟨(blk_cell BK118.out 0).trans rfl,(blk_cell BK118.out 1).trans rfl,(blk_cell BK118.out 2).trans rfl⟩ (fun hHeld=>?_)
       clear hK K
       refine nz_ 61 ?_
       refine oz_ 5 2 ?_
       refine done_ (by kernel_rfl) ?_
       (try go_wp2)
       go_ret
       exact ⟨zg_,zbj_⟩
def spec_l1All.l0:Nat→Int→Int→List Int→Int→Int→Option (Bool)
 | 0,_,_,_,_,_=>none
 | k+1,x1,x2,x9,x10,x11=>if x11<x10 then (if 0≤x11 then (if x11<(x9.length:Int) then ((spec_l1In.f (rd x9 x11) x1 x2).bind fun t137=>(if t137=true then (spec_l1All.l0 k x1 x2 x9 x10 (wrap64 (x11+1))) else (some false))) else (none)) else (none)) else (some true)
def spec_l1All.f (k:Nat) (l0:List Int) (a1:Int) (a2:Int):Option (Bool):=spec_l1All.l0 k a1 a2 l0 (l0.length:Int) 0
theorem spec_l1All.calls (k:Nat) (A0:Option Addr) (c0:Nat) (l0:List Int) (a1:Int) (a2:Int) (r:Bool) (w:World) (hr0:Kd.C (Kd.int .i64) w A0 l0.length l0) (hc0:l0.length≤c0) (h:spec_l1All.f k l0 a1 a2=some r) :
  Calls Try.prog 119 #[.slice A0 l0.length c0,.int .i64 a1,.int .i64 a2] w fun e w'=>e = .returned (.bool r)∧Drawn0 w w':=by
 have HR0:=aM hr0
 have HC0:=aM hc0
 clear hr0 hc0
 have H:(spec_l1All.l0 k a1 a2 l0 (l0.length:Int) 0)=some r:=h
 clear h
 have H':=aM H
 clear H
 go_enter Try.func119,Try.ntmps119
 go_wp2
 go_loopg [11] k (fun kq v11 w' => ∃ (x11_1:Int),v11 = .int .i64 x11_1∧Aside0 (spec_l1All.l0 kq a1 a2 l0 (l0.length:Int) x11_1=some r)∧Aside0 (kq≤k)∧Drawn0 w w')
 case atStart=>exact ⟨(0),zd_,H',⟨Nat.le_refl _⟩,zi_⟩
 case round =>
  clear H';obtain ⟨x11_1,rfl,HA,HK1,⟨m1,rfl⟩⟩:=hrel
  cases gk with
  | zero=>exact absurd HA.out (by simp [spec_l1All.l0])
  | succ k1 =>
   have H:=HA.out;clear HA
   simp only [spec_l1All.l0] at H
   by_cases c4:x11_1<(l0.length:Int)
   ·rw [if_pos c4] at H
    have c4b0:=decide_eq_true c4;clear c4
    by_cases c5:0≤x11_1
    ·rw [if_pos c5] at H
     have c5b0:=decide_eq_true c5;clear c5
     by_cases c6:x11_1<(l0.length:Int)
     ·rw [if_pos c6] at H
      have c6b0:=decide_eq_true c6;clear c6;replace H:=oB.mp H;obtain ⟨t137,A70,H⟩:=H;replace H:(if t137=true then (spec_l1All.l0 k1 a1 a2 l0 (l0.length:Int) (wrap64 (x11_1+1))) else (some false))=some r:=H;have A7:=aM A70;clear A70
      by_cases c8:t137=true
      ·subst c8
       have H1:(spec_l1All.l0 k1 a1 a2 l0 (l0.length:Int) (wrap64 (x11_1+1)))=some r:=by rw [if_pos rfl] at H;exact H
       clear H;have H:=H1;clear H1;have H':=aM H;clear H;have p136:0≤(x11_1:Int):=of_decide_eq_true zc_;have q136:x11_1<(l0.length:Int):=of_decide_eq_true zc_;obtain ⟨ad136,e136,hx136_0⟩:=Kd.at_int HR0.out x11_1 p136 q136
       cases e136
       replace p136:=eq_true p136;replace q136:=eq_true q136
       go_wp2_with (first | ((with_reducible refine gate_callee (f:=101) rfl ?_);refine goesL_ (some 18) rfl rfl Try.func101 (by kernel_rfl) rfl #[.int .i64 (rd l0 x11_1),.int .i64 a1,.int .i64 a2] rfl zf_ ?_;(with_reducible refine (spec_l1In.calls (rd l0 x11_1) a1 a2 true _ A7.out).mono ?_);rintro e w' ⟨rfl,⟨nd,rfl⟩⟩;refine ⟨_,rfl,?_⟩))
       go_roundg k1
       case measure=>have:=HK1.out;omega
       case rel=>exact ⟨(wrap64 (x11_1+1)),zd_,H',⟨zci_⟩,zi_⟩
      ·replace c8:=Bool.eq_false_iff.mpr c8
       subst c8;have H1:(some false)=some r:=by rw [if_neg (show ¬ (false=true) by decide)] at H;exact H
       clear H;have H:=H1;clear H1;obtain rfl:=Option.some.inj H;have p136:0≤(x11_1:Int):=of_decide_eq_true zc_;have q136:x11_1<(l0.length:Int):=of_decide_eq_true zc_;obtain ⟨ad136,e136,hx136_0⟩:=Kd.at_int HR0.out x11_1 p136 q136
       cases e136
       replace p136:=eq_true p136;replace q136:=eq_true q136
       go_wp2_with (first | ((with_reducible refine gate_callee (f:=101) rfl ?_);refine goesL_ (some 18) rfl rfl Try.func101 (by kernel_rfl) rfl #[.int .i64 (rd l0 x11_1),.int .i64 a1,.int .i64 a2] rfl zf_ ?_;(with_reducible refine (spec_l1In.calls (rd l0 x11_1) a1 a2 false _ A7.out).mono ?_);rintro e w' ⟨rfl,⟨nd,rfl⟩⟩;refine ⟨_,rfl,?_⟩))
       go_ret
       exact ⟨zd_,zi_⟩
     ·rw [if_neg c6] at H
      exact q3n_ H
    ·rw [if_neg c5] at H
     exact q3n_ H
   ·rw [if_neg c4] at H
    have c4b0:=decide_eq_false c4;clear c4;obtain rfl:=Option.some.inj H
    go_wp2
    go_ret
    exact ⟨zd_,zi_⟩
def spec_ttGood.f (k:Nat) (a0_0:Int) (l0_1:List Int):Option (Bool):=(spec_ttInputs.f a0_0).bind fun t139=>(if t139=true then (if 0≤(IntKind.u64.wrap (a0_0)) then (if (l0_1.length:Int)=(shl .i64 1 (IntKind.u64.wrap (a0_0))) then ((spec_l1All.f k l0_1 0 1).bind fun t140=>(some t140)) else (some false)) else (none)) else (some false))
theorem spec_ttGood.calls (k:Nat) (a0_0:Int) (A0_1:Option Addr) (c0_1:Nat) (l0_1:List Int) (r:Bool) (w:World) (hr0_1:Kd.C (Kd.int .i64) w A0_1 l0_1.length l0_1) (hc0_1:l0_1.length≤c0_1) (h:spec_ttGood.f k a0_0 l0_1=some r) :
  Calls Try.prog 76 #[.agg #[.int .i64 a0_0,.slice A0_1 l0_1.length c0_1]] w fun e w'=>e = .returned (.bool r)∧Below w.heap.size w w':=by
 have hu41:=Try.underlying41
 have HR0_1:=aM hr0_1
 have HC0_1:=aM hc0_1
 clear hr0_1 hc0_1
 have HB:=aM (Below.refl w.heap.size w)
 have H:((spec_ttInputs.f a0_0).bind fun t139=>(if t139=true then (if 0≤(IntKind.u64.wrap (a0_0)) then (if (l0_1.length:Int)=(shl .i64 1 (IntKind.u64.wrap (a0_0))) then ((spec_l1All.f k l0_1 0 1).bind fun t140=>(some t140)) else (some false)) else (none)) else (some false)))=some r:=h
 clear h
 replace H:=oB.mp H
 obtain ⟨t139,A20,H⟩:=H
 replace H:(if t139=true then (if 0≤(IntKind.u64.wrap (a0_0)) then (if (l0_1.length:Int)=(shl .i64 1 (IntKind.u64.wrap (a0_0))) then ((spec_l1All.f k l0_1 0 1).bind fun t140=>(some t140)) else (some false)) else (none)) else (some false))=some r:=H
 have A2:=aM A20
 clear A20
 by_cases c3:t139=true
 ·subst c3
  have H1:(if 0≤(IntKind.u64.wrap (a0_0)) then (if (l0_1.length:Int)=(shl .i64 1 (IntKind.u64.wrap (a0_0))) then ((spec_l1All.f k l0_1 0 1).bind fun t140=>(some t140)) else (some false)) else (none))=some r:=by rw [if_pos rfl] at H;exact H
  clear H;have H:=H1;clear H1;obtain ⟨ji4,hji4⟩:∃ j_:Int,(IntKind.u64.wrap (a0_0))=j_:=⟨_,rfl⟩;replace H:(if 0≤(ji4) then (if (l0_1.length:Int)=(shl .i64 1 (ji4)) then ((spec_l1All.f k l0_1 0 1).bind fun t140=>(some t140)) else (some false)) else (none))=some r:=by first | (rw [hji4] at H;exact H)|(simp only [hji4] at H ⊢;exact H)
  (try rw [hji4] at A2)
  by_cases c5:0≤(ji4)
  ·rw [if_pos c5] at H
   have c5b0:=eq_true c5;have c5b1:=decide_eq_true c5;clear c5;obtain ⟨ji6,hji6⟩:∃ j_:Int,(shl .i64 1 (ji4))=j_:=⟨_,rfl⟩;replace H:(if (l0_1.length:Int)=(ji6) then ((spec_l1All.f k l0_1 0 1).bind fun t140=>(some t140)) else (some false))=some r:=by first | (rw [hji6] at H;exact H)|(simp only [hji6] at H ⊢;exact H)
   (try rw [hji6] at A2);have hji6_:(IntKind.i64.wrap (1 * 2 ^ min (ji4).toNat 64))=ji6:=hji6;have hji6z:(ji4)≤64→(IntKind.i64.wrap (1 * 2 ^ (ji4).toNat))=ji6:=shl_small hji6;have hji6u:(IntKind.i64.wrap (2 ^ min (ji4).toNat 64))=ji6:=by have h_:=hji6_;rw [Int.one_mul] at h_;exact h_
   have hji6v:(ji4)≤64→(IntKind.i64.wrap (2 ^ (ji4).toNat))=ji6:=fun hle_=>by have h_:=hji6z hle_;rw [Int.one_mul] at h_;exact h_
   have hji6y:(wrap64 (1 * 2 ^ min (ji4).toNat 64))=ji6:=(i64_w _).symm.trans hji6_;have hji6x:(ji4)≤64→(wrap64 (1 * 2 ^ (ji4).toNat))=ji6:=fun h_=>(i64_w _).symm.trans (hji6z h_)
   by_cases c7:(l0_1.length:Int)=(ji6)
   ·rw [if_pos c7] at H
    have c7b0:=beq_iff_eq.mpr c7;have c7b1:=bne_eq_false_iff_eq.mpr c7;clear c7;replace H:=oB.mp H;obtain ⟨t140,A80,H⟩:=H;replace H:(some t140)=some r:=H;have A8:=aM A80;clear A80;obtain rfl:=Option.some.inj H
    go_enter Try.func76,Try.ntmps76
    go_wp2_with (first | ((with_reducible refine gate_dst (N:=1) rfl ?_);(try (refine gate_guard (by rfl) ?_;dsimp only));refine box_event ?hg (N:=1) ?hd (cs:=#[.int .i64 a0_0,.slice A0_1 l0_1.length c0_1]) (t:=41) ?hr ?_;(case hd=>rfl);(case hg=>rfl);(case hr=>exact za_);intro gb138 hg w9 hbox hb;have n_:=z (below_step zb_ hb)<|z (hbox)<|z ((by rw [hg];exact (below_size zb_):w.heap.size≤gb138))<|z1 ((by rw [hg];exact (below_size zb_):w.heap.size≤gb138));clear HB;obtain ⟨HB,BK138,GW138,GE138⟩:=n_;clear hb hbox hg;obtain ⟨hcz10_0,hcz10_1,hfz10_0,hfz10_1⟩:=zk2 BK138.out)|((with_reducible refine gate_callee (f:=100) rfl ?_);refine goesL_ (some 5) rfl rfl Try.func100 (by kernel_rfl) rfl #[.int .i64 a0_0] rfl zf_ ?_;(with_reducible refine (spec_ttInputs.calls a0_0 true _ A2.out).mono ?_);rintro e w' ⟨rfl,⟨nd,rfl⟩⟩;refine ⟨_,rfl,?_⟩)|(go_at_call 119;(with_reducible refine (spec_l1All.calls k _ _ l0_1 0 1 t140 _ ?side1 ?side2 A8.out).mono ?_);(case side1=>repeat (first | exact (Kd.C_below HR0_1.out zif_)|(with_reducible refine cA ?_ _)|(with_reducible refine cN ?_ _)|(with_reducible refine cD ?_)));(case side2=>exact HC0_1.out);rintro e w' ⟨rfl,⟨nd,rfl⟩⟩))
    go_ret
    exact ⟨by first | rfl | (simp [errW_none,errW_some] <;> rfl)|(simp only [← hji4,← hji6];first | rfl | (simp [errW_none,errW_some] <;> rfl))|(simp [*,errW_none,errW_some] <;> rfl),zif_⟩
   ·rw [if_neg c7] at H
    have c7b0:=beq_eq_false_iff_ne.mpr c7;have c7b1:=bne_iff_ne.mpr c7;obtain rfl:=Option.some.inj H
    go_enter Try.func76,Try.ntmps76
    go_wp2_with (first | ((with_reducible refine gate_dst (N:=1) rfl ?_);(try (refine gate_guard (by rfl) ?_;dsimp only));refine box_event ?hg (N:=1) ?hd (cs:=#[.int .i64 a0_0,.slice A0_1 l0_1.length c0_1]) (t:=41) ?hr ?_;(case hd=>rfl);(case hg=>rfl);(case hr=>exact za_);intro gb138 hg w11 hbox hb;have n_:=z (below_step zb_ hb)<|z (hbox)<|z ((by rw [hg];exact (below_size zb_):w.heap.size≤gb138))<|z1 ((by rw [hg];exact (below_size zb_):w.heap.size≤gb138));clear HB;obtain ⟨HB,BK138,GW138,GE138⟩:=n_;clear hb hbox hg;obtain ⟨hcz12_0,hcz12_1,hfz12_0,hfz12_1⟩:=zk2 BK138.out)|((with_reducible refine gate_callee (f:=100) rfl ?_);refine goesL_ (some 5) rfl rfl Try.func100 (by kernel_rfl) rfl #[.int .i64 a0_0] rfl zf_ ?_;(with_reducible refine (spec_ttInputs.calls a0_0 true _ A2.out).mono ?_);rintro e w' ⟨rfl,⟨nd,rfl⟩⟩;refine ⟨_,rfl,?_⟩))
    go_ret
    exact ⟨by first | rfl | (simp [errW_none,errW_some] <;> rfl)|(simp only [← hji4,← hji6];first | rfl | (simp [errW_none,errW_some] <;> rfl))|(simp [*,errW_none,errW_some] <;> rfl),zif_⟩
  ·rw [if_neg c5] at H
   exact q3n_ H
 ·replace c3:=Bool.eq_false_iff.mpr c3
  subst c3;have H1:(some false)=some r:=by rw [if_neg (show ¬ (false=true) by decide)] at H;exact H
  clear H;have H:=H1;clear H1;obtain rfl:=Option.some.inj H
  go_enter Try.func76,Try.ntmps76
  go_wp2_with (first | ((with_reducible refine gate_dst (N:=1) rfl ?_);(try (refine gate_guard (by rfl) ?_;dsimp only));refine box_event ?hg (N:=1) ?hd (cs:=#[.int .i64 a0_0,.slice A0_1 l0_1.length c0_1]) (t:=41) ?hr ?_;(case hd=>rfl);(case hg=>rfl);(case hr=>exact za_);intro gb138 hg w13 hbox hb;have n_:=z (below_step zb_ hb)<|z (hbox)<|z ((by rw [hg];exact (below_size zb_):w.heap.size≤gb138))<|z1 ((by rw [hg];exact (below_size zb_):w.heap.size≤gb138));clear HB;obtain ⟨HB,BK138,GW138,GE138⟩:=n_;clear hb hbox hg;obtain ⟨hcz14_0,hcz14_1,hfz14_0,hfz14_1⟩:=zk2 BK138.out)|((with_reducible refine gate_callee (f:=100) rfl ?_);refine goesL_ (some 5) rfl rfl Try.func100 (by kernel_rfl) rfl #[.int .i64 a0_0] rfl zf_ ?_;(with_reducible refine (spec_ttInputs.calls a0_0 false _ A2.out).mono ?_);rintro e w' ⟨rfl,⟨nd,rfl⟩⟩;refine ⟨_,rfl,?_⟩))
  go_ret
  exact ⟨zg_,zif_⟩
def spec_l1Most.f (a0:Int) (a1:Int):Option (Int):=if a0>a1 then (some a0) else (some a1)
theorem spec_l1Most.calls (a0:Int) (a1:Int) (r:Int) (w:World) (h:spec_l1Most.f a0 a1=some r) :
  Calls Try.prog 63 #[.int .i64 a0,.int .i64 a1] w fun e w'=>e = .returned (.int .i64 r)∧Drawn0 w w':=by
 have H:(if a0>a1 then (some a0) else (some a1))=some r:=h
 clear h
 by_cases c3:a0>a1
 ·rw [if_pos c3] at H
  have c3b0:decide (a1<a0)=true:=decide_eq_true c3;clear c3;obtain rfl:=Option.some.inj H
  go_enter Try.func63,Try.ntmps63
  go_wp2
  go_ret
  exact ⟨zd_,zi_⟩
 ·rw [if_neg c3] at H
  have c3b0:decide (a1<a0)=false:=decide_eq_false c3;clear c3;obtain rfl:=Option.some.inj H
  go_enter Try.func63,Try.ntmps63
  go_wp2
  go_ret
  exact ⟨zd_,zi_⟩
def spec_ttCombine.f (a0:Int) (a1:Int) (a2:Int):Option (Int):=if a0=1 then (some (wrap64 (a1 * a2))) else (if a0=2 then ((spec_l1Most.f a1 a2).bind fun t141=>(some t141)) else (if a0=3 then (some (Int.tmod (wrap64 (a1+a2)) 2)) else ((spec_l1Most.f (wrap64 (1 - a1)) a2).bind fun t142=>(some t142))))
theorem spec_ttCombine.calls (a0:Int) (a1:Int) (a2:Int) (r:Int) (w:World) (h:spec_ttCombine.f a0 a1 a2=some r) :
  Calls Try.prog 103 #[.int .i64 a0,.int .i64 a1,.int .i64 a2] w fun e w'=>e = .returned (.int .i64 r)∧Drawn0 w w':=by
 have H:(if a0=1 then (some (wrap64 (a1 * a2))) else (if a0=2 then ((spec_l1Most.f a1 a2).bind fun t141=>(some t141)) else (if a0=3 then (some (Int.tmod (wrap64 (a1+a2)) 2)) else ((spec_l1Most.f (wrap64 (1 - a1)) a2).bind fun t142=>(some t142)))))=some r:=h
 clear h
 by_cases c4:a0=1
 ·rw [if_pos c4] at H
  have c4b0:=beq_iff_eq.mpr c4;have c4b1:=bne_eq_false_iff_eq.mpr c4;clear c4;obtain rfl:=Option.some.inj H
  go_enter Try.func103,Try.ntmps103
  go_wp2
  go_ret
  exact ⟨zd_,zi_⟩
 ·rw [if_neg c4] at H
  have c4b0:=beq_eq_false_iff_ne.mpr c4;have c4b1:=bne_iff_ne.mpr c4
  by_cases c5:a0=2
  ·rw [if_pos c5] at H
   have c5b0:=beq_iff_eq.mpr c5;have c5b1:=bne_eq_false_iff_eq.mpr c5;clear c5;replace H:=oB.mp H;obtain ⟨t141,A60,H⟩:=H;replace H:(some t141)=some r:=H;have A6:=aM A60;clear A60;obtain rfl:=Option.some.inj H
   go_enter Try.func103,Try.ntmps103
   go_wp2_with (first | ((with_reducible refine gate_callee (f:=63) rfl ?_);refine goesL_ (some 17) rfl rfl Try.func63 (by kernel_rfl) rfl #[.int .i64 a1,.int .i64 a2] rfl zf_ ?_;(with_reducible refine (spec_l1Most.calls a1 a2 t141 _ A6.out).mono ?_);rintro e w' ⟨rfl,⟨nd,rfl⟩⟩;refine ⟨_,rfl,?_⟩))
   go_ret
   exact ⟨zd_,zi_⟩
  ·rw [if_neg c5] at H
   have c5b0:=beq_eq_false_iff_ne.mpr c5;have c5b1:=bne_iff_ne.mpr c5
   by_cases c7:a0=3
   ·rw [if_pos c7] at H
    have c7b0:=beq_iff_eq.mpr c7;have c7b1:=bne_eq_false_iff_eq.mpr c7;clear c7;obtain rfl:=Option.some.inj H
    go_enter Try.func103,Try.ntmps103
    go_wp2
    go_ret
    exact ⟨zd_,zi_⟩
   ·rw [if_neg c7] at H
    have c7b0:=beq_eq_false_iff_ne.mpr c7;have c7b1:=bne_iff_ne.mpr c7;replace H:=oB.mp H;obtain ⟨t142,A80,H⟩:=H;replace H:(some t142)=some r:=H;have A8:=aM A80;clear A80;obtain rfl:=Option.some.inj H
    go_enter Try.func103,Try.ntmps103
    go_wp2_with (first | ((with_reducible refine gate_callee (f:=63) rfl ?_);refine goesL_ (some 27) rfl rfl Try.func63 (by kernel_rfl) rfl #[.int .i64 (wrap64 (1 - a1)),.int .i64 a2] rfl zf_ ?_;(with_reducible refine (spec_l1Most.calls (wrap64 (1 - a1)) a2 t142 _ A8.out).mono ?_);rintro e w' ⟨rfl,⟨nd,rfl⟩⟩;refine ⟨_,rfl,?_⟩))
    go_ret
    exact ⟨zd_,zi_⟩
mutual
def spec_CombineTables.j0:Nat→Int→Bool→Int→List Int→Int→List Int→Option (Int×List Int×Bool)
 | 0,_,_,_,_,_,_=>none
 | k+1,x0,x30,x144000,x144001,x145000,x145001=>if x30=true then (some (0,([]:List Int),false)) else (spec_CombineTables.l0 k x0 x144001 (x144001.length:Int) 0 x145000 x145001 x144000 ([]:List Int))
def spec_CombineTables.l0:Nat→Int→List Int→Int→Int→Int→List Int→Int→List Int→Option (Int×List Int×Bool)
 | 0,_,_,_,_,_,_,_,_=>none
 | k+1,x0,x36,x37,x38,x145000,x145001,x150000,x150001=>if x38<x37 then (if 0≤x38 then (if x38<(x36.length:Int) then (if x38<(x145001.length:Int) then ((spec_ttCombine.f x0 (rd x36 x38) (rd x145001 x38)).bind fun t152=>(if x150001.length<17592186044416 then (spec_CombineTables.l0 k x0 x36 x37 (wrap64 (x38+1)) x145000 x145001 x150000 (x150001 ++ [t152])) else (none))) else (none)) else (none)) else (none)) else (some (x150000,x150001,true))
end
def spec_CombineTables.f (k:Nat) (a0:Int) (a1_0:Int) (l1_1:List Int) (a2_0:Int) (l2_1:List Int):Option (Int×List Int×Bool):=(spec_l1In.f a0 1 4).bind fun t146=>(if t146=true then ((spec_ttGood.f k a1_0 l1_1).bind fun t147=>(if t147=true then ((spec_ttGood.f k a2_0 l2_1).bind fun t148=>(if t148=true then (spec_CombineTables.j0 k a0 (a1_0 != a2_0) a1_0 l1_1 a2_0 l2_1) else (spec_CombineTables.j0 k a0 true a1_0 l1_1 a2_0 l2_1))) else (spec_CombineTables.j0 k a0 true a1_0 l1_1 a2_0 l2_1))) else (spec_CombineTables.j0 k a0 true a1_0 l1_1 a2_0 l2_1))
def spec_CombineTables.T7:Bool×List (List Nat×List Nat):=(true,[([],[]),([0],[0]),([],[]),([],[]),([],[]),([4],[4]),([],[]),([5,6],[5,6]),([7],[7]),([2,3,8],[2,3,8]),([9],[9]),([1,10,9],[1,10]),([0,1,2,3,4,5,6,7,8,9,10,11],[]),([12,11,11,0,1,2,3,4,5,6,7,8,9,10,11],[11,12])])
def spec_CombineTables.B7:List Nat:=[0,1,0,0,0,16,0,112,240,508,1020,2047,4095,8191]
theorem spec_CombineTables.tab7:rtab .any (opsOf Try.f52 7)=spec_CombineTables.T7:=by kernel_rfl
theorem spec_CombineTables.bits7:waitsOk spec_CombineTables.T7.2 spec_CombineTables.B7=true:=by kernel_rfl
theorem spec_CombineTables.calls (k:Nat) (a0:Int) (a1_0:Int) (A1_1:Option Addr) (c1_1:Nat) (l1_1:List Int) (a2_0:Int) (A2_1:Option Addr) (c2_1:Nat) (l2_1:List Int) (r1:Int) (r2:List Int) (r3:Bool) (w:World) (hr1_1:Kd.C (Kd.int .i64) w A1_1 l1_1.length l1_1) (hc1_1:l1_1.length≤c1_1) (hr2_1:Kd.C (Kd.int .i64) w A2_1 l2_1.length l2_1) (hc2_1:l2_1.length≤c2_1) (h:spec_CombineTables.f k a0 a1_0 l1_1 a2_0 l2_1=some (r1,r2,r3)) :
  Calls Try.prog 52 #[.int .i64 a0,.agg #[.int .i64 a1_0,.slice A1_1 l1_1.length c1_1],.agg #[.int .i64 a2_0,.slice A2_1 l2_1.length c2_1]] w fun e w' => ∃ v1_:Value,e = .returned (.tuple #[.agg #[.int .i64 r1,v1_],.bool r3])∧Kd.R (Kd.int .i64) 3 w' w.heap.size (fun _=>True) v1_ r2∧Below w.heap.size w w':=by
 have hu41:=Try.underlying41
 have HR1_1:=aM hr1_1
 have HC1_1:=aM hc1_1
 clear hr1_1 hc1_1
 have HR2_1:=aM hr2_1
 have HC2_1:=aM hc2_1
 clear hr2_1 hc2_1
 have HB:=aM (Below.refl w.heap.size w)
 have H:((spec_l1In.f a0 1 4).bind fun t146=>(if t146=true then ((spec_ttGood.f k a1_0 l1_1).bind fun t147=>(if t147=true then ((spec_ttGood.f k a2_0 l2_1).bind fun t148=>(if t148=true then (spec_CombineTables.j0 k a0 (a1_0 != a2_0) a1_0 l1_1 a2_0 l2_1) else (spec_CombineTables.j0 k a0 true a1_0 l1_1 a2_0 l2_1))) else (spec_CombineTables.j0 k a0 true a1_0 l1_1 a2_0 l2_1))) else (spec_CombineTables.j0 k a0 true a1_0 l1_1 a2_0 l2_1)))=some (r1,r2,r3):=h
 clear h
 have HC4:=aM H
 clear H
 go_enter Try.func52,Try.ntmps52
 go_upto_region 1 with (first | ((with_reducible refine gate_dst (N:=4) rfl ?_);refine box_event ?hg (N:=4) ?hd (cs:=#[.int .i64 a1_0,.slice A1_1 l1_1.length c1_1]) (t:=41) ?hr ?_;(case hd=>rfl);(case hg=>rfl);(case hr=>exact za_);intro gb143 hg w5 hbox hb;have n_:=z (below_step zb_ hb)<|z (hbox)<|z ((by rw [hg];exact (below_size zb_):w.heap.size≤gb143))<|z1 ((by rw [hg];exact (below_size zb_):w.heap.size≤gb143));clear HB;obtain ⟨HB,BK143,GW143,GE143⟩:=n_;clear hb hbox hg)|((with_reducible refine gate_dst (N:=5) rfl ?_);refine box_event ?hg (N:=5) ?hd (cs:=#[.int .i64 a2_0,.slice A2_1 l2_1.length c2_1]) (t:=41) ?hr ?_;(case hd=>rfl);(case hg=>rfl);(case hr=>exact za_);intro gb144 hg w6 hbox hb;have n_:=z (blk_below (zb BK143.out) hb)<|z (below_step zjf_ hb)<|z (hbox)<|z ((by rw [hg];exact (below_size zjf_):w.heap.size≤gb144))<|z ((by rw [hg];exact (below_size zjf_):w.heap.size≤gb144))<|z ((by rw [hg];exact Nat.ne_of_lt (blk_lt (zb BK143.out)):gb143≠gb144))<|z1 ((by rw [hg];exact Nat.ne_of_gt (blk_lt (zb BK143.out)):gb144≠gb143));clear BK143 HB;obtain ⟨BK143,HB,BK144,GW144,GE144,NB143_144,NB144_143⟩:=n_;clear hb hbox hg)|((with_reducible refine gate_dst (N:=6) rfl ?_);refine box_event ?hg (N:=6) ?hd (cs:=#[.int .i64 0,.slice none 0 0]) (t:=41) ?hr ?_;(case hd=>rfl);(case hg=>rfl);(case hr=>exact za_);intro gb145 hg w7 hbox hb;have n_:=z (blk_below (zb BK143.out) hb)<|z (blk_below (zb BK144.out) hb)<|z (below_step zjg_ hb)<|z (hbox)<|z ((by rw [hg];exact (below_size zjg_):w.heap.size≤gb145))<|z ((by rw [hg];exact (below_size zjg_):w.heap.size≤gb145))<|z ((by rw [hg];exact Nat.ne_of_lt (blk_lt (zb BK143.out)):gb143≠gb145))<|z ((by rw [hg];exact Nat.ne_of_gt (blk_lt (zb BK143.out)):gb145≠gb143))<|z ((by rw [hg];exact Nat.ne_of_lt (blk_lt (zb BK144.out)):gb144≠gb145))<|z1 ((by rw [hg];exact Nat.ne_of_gt (blk_lt (zb BK144.out)):gb145≠gb144));clear BK143 BK144 HB;obtain ⟨BK143,BK144,HB,BK145,GW145,GE145,NB143_145,NB145_143,NB144_145,NB145_144⟩:=n_;clear hb hbox hg))
 (try simp only [Act.put,sI,s0,sS])
 go_cut [30] (fun v30 wc => ∃ (kq:Nat) (x30_3:Bool),v30 = .bool x30_3∧Aside0 (spec_CombineTables.j0 kq a0 x30_3 a1_0 l1_1 a2_0 l2_1=some (r1,r2,r3))∧Aside0 (kq≤k)∧Aside0 (wc.heap[gb143]?=some (.cells #[.int .i64 a1_0,(.slice A1_1 l1_1.length c1_1)] 41 (0,0)))∧Aside0 (wc.heap[gb144]?=some (.cells #[.int .i64 a2_0,(.slice A2_1 l2_1.length c2_1)] 41 (0,0)))∧Aside0 (wc.heap[gb145]?=some (.cells #[.int .i64 0,(.slice none 0 0)] 41 (0,0)))∧Aside0 (Below w.heap.size w wc))
 case first =>
  have H:=HC4.out;clear HC4;replace H:=oB.mp H;obtain ⟨t146,A80,H⟩:=H;replace H:(if t146=true then ((spec_ttGood.f k a1_0 l1_1).bind fun t147=>(if t147=true then ((spec_ttGood.f k a2_0 l2_1).bind fun t148=>(if t148=true then (spec_CombineTables.j0 k a0 (a1_0 != a2_0) a1_0 l1_1 a2_0 l2_1) else (spec_CombineTables.j0 k a0 true a1_0 l1_1 a2_0 l2_1))) else (spec_CombineTables.j0 k a0 true a1_0 l1_1 a2_0 l2_1))) else (spec_CombineTables.j0 k a0 true a1_0 l1_1 a2_0 l2_1))=some (r1,r2,r3):=H;have A8:=aM A80;clear A80
  by_cases c9:t146=true
  ·subst c9
   have H1:((spec_ttGood.f k a1_0 l1_1).bind fun t147=>(if t147=true then ((spec_ttGood.f k a2_0 l2_1).bind fun t148=>(if t148=true then (spec_CombineTables.j0 k a0 (a1_0 != a2_0) a1_0 l1_1 a2_0 l2_1) else (spec_CombineTables.j0 k a0 true a1_0 l1_1 a2_0 l2_1))) else (spec_CombineTables.j0 k a0 true a1_0 l1_1 a2_0 l2_1)))=some (r1,r2,r3):=by rw [if_pos rfl] at H;exact H
   clear H;have H:=H1;clear H1;replace H:=oB.mp H;obtain ⟨t147,A100,H⟩:=H;replace H:(if t147=true then ((spec_ttGood.f k a2_0 l2_1).bind fun t148=>(if t148=true then (spec_CombineTables.j0 k a0 (a1_0 != a2_0) a1_0 l1_1 a2_0 l2_1) else (spec_CombineTables.j0 k a0 true a1_0 l1_1 a2_0 l2_1))) else (spec_CombineTables.j0 k a0 true a1_0 l1_1 a2_0 l2_1))=some (r1,r2,r3):=H;have A10:=aM A100;clear A100
   by_cases c11:t147=true
   ·subst c11
    have H1:((spec_ttGood.f k a2_0 l2_1).bind fun t148=>(if t148=true then (spec_CombineTables.j0 k a0 (a1_0 != a2_0) a1_0 l1_1 a2_0 l2_1) else (spec_CombineTables.j0 k a0 true a1_0 l1_1 a2_0 l2_1)))=some (r1,r2,r3):=by rw [if_pos rfl] at H;exact H
    clear H;have H:=H1;clear H1;replace H:=oB.mp H;obtain ⟨t148,A120,H⟩:=H;replace H:(if t148=true then (spec_CombineTables.j0 k a0 (a1_0 != a2_0) a1_0 l1_1 a2_0 l2_1) else (spec_CombineTables.j0 k a0 true a1_0 l1_1 a2_0 l2_1))=some (r1,r2,r3):=H;have A12:=aM A120;clear A120
    by_cases c13:t148=true
    ·subst c13
     have H1:(spec_CombineTables.j0 k a0 (a1_0 != a2_0) a1_0 l1_1 a2_0 l2_1)=some (r1,r2,r3):=by rw [if_pos rfl] at H;exact H
     clear H;have H:=H1;clear H1;have H':=aM H;clear H
     go_wp2_with (first | ((with_reducible refine gate_callee (f:=101) rfl ?_);refine goesL_ (some 12) rfl rfl Try.func101 (by kernel_rfl) rfl #[.int .i64 a0,.int .i64 1,.int .i64 4] rfl zf_ ?_;(with_reducible refine (spec_l1In.calls a0 1 4 true _ A8.out).mono ?_);rintro e w' ⟨rfl,⟨nd,rfl⟩⟩;refine ⟨_,rfl,?_⟩;have hnb14:=NB143_144.out;have hnc14:=NB144_143.out;have hnb15:=NB143_145.out;have hnc15:=NB145_143.out;obtain ⟨hcz16_0,hcz16_1,hfz16_0,hfz16_1⟩:=zk2 BK143.out)|(go_at_call 76;(with_reducible refine (spec_ttGood.calls k a1_0 _ _ l1_1 true _ ?side1 ?side2 A10.out).mono ?_);(case side1=>exact zjh_);(case side2=>exact HC1_1.out);rintro e w17 ⟨rfl,hb⟩;have n_:=z (blk_below (zb BK143.out) hb)<|z (blk_below (zb BK144.out) hb)<|z (blk_below (zb BK145.out) hb)<|z1 (below_step zde_ hb);clear BK143 BK144 BK145 HB;obtain ⟨BK143,BK144,BK145,HB⟩:=n_;clear hb;have hnb18:=NB144_145.out;have hnc18:=NB145_144.out;obtain ⟨hcz19_0,hcz19_1,hfz19_0,hfz19_1⟩:=zk2 BK144.out)|(go_at_call 76;(with_reducible refine (spec_ttGood.calls k a2_0 _ _ l2_1 true _ ?side1 ?side2 A12.out).mono ?_);(case side1=>repeat (first | exact (Kd.C_below HR2_1.out HB.out)|(with_reducible refine cA ?_ _)|(with_reducible refine cN ?_ _)|(with_reducible refine cD ?_)));(case side2=>exact HC2_1.out);rintro e w20 ⟨rfl,hb⟩;have n_:=z (blk_below (zb BK143.out) hb)<|z (blk_below (zb BK144.out) hb)<|z (blk_below (zb BK145.out) hb)<|z1 (below_step zde_ hb);clear BK143 BK144 BK145 HB;obtain ⟨BK143,BK144,BK145,HB⟩:=n_;clear hb;obtain ⟨hcz21_0,hcz21_1,hfz21_0,hfz21_1⟩:=zk2 BK143.out;obtain ⟨hcz22_0,hcz22_1,hfz22_0,hfz22_1⟩:=zk2 BK144.out))
     go_meet
     case rel=>exact ⟨_,((a1_0 != a2_0)),zd_,H',⟨zbe_⟩,⟨zb BK143.out⟩,⟨zb BK144.out⟩,⟨zb BK145.out⟩,⟨zde_⟩⟩
    ·replace c13:=Bool.eq_false_iff.mpr c13
     subst c13;have H1:(spec_CombineTables.j0 k a0 true a1_0 l1_1 a2_0 l2_1)=some (r1,r2,r3):=by rw [if_neg (show ¬ (false=true) by decide)] at H;exact H
     clear H;have H:=H1;clear H1;have H':=aM H;clear H
     go_wp2_with (first | ((with_reducible refine gate_callee (f:=101) rfl ?_);refine goesL_ (some 12) rfl rfl Try.func101 (by kernel_rfl) rfl #[.int .i64 a0,.int .i64 1,.int .i64 4] rfl zf_ ?_;(with_reducible refine (spec_l1In.calls a0 1 4 true _ A8.out).mono ?_);rintro e w' ⟨rfl,⟨nd,rfl⟩⟩;refine ⟨_,rfl,?_⟩;have hnb23:=NB143_144.out;have hnc23:=NB144_143.out;have hnb24:=NB143_145.out;have hnc24:=NB145_143.out;obtain ⟨hcz25_0,hcz25_1,hfz25_0,hfz25_1⟩:=zk2 BK143.out)|(go_at_call 76;(with_reducible refine (spec_ttGood.calls k a1_0 _ _ l1_1 true _ ?side1 ?side2 A10.out).mono ?_);(case side1=>exact zjh_);(case side2=>exact HC1_1.out);rintro e w26 ⟨rfl,hb⟩;have n_:=z (blk_below (zb BK143.out) hb)<|z (blk_below (zb BK144.out) hb)<|z (blk_below (zb BK145.out) hb)<|z1 (below_step zde_ hb);clear BK143 BK144 BK145 HB;obtain ⟨BK143,BK144,BK145,HB⟩:=n_;clear hb;have hnb27:=NB144_145.out;have hnc27:=NB145_144.out;obtain ⟨hcz28_0,hcz28_1,hfz28_0,hfz28_1⟩:=zk2 BK144.out)|(go_at_call 76;(with_reducible refine (spec_ttGood.calls k a2_0 _ _ l2_1 false _ ?side1 ?side2 A12.out).mono ?_);(case side1=>repeat (first | exact (Kd.C_below HR2_1.out HB.out)|(with_reducible refine cA ?_ _)|(with_reducible refine cN ?_ _)|(with_reducible refine cD ?_)));(case side2=>exact HC2_1.out);rintro e w29 ⟨rfl,hb⟩;have n_:=z (blk_below (zb BK143.out) hb)<|z (blk_below (zb BK144.out) hb)<|z (blk_below (zb BK145.out) hb)<|z1 (below_step zde_ hb);clear BK143 BK144 BK145 HB;obtain ⟨BK143,BK144,BK145,HB⟩:=n_;clear hb))
     go_meet
     case rel=>exact ⟨_,(true),zd_,H',⟨zbe_⟩,⟨zb BK143.out⟩,⟨zb BK144.out⟩,⟨zb BK145.out⟩,⟨zde_⟩⟩
   ·replace c11:=Bool.eq_false_iff.mpr c11
    subst c11;have H1:(spec_CombineTables.j0 k a0 true a1_0 l1_1 a2_0 l2_1)=some (r1,r2,r3):=by rw [if_neg (show ¬ (false=true) by decide)] at H;exact H
    clear H;have H:=H1;clear H1;have H':=aM H;clear H
    go_wp2_with (first | ((with_reducible refine gate_callee (f:=101) rfl ?_);refine goesL_ (some 12) rfl rfl Try.func101 (by kernel_rfl) rfl #[.int .i64 a0,.int .i64 1,.int .i64 4] rfl zf_ ?_;(with_reducible refine (spec_l1In.calls a0 1 4 true _ A8.out).mono ?_);rintro e w' ⟨rfl,⟨nd,rfl⟩⟩;refine ⟨_,rfl,?_⟩;have hnb30:=NB143_144.out;have hnc30:=NB144_143.out;have hnb31:=NB143_145.out;have hnc31:=NB145_143.out;obtain ⟨hcz32_0,hcz32_1,hfz32_0,hfz32_1⟩:=zk2 BK143.out)|(go_at_call 76;(with_reducible refine (spec_ttGood.calls k a1_0 _ _ l1_1 false _ ?side1 ?side2 A10.out).mono ?_);(case side1=>exact zjh_);(case side2=>exact HC1_1.out);rintro e w33 ⟨rfl,hb⟩;have n_:=z (blk_below (zb BK143.out) hb)<|z (blk_below (zb BK144.out) hb)<|z (blk_below (zb BK145.out) hb)<|z1 (below_step zde_ hb);clear BK143 BK144 BK145 HB;obtain ⟨BK143,BK144,BK145,HB⟩:=n_;clear hb))
    go_meet
    case rel=>exact ⟨_,(true),zd_,H',⟨zbe_⟩,⟨zb BK143.out⟩,⟨zb BK144.out⟩,⟨zb BK145.out⟩,⟨zde_⟩⟩
  ·replace c9:=Bool.eq_false_iff.mpr c9
   subst c9;have H1:(spec_CombineTables.j0 k a0 true a1_0 l1_1 a2_0 l2_1)=some (r1,r2,r3):=by rw [if_neg (show ¬ (false=true) by decide)] at H;exact H
   clear H;have H:=H1;clear H1;have H':=aM H;clear H
   go_wp2_with (first | ((with_reducible refine gate_callee (f:=101) rfl ?_);refine goesL_ (some 12) rfl rfl Try.func101 (by kernel_rfl) rfl #[.int .i64 a0,.int .i64 1,.int .i64 4] rfl zf_ ?_;(with_reducible refine (spec_l1In.calls a0 1 4 false _ A8.out).mono ?_);rintro e w' ⟨rfl,⟨nd,rfl⟩⟩;refine ⟨_,rfl,?_⟩))
   go_meet
   case rel=>exact ⟨_,(true),zd_,H',⟨zbe_⟩,⟨zb BK143.out⟩,⟨zb BK144.out⟩,⟨zb BK145.out⟩,⟨zde_⟩⟩
 case rest =>
  clear HC4;obtain ⟨kq,x30_3,rfl,HA,HJ3,BK143,BK144,BK145,HB⟩:=hcut
  cases kq with
  | zero=>exact absurd HA.out (by simp [spec_CombineTables.j0])
  | succ kj3 =>
   have H:=HA.out;clear HA
   simp only [spec_CombineTables.j0] at H
   by_cases c34:x30_3=true
   ·subst c34
    have H1:(some (0,([]:List Int),false))=some (r1,r2,r3):=by rw [if_pos rfl] at H;exact H
    clear H;have H:=H1;clear H1
    simp only [Option.some.injEq,Prod.mk.injEq] at H
    obtain ⟨rfl,rfl,rfl⟩:=H;have hnb35:=NB145_143.out;have hnc35:=NB143_145.out;have hnb36:=NB145_144.out;have hnc36:=NB144_145.out;obtain ⟨hcz37_0,hcz37_1,hfz37_0,hfz37_1⟩:=zk2 BK145.out
    go_wp2
    refine bodyPost_ret (results_ct rfl _ _ gb145 41 #[.int .i64 0,.slice none 0 0] (0,0) _ rfl (by refine zb ?_;refine blk_put (cs:=#[.int .i64 0,.slice none 0 0]) ?_ 1 _ rfl;refine zb ?_;refine blk_put (cs:=#[.int .i64 0,.slice none 0 0]) ?_ 0 _ rfl;refine zb ?_;exact BK145.out) Try.underlying41 rfl (by kernel_rfl)) rfl ?_
    exact ⟨_,zg_,zdd_,zde_⟩
   ·replace c34:=Bool.eq_false_iff.mpr c34
    subst c34;have H1:(spec_CombineTables.l0 kj3 a0 l1_1 (l1_1.length:Int) 0 a2_0 l2_1 a1_0 ([]:List Int))=some (r1,r2,r3):=by rw [if_neg (show ¬ (false=true) by decide)] at H;exact H
    clear H;have H:=H1;clear H1;have H':=aM H;clear H;have hnb38:=NB143_144.out;have hnc38:=NB144_143.out;have hnb39:=NB143_145.out;have hnc39:=NB145_143.out;obtain ⟨hcz40_0,hcz40_1,hfz40_0,hfz40_1⟩:=zk2 BK143.out
    go_wp2_with (first | ((with_reducible refine gate_dst (N:=8) rfl ?_);refine box_event ?hg (N:=8) ?hd (cs:=#[.int .i64 0,.slice none 0 0]) (t:=41) ?hr ?_;(case hd=>rfl);(case hg=>rfl);(case hr=>exact za_);intro gb149 hg w41 hbox hb;have n_:=z (blk_below (zb BK143.out) hb)<|z (blk_below (zb BK144.out) hb)<|z (blk_below (zb BK145.out) hb)<|z (below_step zde_ hb)<|z (hbox)<|z ((by rw [hg];exact (below_size zde_):w.heap.size≤gb149))<|z ((by rw [hg];exact (below_size zde_):w.heap.size≤gb149))<|z ((by rw [hg];exact Nat.ne_of_lt (blk_lt (zb BK143.out)):gb143≠gb149))<|z ((by rw [hg];exact Nat.ne_of_gt (blk_lt (zb BK143.out)):gb149≠gb143))<|z ((by rw [hg];exact Nat.ne_of_lt (blk_lt (zb BK144.out)):gb144≠gb149))<|z ((by rw [hg];exact Nat.ne_of_gt (blk_lt (zb BK144.out)):gb149≠gb144))<|z ((by rw [hg];exact Nat.ne_of_lt (blk_lt (zb BK145.out)):gb145≠gb149))<|z1 ((by rw [hg];exact Nat.ne_of_gt (blk_lt (zb BK145.out)):gb149≠gb145));clear BK143 BK144 BK145 HB;obtain ⟨BK143,BK144,BK145,HB,BK149,GW149,GE149,NB143_149,NB149_143,NB144_149,NB149_144,NB145_149,NB149_145⟩:=n_;clear hb hbox hg;have hnb42:=NB149_143.out;have hnc42:=NB143_149.out;have hnb43:=NB149_144.out;have hnc43:=NB144_149.out;have hnb44:=NB149_145.out;have hnc44:=NB145_149.out;obtain ⟨hcz45_0,hcz45_1,hfz45_0,hfz45_1⟩:=zk2 BK149.out;obtain ⟨hcz46_0,hcz46_1,hfz46_0,hfz46_1⟩:=zk2 BK143.out))
    go_loopg [38] kj3 (fun kq v38 w' => ∃ (x38_2:Int) (x150001_2:List Int) (u150001:Value),v38 = .int .i64 x38_2∧Aside0 (spec_CombineTables.l0 kq a0 l1_1 (l1_1.length:Int) x38_2 a2_0 l2_1 a1_0 x150001_2=some (r1,r2,r3))∧Aside0 (kq≤kj3)∧Aside0 (Kd.R (Kd.int .i64) 3 w' w.heap.size (fun _=>True) u150001 x150001_2)∧Aside0 (w'.heap[gb143]?=some (.cells #[.int .i64 a1_0,(.slice A1_1 l1_1.length c1_1)] 41 (0,0)))∧Aside0 (w'.heap[gb144]?=some (.cells #[.int .i64 a2_0,(.slice A2_1 l2_1.length c2_1)] 41 (0,0)))∧Aside0 (w'.heap[gb145]?=some (.cells #[.int .i64 0,(.slice none 0 0)] 41 (0,0)))∧Aside0 (w'.heap[gb149]?=some (.cells #[.int .i64 a1_0,u150001] 41 (0,0)))∧Aside0 (Below w.heap.size w w'))
    case atStart=>exact ⟨(0),(([]:List Int)),(.slice none 0 0),zd_,H',⟨Nat.le_refl _⟩,⟨zdd_⟩,⟨by refine zb ?_;refine blk_far ?_ NB143_149.out _;refine zb ?_;refine blk_far ?_ NB143_149.out _;refine zb ?_;exact BK143.out⟩,⟨by refine zb ?_;refine blk_far ?_ NB144_149.out _;refine zb ?_;refine blk_far ?_ NB144_149.out _;refine zb ?_;exact BK144.out⟩,⟨by refine zb ?_;refine blk_far ?_ NB145_149.out _;refine zb ?_;refine blk_far ?_ NB145_149.out _;refine zb ?_;exact BK145.out⟩,⟨by refine zb ?_;refine blk_put (cs:=#[.int .i64 a1_0,.slice none 0 0]) ?_ 1 _ rfl;refine zb ?_;refine blk_put (cs:=#[.int .i64 0,.slice none 0 0]) ?_ 0 _ rfl;refine zb ?_;exact BK149.out⟩,⟨zhh_⟩⟩
    case round =>
     clear H';(try clear hcz40_0);(try clear hcz40_1);(try clear hcz45_0);(try clear hcz45_1);(try clear hcz46_0);(try clear hcz46_1);(try clear hfz40_0);(try clear hfz40_1);(try clear hfz45_0);(try clear hfz45_1);(try clear hfz46_0);(try clear hfz46_1);obtain ⟨x38_2,x150001_2,u150001,rfl,HA,HK2,HO_150001,BK143,BK144,BK145,BK149,HB⟩:=hrel
     cases gk with
     | zero=>exact absurd HA.out (by simp [spec_CombineTables.l0])
     | succ k2 =>
      have H:=HA.out;clear HA
      simp only [spec_CombineTables.l0] at H
      by_cases c47:x38_2<(l1_1.length:Int)
      ·rw [if_pos c47] at H
       have c47b0:=decide_eq_true c47;clear c47
       by_cases c48:0≤x38_2
       ·rw [if_pos c48] at H
        have c48b0:=decide_eq_true c48;clear c48
        by_cases c49:x38_2<(l1_1.length:Int)
        ·rw [if_pos c49] at H
         have c49b0:=decide_eq_true c49;clear c49
         by_cases c50:x38_2<(l2_1.length:Int)
         ·rw [if_pos c50] at H
          have c50b0:=decide_eq_true c50;clear c50;replace H:=oB.mp H;obtain ⟨t152,A510,H⟩:=H;replace H:(if x150001_2.length<17592186044416 then (spec_CombineTables.l0 k2 a0 l1_1 (l1_1.length:Int) (wrap64 (x38_2+1)) a2_0 l2_1 a1_0 (x150001_2 ++ [t152])) else (none))=some (r1,r2,r3):=H;have A51:=aM A510;clear A510
          by_cases c52:x150001_2.length<17592186044416
          ·rw [if_pos c52] at H
           have LMc52:=aM c52;clear c52;obtain ⟨y153,hy153⟩:∃ y_:List Int,y_=(x150001_2 ++ [t152]):=⟨_,rfl⟩;replace H:(spec_CombineTables.l0 k2 a0 l1_1 (l1_1.length:Int) (wrap64 (x38_2+1)) a2_0 l2_1 a1_0 y153)=some (r1,r2,r3):=q3y_ hy153 H
           have Ny153:=aM hy153;clear hy153;have H':=aM H;clear H;have p150:0≤(x38_2:Int):=of_decide_eq_true zc_;have q150:x38_2<(l1_1.length:Int):=of_decide_eq_true zc_;obtain ⟨ad150,e150,hx150_0⟩:=Kd.at_int HR1_1.out x38_2 p150 q150
           cases e150
           (try (replace hx150_0:=q3h_ HB.out hx150_0));replace p150:=eq_true p150;replace q150:=eq_true q150;(try go_wp2);have n_:=z (kD HO_150001.out)<|z (blk_drew BK143.out)<|z (blk_drew BK144.out)<|z (blk_drew BK145.out)<|z (blk_drew BK149.out)<|z1 (p1 HB.out)
           clear HO_150001 BK143 BK144 BK145 BK149 HB;obtain ⟨HO_150001,BK143,BK144,BK145,BK149,HB⟩:=n_;have p151:0≤(x38_2:Int):=of_decide_eq_true zc_;have q151:x38_2<(l2_1.length:Int):=of_decide_eq_true zc_;obtain ⟨ad151,e151,hx151_0⟩:=Kd.at_int HR2_1.out x38_2 p151 q151;have hw151_0:=hx151_0
           cases e151
           (try (replace hx151_0:=q3h_ HB.out hx151_0));replace p151:=eq_true p151;replace q151:=eq_true q151
           refine start_ (n:=14) (S:=fun w'=>w'.cell? ⟨gb149,0,none⟩=some (.int .i64 a1_0)∧w'.cell? ⟨gb149,1,none⟩=some (u150001)∧w'.cell? ⟨gb144,0,none⟩=some (.int .i64 a2_0)∧w'.cell? ⟨gb144,1,none⟩=some (.slice (some ad151) l2_1.length c2_1)∧w'.cell? (ad151.add (x38_2).toNat)=some (.int .i64 (rd l2_1 x38_2))) (ds:=[13]) #[fi,fi,fi,fi,fi,fi,fi,fi,fi,fi,fi,fi,fi,fi] (by kernel_rfl) rfl rfl ⟨(blk_cell BK149.out 0).trans rfl,(blk_cell BK149.out 1).trans rfl,(blk_cell BK144.out 0).trans rfl,(blk_cell BK144.out 1).trans rfl,((HB.out.cell (World.block_lt_of_cell? w _ hw151_0)).trans hw151_0)⟩ (fun hHeld=>?_);refine with_tabW spec_CombineTables.tab7 spec_CombineTables.bits7 (fun HT_ HW_=>?_)
           generalize wr.drew=w53 at HO_150001 BK143 BK144 BK145 BK149 HB hx151_0 hHeld ⊢;refine py_ 0 43 HT_.out ?_;refine py_ 2 45 HT_.out ?_;refine py_ 3 46 HT_.out ?_;refine py_ 4 47 HT_.out ?_;refine py_ 6 49 HT_.out ?_
           refine tw5_ 1 44 HT_.out HW_.out hHeld ?_
           refine tw5_ 5 48 HT_.out HW_.out hHeld ?_
           refine py_ 7 50 HT_.out ?_
           refine tw5_ 8 51 HT_.out HW_.out hHeld ?_
           refine one_ (i:=9) (N:=some 52) #[ti,ti,ti,ti,ti,ti,ti,ti,ti,ti,fi,fi,fi,fi] rfl rfl (one_of HT_.out (by kernel_rfl)) (by decide) (fun K hK=>?_)
           refine goes_ Try.func103 (by kernel_rfl) rfl #[.int .i64 a0,.int .i64 (rd l1_1 x38_2),.int .i64 (rd l2_1 x38_2)] (by rfl) rfl rfl zf_ ?_
           with_reducible refine (spec_ttCombine.calls a0 (rd l1_1 x38_2) (rd l2_1 x38_2) t152 _ A51.out).mono ?_
           rintro e w' ⟨rfl,⟨nd,rfl⟩⟩
           refine ⟨_,rfl,?_⟩
           refine hK.out _ _ ⟨(blk_cell BK149.out 0).trans rfl,(blk_cell BK149.out 1).trans rfl,(blk_cell BK144.out 0).trans rfl,(blk_cell BK144.out 1).trans rfl,((HB.out.cell (World.block_lt_of_cell? w _ hw151_0)).trans hw151_0)⟩ (fun hHeld=>?_)
           clear hK K
           refine nz_ 52 ?_
           refine one_ (i:=10) (N:=some 53) #[ti,ti,ti,ti,ti,ti,ti,ti,ti,ti,ti,fi,fi,fi] rfl rfl (one_of HT_.out (by kernel_rfl)) (by decide) (fun K hK=>?_)
           refine value_ (w1:=?_) (v:=?_) (by rfl) rfl ?_ ?_
           rotate_left 2
           ·go_simp
            constructor
            ·rfl
            ·rfl
           refine hK.out _ _ ⟨(blk_cell (blk_alloc BK149.out _) 0).trans rfl,(blk_cell (blk_alloc BK149.out _) 1).trans rfl,(blk_cell (blk_alloc BK144.out _) 0).trans rfl,(blk_cell (blk_alloc BK144.out _) 1).trans rfl,(World.cell?_alloc_lt _ _ _ (World.block_lt_of_cell? _ _ (((HB.out.cell (World.block_lt_of_cell? w _ hw151_0)).trans hw151_0)))).trans (((HB.out.cell (World.block_lt_of_cell? w _ hw151_0)).trans hw151_0))⟩ (fun hHeld=>?_)
           clear hK K
           refine nz_ 53 ?_
           refine one_ (i:=11) (N:=some 54) #[ti,ti,ti,ti,ti,ti,ti,ti,ti,ti,ti,ti,fi,fi] rfl rfl (one_of HT_.out (by kernel_rfl)) (by decide) (fun K hK=>?_)
           refine Kd.R_append_step (Kd.int .i64) (w0:=w) w.heap.size (by rfl) (.tmp 44) (.tmp 53) 39 3 (.int .i64 0) 8 rfl Try.underlying39 info3 rfl (by decide) (by omega) u150001 x150001_2 t152 [.int .i64 t152] (fun _=>True) (fun _=>False) rfl rfl ?aP (fun _ hk=>hk.elim) ?aF ?aO ?aB ?aS ?aL ?_
           (case aP=>exact rfl)
           (case aB=>exact zhh_)
           (case aF=>exact zdi_)
           (case aO=>exact (zr HO_150001.out))
           (case aS=>exact (below_size zhh_))
           (case aL=>have:=LMc52.out;omega)
           intro v154 w54 ho hb hg hat
           rw [← Ny153.out] at ho;have n_:=z (blk_grown (g:=gb143) (o := .cells #[.int .i64 a1_0,.slice (some ad150) l1_1.length c1_1] 41 (0,0)) (zb BK143.out) hg (Kd.R_ne HO_150001.out BK143.out (by decide)))<|z (blk_grown (g:=gb144) (o := .cells #[.int .i64 a2_0,.slice (some ad151) l2_1.length c2_1] 41 (0,0)) (zb BK144.out) hg (Kd.R_ne HO_150001.out BK144.out (by decide)))<|z (blk_grown (g:=gb145) (o := .cells #[.int .i64 0,.slice none 0 0] 41 (0,0)) (zb BK145.out) hg (Kd.R_ne HO_150001.out BK145.out (by decide)))<|z (blk_grown (g:=gb149) (o := .cells #[.int .i64 a1_0,u150001] 41 (0,0)) (zb BK149.out) hg (Kd.R_ne HO_150001.out BK149.out (by decide)))<|z (hb)<|z1 (ho)
           clear BK143 BK144 BK145 BK149 HB HO_150001;obtain ⟨BK143,BK144,BK145,BK149,HB,HO155⟩:=n_;clear ho hb hg hat;obtain ⟨Ao55,co55,eo55⟩:=Kd.R_slice HO155.out;(first | subst eo55 | (injection eo55 with f1_ f2_ f3_;have f4_:=f1_.symm;have f5_:=f3_.symm;clear f1_ f2_ f3_;subst f4_;subst f5_))
           refine hK.out _ _ ⟨(blk_cell BK149.out 0).trans rfl,(blk_cell BK149.out 1).trans rfl,(blk_cell BK144.out 0).trans rfl,(blk_cell BK144.out 1).trans rfl,((HB.out.cell (World.block_lt_of_cell? w _ hw151_0)).trans hw151_0)⟩ (fun hHeld=>?_)
           clear hK K
           refine nz_ 54 ?_
           refine py_ 12 55 HT_.out ?_
           refine last_ (i:=13) (N:=none) #[ti,ti,ti,ti,ti,ti,ti,ti,ti,ti,ti,ti,ti,ti] rfl rfl (one_of HT_.out (by kernel_rfl)) (by decide) (fun K hK=>?_)
           have hs56:w54.cell? ⟨gb149,1,none⟩=some (u150001):=(blk_cell BK149.out 1).trans rfl;have hfs56:=blk_frozen BK149.out 1;have hns56_0:=NB143_149.out;have hns56_1:=NB144_149.out;have hns56_2:=NB145_149.out;have hms56_0:=NB149_143.out;have hms56_1:=NB149_144.out;have hms56_2:=NB149_145.out
           refine skip_ (w1:=?_) (by rfl) rfl ?_ ?_
           rotate_left
           ·go_simp
            rfl
           refine hK.out _ _ ?_
           clear hK K
           refine done_ (done_of HT_.out (by kernel_rfl)) ?_
           (try go_wp2)
           go_roundg k2
           case measure=>have:=HJ3.out;have:=HK2.out;omega
           case rel=>exact ⟨(wrap64 (x38_2+1)),(y153),(.slice Ao55 y153.length co55),zd_,H',⟨zhi_⟩,⟨by refine zr ?_;exact Kd.R_mono (Kd.R_far (p:=⟨gb149,1,none⟩) (Kd.R_types HO155.out BK149.out (by decide)) (fun _ hk=>hk.2) (.slice Ao55 y153.length co55)) (fun _ hk=>trivial)⟩,⟨by refine zb ?_;refine blk_far ?_ NB143_149.out _;refine zb ?_;exact BK143.out⟩,⟨by refine zb ?_;refine blk_far ?_ NB144_149.out _;refine zb ?_;exact BK144.out⟩,⟨by refine zb ?_;refine blk_far ?_ NB145_149.out _;refine zb ?_;exact BK145.out⟩,⟨by refine zb ?_;refine blk_put (cs:=#[.int .i64 a1_0,u150001]) ?_ 1 _ rfl;refine zb ?_;exact BK149.out⟩,⟨zhh_⟩⟩
          ·rw [if_neg c52] at H
           exact q3n_ H
         ·rw [if_neg c50] at H
          exact q3n_ H
        ·rw [if_neg c49] at H
         exact q3n_ H
       ·rw [if_neg c48] at H
        exact q3n_ H
      ·rw [if_neg c47] at H
       have c47b0:=decide_eq_false c47;clear c47
       simp only [Option.some.injEq,Prod.mk.injEq] at H
       obtain ⟨rfl,rfl,rfl⟩:=H;have hnb57:=NB149_143.out;have hnc57:=NB143_149.out;have hnb58:=NB149_144.out;have hnc58:=NB144_149.out;have hnb59:=NB149_145.out;have hnc59:=NB145_149.out;obtain ⟨hcz60_0,hcz60_1,hfz60_0,hfz60_1⟩:=zk2 BK149.out;have hnb61:=NB145_143.out;have hnc61:=NB143_145.out;have hnb62:=NB145_144.out;have hnc62:=NB144_145.out;obtain ⟨hcz63_0,hcz63_1,hfz63_0,hfz63_1⟩:=zk2 BK145.out;obtain ⟨Ao64,co64,eo64⟩:=Kd.R_slice HO_150001.out;subst eo64
       go_wp2
       refine bodyPost_ret (results_ct rfl _ _ gb145 41 #[.int .i64 a1_0,.slice Ao64 x150001_2.length co64] (0,0) _ rfl (by refine zb ?_;refine blk_put (cs:=#[.int .i64 a1_0,.slice none 0 0]) ?_ 1 _ rfl;refine zb ?_;refine blk_put (cs:=#[.int .i64 0,.slice none 0 0]) ?_ 0 _ rfl;refine zb ?_;exact BK145.out) Try.underlying41 rfl (by kernel_rfl)) rfl ?_
       exact ⟨_,zg_,by refine zr ?_;exact Kd.R_mono (Kd.R_far (p:=⟨gb145,1,none⟩) (Kd.R_far (p:=⟨gb145,0,none⟩) (Kd.R_types HO_150001.out BK145.out (by decide)) (fun _ hk=>hk.2) (.int .i64 a1_0)) (fun _ hk=>hk.2) (.slice Ao64 x150001_2.length co64)) (fun _ hk=>trivial),zhh_⟩
end Go.Proofs.Ytlnhpkjioppbiaa.QFnDiagramOrders
