/- Functions of FnDiagramOrders, each as a Lean function, with the proof that the Go code comes to its answers. -/
import Derived.Test.YtlnhpkjioppbiaaSFnDiagramOrdersx3
import Derived.Test.YtlnhpkjioppbiaaSFnDiagramOrdersx8
import Derived.Test.YtlnhpkjioppbiaaSFnDiagramOrdersx23
import Derived.Test.YtlnhpkjioppbiaaSFnDiagramOrdersx6
import Derived.Test.YtlnhpkjioppbiaaSFnDiagramOrdersx14
import Derived.Test.YtlnhpkjioppbiaaSFnDiagramOrdersx21
namespace Go.Proofs.Ytlnhpkjioppbiaa.QFnDiagramOrders
open Go.RowKit Go.Proofs.YtlnhpkjioppbiaaW.PrintWords Go.Proofs.YtlnhpkjioppbiaaW.PrintLast Go.Proofs.YtlnhpkjioppbiaaW.PrintMore
open Go.Proofs.YtlnhpkjioppbiaaW.PrintWords renaming pw_below_drewN→pN,below_drew1→p1,below_alloc→pA
open Go.Proofs.YtlnhpkjioppbiaaW.PrintWords.Kd renaming R_alloc→kA,R_drewN→kN,R_drew→kD,Q_alloc→qA,Q_drewN→qN,Q_drew→qD,C_alloc→cA,C_drewN→cN,C_drew→cD
open Go.Proofs.YtlnhpkjioppbiaaW.PrintWords.Aside0 renaming mk→aM
open List renaming setIfInBounds_toArray→sI,set_cons_zero→s0,set_cons_succ→sS,map_toArray→mT,length_take→lT,length_drop→lD,map_cons→mC,map_nil→mN
open Option renaming bind_eq_some_iff→oB,bind_some→oS
attribute [local go_sem] max2_int min2_int max_two min_two max_three min_three max_four min_four
set_option maxHeartbeats 8000000
set_option maxRecDepth 100000
set_option linter.unusedVariables false
set_option linter.unusedSimpArgs false
def laws_sameInts.l0:Nat→List Int→List Int→Int→Int→Option (Bool)
 | 0,_,_,_,_=>none
 | k+1,x0,x1,x12,x13=>if x13<x12 then (if 0≤x13 then (if x13<(x0.length:Int) then (if x13<(x1.length:Int) then (if (rd x0 x13)=(rd x1 x13) then (laws_sameInts.l0 k x0 x1 x12 (wrap64 (x13+1))) else (some false)) else (none)) else (none)) else (none)) else (some true)
def laws_sameInts.f (k:Nat) (l0:List Int) (l1:List Int):Option (Bool):=if (l0.length:Int)=(l1.length:Int) then (laws_sameInts.l0 k l0 l1 (l0.length:Int) 0) else (some false)
theorem laws_sameInts.calls (k:Nat) (A0:Option Addr) (c0:Nat) (l0:List Int) (A1:Option Addr) (c1:Nat) (l1:List Int) (r:Bool) (w:World) (hr0:Kd.C (Kd.int .i64) w A0 l0.length l0) (hc0:l0.length≤c0) (hr1:Kd.C (Kd.int .i64) w A1 l1.length l1) (hc1:l1.length≤c1) (h:laws_sameInts.f k l0 l1=some r) :
  Calls Try.prog 26 #[.slice A0 l0.length c0,.slice A1 l1.length c1] w fun e w'=>e = .returned (.bool r)∧Drawn0 w w':=by
 have HR0:=aM hr0
 have HC0:=aM hc0
 clear hr0 hc0
 have HR1:=aM hr1
 have HC1:=aM hc1
 clear hr1 hc1
 have H:(if (l0.length:Int)=(l1.length:Int) then (laws_sameInts.l0 k l0 l1 (l0.length:Int) 0) else (some false))=some r:=h
 clear h
 by_cases c3:(l0.length:Int)=(l1.length:Int)
 ·rw [if_pos c3] at H
  have c3b0:=beq_iff_eq.mpr c3;have c3b1:=bne_eq_false_iff_eq.mpr c3;have c3b2:(l0.length == l1.length)=true:=by first | simpa using c3 | (simp at c3 ⊢;omega)
  clear c3;have H':=aM H;clear H
  go_enter Try.func26,Try.ntmps26
  go_wp2
  repeat (go_quiet (fail);try go_wp2)
  go_loopg [13] k (fun kq v13 w' => ∃ (x13_1:Int),v13 = .int .i64 x13_1∧Aside0 (laws_sameInts.l0 kq l0 l1 (l0.length:Int) x13_1=some r)∧Aside0 (kq≤k)∧Drawn0 w w')
  case atStart=>exact ⟨(0),zd_,H',⟨Nat.le_refl _⟩,zi_⟩
  case round =>
   clear H';(try clear c3b0);(try clear c3b1);(try clear c3b2);obtain ⟨x13_1,rfl,HA,HK1,⟨m1,rfl⟩⟩:=hrel
   cases gk with
   | zero=>exact absurd HA.out (by simp [laws_sameInts.l0])
   | succ k1 =>
    have H:=HA.out;clear HA
    simp only [laws_sameInts.l0] at H
    by_cases c4:x13_1<(l0.length:Int)
    ·rw [if_pos c4] at H
     have c4b0:=decide_eq_true c4;clear c4
     by_cases c5:0≤x13_1
     ·rw [if_pos c5] at H
      have c5b0:=decide_eq_true c5;clear c5
      by_cases c6:x13_1<(l0.length:Int)
      ·rw [if_pos c6] at H
       have c6b0:=decide_eq_true c6;clear c6
       by_cases c7:x13_1<(l1.length:Int)
       ·rw [if_pos c7] at H
        have c7b0:=decide_eq_true c7;clear c7
        by_cases c8:(rd l0 x13_1)=(rd l1 x13_1)
        ·rw [if_pos c8] at H
         have c8b0:=beq_iff_eq.mpr c8;have c8b1:=bne_eq_false_iff_eq.mpr c8;clear c8;have H':=aM H;clear H;have p352:0≤(x13_1:Int):=of_decide_eq_true zc_;have q352:x13_1<(l0.length:Int):=of_decide_eq_true zc_;obtain ⟨ad352,e352,hx352_0⟩:=Kd.at_int HR0.out x13_1 p352 q352
         cases e352
         replace p352:=eq_true p352;replace q352:=eq_true q352;have p353:0≤(x13_1:Int):=of_decide_eq_true zc_;have q353:x13_1<(l1.length:Int):=of_decide_eq_true zc_;obtain ⟨ad353,e353,hx353_0⟩:=Kd.at_int HR1.out x13_1 p353 q353
         cases e353
         replace p353:=eq_true p353;replace q353:=eq_true q353
         go_wp2
         repeat (go_quiet (fail);try go_wp2)
         go_roundg k1
         case measure=>have:=HK1.out;omega
         case rel=>exact ⟨(wrap64 (x13_1+1)),zd_,H',⟨zci_⟩,zi_⟩
        ·rw [if_neg c8] at H
         have c8b0:=beq_eq_false_iff_ne.mpr c8;have c8b1:=bne_iff_ne.mpr c8;obtain rfl:=Option.some.inj H;have p352:0≤(x13_1:Int):=of_decide_eq_true zc_;have q352:x13_1<(l0.length:Int):=of_decide_eq_true zc_;obtain ⟨ad352,e352,hx352_0⟩:=Kd.at_int HR0.out x13_1 p352 q352
         cases e352
         replace p352:=eq_true p352;replace q352:=eq_true q352;have p353:0≤(x13_1:Int):=of_decide_eq_true zc_;have q353:x13_1<(l1.length:Int):=of_decide_eq_true zc_;obtain ⟨ad353,e353,hx353_0⟩:=Kd.at_int HR1.out x13_1 p353 q353
         cases e353
         replace p353:=eq_true p353;replace q353:=eq_true q353
         go_wp2
         repeat (go_quiet (fail);try go_wp2)
         go_ret
         exact ⟨zd_,zi_⟩
       ·rw [if_neg c7] at H
        exact q3n_ H
      ·rw [if_neg c6] at H
       exact q3n_ H
     ·rw [if_neg c5] at H
      exact q3n_ H
    ·rw [if_neg c4] at H
     have c4b0:=decide_eq_false c4;clear c4;obtain rfl:=Option.some.inj H
     go_wp2
     repeat (go_quiet (fail);try go_wp2)
     go_ret
     exact ⟨zd_,zi_⟩
 ·rw [if_neg c3] at H
  have c3b0:=beq_eq_false_iff_ne.mpr c3;have c3b1:=bne_iff_ne.mpr c3;have c3b2:(l0.length == l1.length)=false:=by first | simpa using c3 | (simp at c3 ⊢;omega)
  obtain rfl:=Option.some.inj H
  go_enter Try.func26,Try.ntmps26
  go_wp2
  repeat (go_quiet (fail);try go_wp2)
  go_ret
  exact ⟨zd_,zi_⟩
def impl_isOrder.l0:Nat→Int→List Bool→List Int→Int→Int→Option (Bool)
 | 0,_,_,_,_,_=>none
 | k+1,x1,x5,x14,x15,x16=>if x16<x15 then (if 0≤x16 then (if x16<(x14.length:Int) then (if (rd x14 x16)<0 then (some false) else (if (rd x14 x16)≥x1 then (some false) else (if 0≤(rd x14 x16) then (if (rd x14 x16)<(x5.length:Int) then (if rdOf false x5 (rd x14 x16)=true then (some false) else (impl_isOrder.l0 k x1 (x5.set ((rd x14 x16):Int).toNat true) x14 x15 (wrap64 (x16+1)))) else (none)) else (none)))) else (none)) else (none)) else (some true)
def impl_isOrder.f (k:Nat) (l0:List Int) (a1:Int):Option (Bool):=if (l0.length:Int)=a1 then (if 0≤a1 then (if (a1:Int).toNat≤281474976710656 then (impl_isOrder.l0 k a1 (List.replicate (a1:Int).toNat false) l0 (l0.length:Int) 0) else (none)) else (none)) else (some false)
theorem impl_isOrder.calls (k:Nat) (A0:Option Addr) (c0:Nat) (l0:List Int) (a1:Int) (r:Bool) (w:World) (hr0:Kd.C (Kd.int .i64) w A0 l0.length l0) (hc0:l0.length≤c0) (h:impl_isOrder.f k l0 a1=some r) :
  Calls Try.prog 79 #[.slice A0 l0.length c0,.int .i64 a1] w fun e w'=>e = .returned (.bool r)∧Below w.heap.size w w':=by
 have HR0:=aM hr0
 have HC0:=aM hc0
 clear hr0 hc0
 have HB:=aM (Below.refl w.heap.size w)
 have H:(if (l0.length:Int)=a1 then (if 0≤a1 then (if (a1:Int).toNat≤281474976710656 then (impl_isOrder.l0 k a1 (List.replicate (a1:Int).toNat false) l0 (l0.length:Int) 0) else (none)) else (none)) else (some false))=some r:=h
 clear h
 by_cases c3:(l0.length:Int)=a1
 ·rw [if_pos c3] at H
  have c3b0:=beq_iff_eq.mpr c3;have c3b1:=bne_eq_false_iff_eq.mpr c3;clear c3
  by_cases c4:0≤a1
  ·rw [if_pos c4] at H
   have c4b0:=eq_true c4;have c4b1:=decide_eq_true c4;clear c4
   by_cases c5:(a1:Int).toNat≤281474976710656
   ·rw [if_pos c5] at H
    have c5b0:=eq_true c5;have c5b1:=decide_eq_true c5;clear c5;obtain ⟨y354,hy354⟩:∃ y_:List Bool,y_=(List.replicate (a1:Int).toNat false):=⟨_,rfl⟩;replace H:(impl_isOrder.l0 k a1 y354 l0 (l0.length:Int) 0)=some r:=q3y_ hy354 H
    have Ny354:=aM hy354;clear hy354;have H':=aM H;clear H
    go_enter Try.func79,Try.ntmps79
    go_wp2_with (first | ((with_reducible refine gate_dst (N:=13) rfl ?_);refine Kd.R_make Kd.bool _ 4 rfl (N:=13) rfl 131 _ _ rfl a1 rfl rfl Try.underlying131 (.bool false) 1 info4 rfl (by decide) (by omega) false (ok:=fun _=>True) (okp:=fun _=>True) rfl (fun _ hk=>hk) trivial (of_decide_eq_true zc_) (Nat.le_trans (Nat.mul_le_mul_right _ (of_decide_eq_true zc_:a1.toNat≤281474976710656)) (by omega)) (Below.refl _ _) (Nat.le_refl _) ?_;intro v355 w6 ho7 hb hg_ hnew_;clear hg_ hnew_;(first | rw [← Ny354.out] at ho7 | (simp only [Int.reduceToNat] at ho7;rw [← Ny354.out] at ho7));have n_:=z (Kd.R_lower ho7 (below_size zb_))<|z1 (below_step zb_ hb);clear HB;obtain ⟨HO356,HB⟩:=n_;clear hb ho7))
    go_loopg [16] k (fun kq v16 w' => ∃ (x5_1:List Bool) (x16_1:Int),v16 = .int .i64 x16_1∧Aside0 (impl_isOrder.l0 kq a1 x5_1 l0 (l0.length:Int) x16_1=some r)∧Aside0 (kq≤k)∧Aside0 (Kd.R Kd.bool 4 w' w.heap.size (fun _=>True) v355 x5_1)∧Aside0 (Below w.heap.size w w'))
    case atStart=>exact ⟨(y354),(0),zd_,H',⟨Nat.le_refl _⟩,⟨zr HO356.out⟩,⟨zb_⟩⟩
    case round =>
     clear H';(try clear c3b0);(try clear c3b1);(try clear c4b0);(try clear c4b1);(try clear c5b0);(try clear c5b1);obtain ⟨x5_1,x16_1,rfl,HA,HK1,HO_5,HB⟩:=hrel
     cases gk with
     | zero=>exact absurd HA.out (by simp [impl_isOrder.l0])
     | succ k1 =>
      have H:=HA.out;clear HA
      simp only [impl_isOrder.l0] at H
      by_cases c8:x16_1<(l0.length:Int)
      ·rw [if_pos c8] at H
       have c8b0:=decide_eq_true c8;clear c8
       by_cases c9:0≤x16_1
       ·rw [if_pos c9] at H
        have c9b0:=decide_eq_true c9;clear c9
        by_cases c10:x16_1<(l0.length:Int)
        ·rw [if_pos c10] at H
         have c10b0:=decide_eq_true c10;clear c10
         by_cases c11:(rd l0 x16_1)<0
         ·rw [if_pos c11] at H
          have c11b0:=decide_eq_true c11;clear c11;obtain rfl:=Option.some.inj H;have p357:0≤(x16_1:Int):=of_decide_eq_true zc_;have q357:x16_1<(l0.length:Int):=of_decide_eq_true zc_;obtain ⟨ad357,e357,hx357_0⟩:=Kd.at_int HR0.out x16_1 p357 q357
          cases e357
          (try (replace hx357_0:=q3h_ HB.out hx357_0));replace p357:=eq_true p357;replace q357:=eq_true q357
          go_wp2
          go_ret
          exact ⟨zg_,zb_⟩
         ·rw [if_neg c11] at H
          have c11b0:=decide_eq_false c11;clear c11
          by_cases c12:(rd l0 x16_1)≥a1
          ·rw [if_pos c12] at H
           have c12b0:decide (a1≤(rd l0 x16_1))=true:=decide_eq_true c12;clear c12;obtain rfl:=Option.some.inj H;have p357:0≤(x16_1:Int):=of_decide_eq_true zc_;have q357:x16_1<(l0.length:Int):=of_decide_eq_true zc_;obtain ⟨ad357,e357,hx357_0⟩:=Kd.at_int HR0.out x16_1 p357 q357
           cases e357
           (try (replace hx357_0:=q3h_ HB.out hx357_0));replace p357:=eq_true p357;replace q357:=eq_true q357
           go_wp2
           go_ret
           exact ⟨zg_,zb_⟩
          ·rw [if_neg c12] at H
           have c12b0:decide (a1≤(rd l0 x16_1))=false:=decide_eq_false c12;clear c12
           by_cases c13:0≤(rd l0 x16_1)
           ·rw [if_pos c13] at H
            have c13b0:=decide_eq_true c13;clear c13
            by_cases c14:(rd l0 x16_1)<(x5_1.length:Int)
            ·rw [if_pos c14] at H
             have c14b0:=decide_eq_true c14;clear c14;obtain ⟨bq15,hbq15⟩:∃ b_:Bool,b_=(rdOf false x5_1 (rd l0 x16_1)):=⟨_,rfl⟩;replace H:(if bq15=true then (some false) else (impl_isOrder.l0 k1 a1 (x5_1.set ((rd l0 x16_1):Int).toNat true) l0 (l0.length:Int) (wrap64 (x16_1+1))))=some r:=by rw [← hbq15] at H;exact H
             have Nbq15:=aM hbq15;clear hbq15
             by_cases c16:bq15=true
             ·subst c16
              have H1:(some false)=some r:=by rw [if_pos rfl] at H;exact H
              clear H;have H:=H1;clear H1;obtain rfl:=Option.some.inj H;have p357:0≤(x16_1:Int):=of_decide_eq_true zc_;have q357:x16_1<(l0.length:Int):=of_decide_eq_true zc_;obtain ⟨ad357,e357,hx357_0⟩:=Kd.at_int HR0.out x16_1 p357 q357
              cases e357
              (try (replace hx357_0:=q3h_ HB.out hx357_0));replace p357:=eq_true p357;replace q357:=eq_true q357;obtain ⟨Ao17,co17,eo17⟩:=Kd.R_slice HO_5.out;subst eo17;have p358:0≤((rd l0 x16_1):Int):=of_decide_eq_true zc_;have q358:(rd l0 x16_1)<(x5_1.length:Int):=of_decide_eq_true zc_;obtain ⟨ad358,e358,hx358_0⟩:=Kd.at_bool (Kd.R_reads' HO_5.out).2.2 (rd l0 x16_1) p358 q358;(try rw [← Nbq15.out] at hx358_0)
              cases e358
              replace p358:=eq_true p358;replace q358:=eq_true q358
              go_wp2
              go_ret
              exact ⟨zg_,zb_⟩
             ·replace c16:=Bool.eq_false_iff.mpr c16
              subst c16;have H1:(impl_isOrder.l0 k1 a1 (x5_1.set ((rd l0 x16_1):Int).toNat true) l0 (l0.length:Int) (wrap64 (x16_1+1)))=some r:=by rw [if_neg (show ¬ (false=true) by decide)] at H;exact H
              clear H;have H:=H1;clear H1;obtain ⟨y359,hy359⟩:∃ y_:List Bool,y_=(x5_1.set ((rd l0 x16_1):Int).toNat true):=⟨_,rfl⟩;replace H:(impl_isOrder.l0 k1 a1 y359 l0 (l0.length:Int) (wrap64 (x16_1+1)))=some r:=q3y_ hy359 H
              have Ny359:=aM hy359;clear hy359;have H':=aM H;clear H;have p357:0≤(x16_1:Int):=of_decide_eq_true zc_;have q357:x16_1<(l0.length:Int):=of_decide_eq_true zc_;obtain ⟨ad357,e357,hx357_0⟩:=Kd.at_int HR0.out x16_1 p357 q357
              cases e357
              (try (replace hx357_0:=q3h_ HB.out hx357_0));replace p357:=eq_true p357;replace q357:=eq_true q357;obtain ⟨Ao19,co19,eo19⟩:=Kd.R_slice HO_5.out;subst eo19;have p358:0≤((rd l0 x16_1):Int):=of_decide_eq_true zc_;have q358:(rd l0 x16_1)<(x5_1.length:Int):=of_decide_eq_true zc_;obtain ⟨ad358,e358,hx358_0⟩:=Kd.at_bool (Kd.R_reads' HO_5.out).2.2 (rd l0 x16_1) p358 q358;(try rw [← Nbq15.out] at hx358_0)
              cases e358
              replace p358:=eq_true p358;replace q358:=eq_true q358;have p18:0≤((rd l0 x16_1):Int):=of_decide_eq_true zc_;have q18:((rd l0 x16_1):Int)<((x5_1.length:Int):Int):=of_decide_eq_true zc_;obtain ⟨go18,co18,eo18,gb18,gl18,cl18,HG18⟩:=Kd.R_form HO_5.out (by omega);(first | cases eo18 | (injection eo18 with ea_ en_ ec_;(first | subst ea_ | (injection ea_ with ea_;subst ea_));subst ec_;clear en_));have GB18:=aM gb18;have GG18:=aM HG18;clear gb18 gl18 HG18;(first | simp only [add_plain] at hx358_0 | skip);obtain ⟨hx18_0,hf18_0⟩:=Kd.R_celln false HO_5.out ((rd l0 x16_1):Int) p18 q18;replace p18:=eq_true p18;replace q18:=eq_true q18;have HP20:=Kd.R_putg HO_5.out ((rd l0 x16_1):Int) true
              go_wp2_with (first | ((with_reducible refine gate_store (t:=4) (p:=35) rfl ?_);refine store_event (t:=4) (p:=35) (v:=?vo_w21) (w1:=(wr.setCell ⟨go18,((rd l0 x16_1):Int).toNat,none⟩ (.bool true))) ?hg ?ho ?hn ?hr ?_;(case ho=>rfl);(case hg=>rfl);(case hn=>rfl);(case hr=>exact za_);intro w21 hw;have hg:wr.grownBy w21 (some go18):=(by rw [hw];exact HP20.2);have hp_:Kd.R Kd.bool 4 w21 w.heap.size (fun _=>True) (.slice (some ⟨go18,0,none⟩) x5_1.length co19) y359:=(by rw [hw,Ny359.out];exact HP20.1);clear HP20;have n_:=z (hp_)<|z1 ((by rw [hw];exact below_set (HB.out) GB18.out:Below w.heap.size w w21));clear HO_5 HB;obtain ⟨HO_5,HB⟩:=n_;clear hg hw hp_))
              go_roundg k1
              case measure=>have:=HK1.out;omega
              case rel=>exact ⟨(y359),(wrap64 (x16_1+1)),zd_,H',⟨zci_⟩,⟨zr HO_5.out⟩,⟨zb_⟩⟩
            ·rw [if_neg c14] at H
             exact q3n_ H
           ·rw [if_neg c13] at H
            exact q3n_ H
        ·rw [if_neg c10] at H
         exact q3n_ H
       ·rw [if_neg c9] at H
        exact q3n_ H
      ·rw [if_neg c8] at H
       have c8b0:=decide_eq_false c8;clear c8;obtain rfl:=Option.some.inj H
       go_wp2
       go_ret
       exact ⟨zg_,zb_⟩
   ·rw [if_neg c5] at H
    exact q3n_ H
  ·rw [if_neg c4] at H
   exact q3n_ H
 ·rw [if_neg c3] at H
  have c3b0:=beq_eq_false_iff_ne.mpr c3;have c3b1:=bne_iff_ne.mpr c3;obtain rfl:=Option.some.inj H
  go_enter Try.func79,Try.ntmps79
  go_wp2
  go_ret
  exact ⟨zg_,zb_⟩
def impl_ReorderTable.f (k:Nat) (a0_0:Int) (l0_1:List Int) (l1:List Int):Option (Int×List Int×Bool):=(impl_IsTable.f k a0_0 l0_1).bind fun t362=>(if t362=true then ((impl_isOrder.f k l1 a0_0).bind fun t363=>(if t363=true then ((impl_reordered.f k a0_0 l0_1 l1).bind fun bt364=>(some (bt364.1,bt364.2,true))) else (some (0,([]:List Int),false)))) else (some (0,([]:List Int),false)))
theorem impl_ReorderTable.calls (k:Nat) (a0_0:Int) (A0_1:Option Addr) (c0_1:Nat) (l0_1:List Int) (A1:Option Addr) (c1:Nat) (l1:List Int) (r1:Int) (r2:List Int) (r3:Bool) (w:World) (hr0_1:Kd.C (Kd.int .i64) w A0_1 l0_1.length l0_1) (hc0_1:l0_1.length≤c0_1) (hr1:Kd.C (Kd.int .i64) w A1 l1.length l1) (hc1:l1.length≤c1) (h:impl_ReorderTable.f k a0_0 l0_1 l1=some (r1,r2,r3)) :
  Calls Try.prog 27 #[.agg #[.int .i64 a0_0,.slice A0_1 l0_1.length c0_1],.slice A1 l1.length c1] w fun e w' => ∃ v1_:Value,e = .returned (.tuple #[.agg #[.int .i64 r1,v1_],.bool r3])∧Kd.R (Kd.int .i64) 3 w' w.heap.size (fun _=>True) v1_ r2∧Below w.heap.size w w':=by
 have hu41:=Try.underlying41
 have HR0_1:=aM hr0_1
 have HC0_1:=aM hc0_1
 clear hr0_1 hc0_1
 have HR1:=aM hr1
 have HC1:=aM hc1
 clear hr1 hc1
 have HB:=aM (Below.refl w.heap.size w)
 have H:((impl_IsTable.f k a0_0 l0_1).bind fun t362=>(if t362=true then ((impl_isOrder.f k l1 a0_0).bind fun t363=>(if t363=true then ((impl_reordered.f k a0_0 l0_1 l1).bind fun bt364=>(some (bt364.1,bt364.2,true))) else (some (0,([]:List Int),false)))) else (some (0,([]:List Int),false))))=some (r1,r2,r3):=h
 clear h
 replace H:=oB.mp H
 obtain ⟨t362,A30,H⟩:=H
 replace H:(if t362=true then ((impl_isOrder.f k l1 a0_0).bind fun t363=>(if t363=true then ((impl_reordered.f k a0_0 l0_1 l1).bind fun bt364=>(some (bt364.1,bt364.2,true))) else (some (0,([]:List Int),false)))) else (some (0,([]:List Int),false)))=some (r1,r2,r3):=H
 have A3:=aM A30
 clear A30
 by_cases c4:t362=true
 ·subst c4
  have H1:((impl_isOrder.f k l1 a0_0).bind fun t363=>(if t363=true then ((impl_reordered.f k a0_0 l0_1 l1).bind fun bt364=>(some (bt364.1,bt364.2,true))) else (some (0,([]:List Int),false))))=some (r1,r2,r3):=by rw [if_pos rfl] at H;exact H
  clear H;have H:=H1;clear H1;replace H:=oB.mp H;obtain ⟨t363,A50,H⟩:=H;replace H:(if t363=true then ((impl_reordered.f k a0_0 l0_1 l1).bind fun bt364=>(some (bt364.1,bt364.2,true))) else (some (0,([]:List Int),false)))=some (r1,r2,r3):=H;have A5:=aM A50;clear A50
  by_cases c6:t363=true
  ·subst c6
   have H1:((impl_reordered.f k a0_0 l0_1 l1).bind fun bt364=>(some (bt364.1,bt364.2,true)))=some (r1,r2,r3):=by rw [if_pos rfl] at H;exact H
   clear H;have H:=H1;clear H1;replace H:=oB.mp H;obtain ⟨⟨t364,t365⟩,A70,H⟩:=H;replace H:(some (t364,t365,true))=some (r1,r2,r3):=H;have A7:=aM A70;clear A70
   simp only [Option.some.injEq,Prod.mk.injEq] at H
   obtain ⟨rfl,rfl,rfl⟩:=H
   go_enter Try.func27,Try.ntmps27
   go_wp2_with (first | ((with_reducible refine gate_dst (N:=2) rfl ?_);refine box_event ?hg (N:=2) ?hd (cs:=#[.int .i64 a0_0,.slice A0_1 l0_1.length c0_1]) (t:=41) ?hr ?_;(case hd=>rfl);(case hg=>rfl);(case hr=>exact za_);intro gb360 hg w8 hbox hb;have n_:=z (below_step zb_ hb)<|z (hbox)<|z ((by rw [hg];exact (below_size zb_):w.heap.size≤gb360))<|z1 ((by rw [hg];exact (below_size zb_):w.heap.size≤gb360));clear HB;obtain ⟨HB,BK360,GW360,GE360⟩:=n_;clear hb hbox hg)|((with_reducible refine gate_dst (N:=4) rfl ?_);refine box_event ?hg (N:=4) ?hd (cs:=#[.int .i64 0,.slice none 0 0]) (t:=41) ?hr ?_;(case hd=>rfl);(case hg=>rfl);(case hr=>exact za_);intro gb361 hg w9 hbox hb;have n_:=z (blk_below (zb BK360.out) hb)<|z (below_step zef_ hb)<|z (hbox)<|z ((by rw [hg];exact (below_size zef_):w.heap.size≤gb361))<|z ((by rw [hg];exact (below_size zef_):w.heap.size≤gb361))<|z ((by rw [hg];exact Nat.ne_of_lt (blk_lt (zb BK360.out)):gb360≠gb361))<|z1 ((by rw [hg];exact Nat.ne_of_gt (blk_lt (zb BK360.out)):gb361≠gb360));clear BK360 HB;obtain ⟨BK360,HB,BK361,GW361,GE361,NB360_361,NB361_360⟩:=n_;clear hb hbox hg;have hnb10:=NB360_361.out;have hnc10:=NB361_360.out;obtain ⟨hcz11_0,hcz11_1,hfz11_0,hfz11_1⟩:=zk2 BK360.out)|((with_reducible refine gate_callee (f:=67) rfl ?_);refine goesL_ (some 7) rfl rfl Try.func67 (by kernel_rfl) rfl #[.agg #[.int .i64 a0_0,.slice A0_1 l0_1.length c0_1]] rfl zf_ ?_;(with_reducible refine (impl_IsTable.calls k a0_0 _ _ l0_1 true _ ?side1 ?side2 A3.out).mono ?_);(case side1=>exact zj_);(case side2=>exact HC0_1.out);rintro e w12 ⟨rfl,hb⟩;refine ⟨_,rfl,?_⟩;have n_:=z (blk_below (zb BK360.out) hb)<|z (blk_below (zb BK361.out) hb)<|z1 (below_step zdh_ hb);clear BK360 BK361 HB;obtain ⟨BK360,BK361,HB⟩:=n_;clear hb;obtain ⟨hcz13_0,hcz13_1,hfz13_0,hfz13_1⟩:=zk2 BK360.out)|(go_at_call 79;(with_reducible refine (impl_isOrder.calls k _ _ l1 a0_0 true _ ?side1 ?side2 A5.out).mono ?_);(case side1=>exact zbba_);(case side2=>exact HC1.out);rintro e w14 ⟨rfl,hb⟩;have n_:=z (blk_below (zb BK360.out) hb)<|z (blk_below (zb BK361.out) hb)<|z1 (below_step zdh_ hb);clear BK360 BK361 HB;obtain ⟨BK360,BK361,HB⟩:=n_;clear hb;obtain ⟨hcz15_0,hcz15_1,hfz15_0,hfz15_1⟩:=zk2 BK360.out)|((with_reducible refine gate_callee (f:=75) rfl ?_);refine goesL_ (some 19) rfl rfl Try.func75 (by kernel_rfl) rfl #[.agg #[.int .i64 a0_0,.slice A0_1 l0_1.length c0_1],.slice A1 l1.length c1] rfl zf_ ?_;(with_reducible refine (impl_reordered.calls k a0_0 _ _ l0_1 _ _ l1 t364 t365 _ ?side1 ?side2 ?side3 ?side4 A7.out).mono ?_);(case side1=>exact zj_);(case side2=>exact HC0_1.out);(case side3=>exact zbba_);(case side4=>exact HC1.out);rintro e w16 ⟨v366,rfl,ho0,hb⟩;refine ⟨_,rfl,?_⟩;have n_:=z (Kd.R_lower ho0 (below_size zdh_))<|z (blk_below (zb BK360.out) hb)<|z (blk_below (zb BK361.out) hb)<|z1 (below_step zdh_ hb);clear BK360 BK361 HB;obtain ⟨HO367,BK360,BK361,HB⟩:=n_;clear hb;(try clear ho0);obtain ⟨hcz17_0,hcz17_1,hfz17_0,hfz17_1⟩:=zk2 BK361.out;obtain ⟨Ao18,co18,eo18⟩:=Kd.R_slice HO367.out;subst eo18))
   refine bodyPost_ret (results_ct rfl _ _ gb361 41 #[.int .i64 t364,.slice Ao18 t365.length co18] (0,0) _ rfl (by refine zb ?_;refine blk_put (cs:=#[.int .i64 t364,.slice none 0 0]) ?_ 1 _ rfl;refine zb ?_;refine blk_put (cs:=#[.int .i64 0,.slice none 0 0]) ?_ 0 _ rfl;refine zb ?_;exact BK361.out) Try.underlying41 rfl (by kernel_rfl)) rfl ?_
   exact ⟨_,zg_,by refine zr ?_;exact Kd.R_mono (Kd.R_far (p:=⟨gb361,1,none⟩) (Kd.R_far (p:=⟨gb361,0,none⟩) (Kd.R_types HO367.out BK361.out (by decide)) (fun _ hk=>hk.2) (.int .i64 t364)) (fun _ hk=>hk.2) (.slice Ao18 t365.length co18)) (fun _ hk=>trivial),zdh_⟩
  ·replace c6:=Bool.eq_false_iff.mpr c6
   subst c6;have H1:(some (0,([]:List Int),false))=some (r1,r2,r3):=by rw [if_neg (show ¬ (false=true) by decide)] at H;exact H
   clear H;have H:=H1;clear H1
   simp only [Option.some.injEq,Prod.mk.injEq] at H
   obtain ⟨rfl,rfl,rfl⟩:=H
   go_enter Try.func27,Try.ntmps27
   go_wp2_with (first | ((with_reducible refine gate_dst (N:=2) rfl ?_);refine box_event ?hg (N:=2) ?hd (cs:=#[.int .i64 a0_0,.slice A0_1 l0_1.length c0_1]) (t:=41) ?hr ?_;(case hd=>rfl);(case hg=>rfl);(case hr=>exact za_);intro gb360 hg w19 hbox hb;have n_:=z (below_step zb_ hb)<|z (hbox)<|z ((by rw [hg];exact (below_size zb_):w.heap.size≤gb360))<|z1 ((by rw [hg];exact (below_size zb_):w.heap.size≤gb360));clear HB;obtain ⟨HB,BK360,GW360,GE360⟩:=n_;clear hb hbox hg)|((with_reducible refine gate_dst (N:=4) rfl ?_);refine box_event ?hg (N:=4) ?hd (cs:=#[.int .i64 0,.slice none 0 0]) (t:=41) ?hr ?_;(case hd=>rfl);(case hg=>rfl);(case hr=>exact za_);intro gb361 hg w20 hbox hb;have n_:=z (blk_below (zb BK360.out) hb)<|z (below_step zef_ hb)<|z (hbox)<|z ((by rw [hg];exact (below_size zef_):w.heap.size≤gb361))<|z ((by rw [hg];exact (below_size zef_):w.heap.size≤gb361))<|z ((by rw [hg];exact Nat.ne_of_lt (blk_lt (zb BK360.out)):gb360≠gb361))<|z1 ((by rw [hg];exact Nat.ne_of_gt (blk_lt (zb BK360.out)):gb361≠gb360));clear BK360 HB;obtain ⟨BK360,HB,BK361,GW361,GE361,NB360_361,NB361_360⟩:=n_;clear hb hbox hg;have hnb21:=NB360_361.out;have hnc21:=NB361_360.out;obtain ⟨hcz22_0,hcz22_1,hfz22_0,hfz22_1⟩:=zk2 BK360.out)|((with_reducible refine gate_callee (f:=67) rfl ?_);refine goesL_ (some 7) rfl rfl Try.func67 (by kernel_rfl) rfl #[.agg #[.int .i64 a0_0,.slice A0_1 l0_1.length c0_1]] rfl zf_ ?_;(with_reducible refine (impl_IsTable.calls k a0_0 _ _ l0_1 true _ ?side1 ?side2 A3.out).mono ?_);(case side1=>exact zj_);(case side2=>exact HC0_1.out);rintro e w23 ⟨rfl,hb⟩;refine ⟨_,rfl,?_⟩;have n_:=z (blk_below (zb BK360.out) hb)<|z (blk_below (zb BK361.out) hb)<|z1 (below_step zdh_ hb);clear BK360 BK361 HB;obtain ⟨BK360,BK361,HB⟩:=n_;clear hb;obtain ⟨hcz24_0,hcz24_1,hfz24_0,hfz24_1⟩:=zk2 BK360.out)|(go_at_call 79;(with_reducible refine (impl_isOrder.calls k _ _ l1 a0_0 false _ ?side1 ?side2 A5.out).mono ?_);(case side1=>exact zbba_);(case side2=>exact HC1.out);rintro e w25 ⟨rfl,hb⟩;have n_:=z (blk_below (zb BK360.out) hb)<|z (blk_below (zb BK361.out) hb)<|z1 (below_step zdh_ hb);clear BK360 BK361 HB;obtain ⟨BK360,BK361,HB⟩:=n_;clear hb;obtain ⟨hcz26_0,hcz26_1,hfz26_0,hfz26_1⟩:=zk2 BK361.out))
   refine bodyPost_ret (results_ct rfl _ _ gb361 41 #[.int .i64 0,.slice none 0 0] (0,0) _ rfl (by refine zb ?_;refine blk_put (cs:=#[.int .i64 0,.slice none 0 0]) ?_ 1 _ rfl;refine zb ?_;refine blk_put (cs:=#[.int .i64 0,.slice none 0 0]) ?_ 0 _ rfl;refine zb ?_;exact BK361.out) Try.underlying41 rfl (by kernel_rfl)) rfl ?_
   exact ⟨_,zg_,zdd_,zdh_⟩
 ·replace c4:=Bool.eq_false_iff.mpr c4
  subst c4;have H1:(some (0,([]:List Int),false))=some (r1,r2,r3):=by rw [if_neg (show ¬ (false=true) by decide)] at H;exact H
  clear H;have H:=H1;clear H1
  simp only [Option.some.injEq,Prod.mk.injEq] at H
  obtain ⟨rfl,rfl,rfl⟩:=H
  go_enter Try.func27,Try.ntmps27
  go_wp2_with (first | ((with_reducible refine gate_dst (N:=2) rfl ?_);refine box_event ?hg (N:=2) ?hd (cs:=#[.int .i64 a0_0,.slice A0_1 l0_1.length c0_1]) (t:=41) ?hr ?_;(case hd=>rfl);(case hg=>rfl);(case hr=>exact za_);intro gb360 hg w27 hbox hb;have n_:=z (below_step zb_ hb)<|z (hbox)<|z ((by rw [hg];exact (below_size zb_):w.heap.size≤gb360))<|z1 ((by rw [hg];exact (below_size zb_):w.heap.size≤gb360));clear HB;obtain ⟨HB,BK360,GW360,GE360⟩:=n_;clear hb hbox hg)|((with_reducible refine gate_dst (N:=4) rfl ?_);refine box_event ?hg (N:=4) ?hd (cs:=#[.int .i64 0,.slice none 0 0]) (t:=41) ?hr ?_;(case hd=>rfl);(case hg=>rfl);(case hr=>exact za_);intro gb361 hg w28 hbox hb;have n_:=z (blk_below (zb BK360.out) hb)<|z (below_step zef_ hb)<|z (hbox)<|z ((by rw [hg];exact (below_size zef_):w.heap.size≤gb361))<|z ((by rw [hg];exact (below_size zef_):w.heap.size≤gb361))<|z ((by rw [hg];exact Nat.ne_of_lt (blk_lt (zb BK360.out)):gb360≠gb361))<|z1 ((by rw [hg];exact Nat.ne_of_gt (blk_lt (zb BK360.out)):gb361≠gb360));clear BK360 HB;obtain ⟨BK360,HB,BK361,GW361,GE361,NB360_361,NB361_360⟩:=n_;clear hb hbox hg;have hnb29:=NB360_361.out;have hnc29:=NB361_360.out;obtain ⟨hcz30_0,hcz30_1,hfz30_0,hfz30_1⟩:=zk2 BK360.out)|((with_reducible refine gate_callee (f:=67) rfl ?_);refine goesL_ (some 7) rfl rfl Try.func67 (by kernel_rfl) rfl #[.agg #[.int .i64 a0_0,.slice A0_1 l0_1.length c0_1]] rfl zf_ ?_;(with_reducible refine (impl_IsTable.calls k a0_0 _ _ l0_1 false _ ?side1 ?side2 A3.out).mono ?_);(case side1=>exact zj_);(case side2=>exact HC0_1.out);rintro e w31 ⟨rfl,hb⟩;refine ⟨_,rfl,?_⟩;have n_:=z (blk_below (zb BK360.out) hb)<|z (blk_below (zb BK361.out) hb)<|z1 (below_step zdh_ hb);clear BK360 BK361 HB;obtain ⟨BK360,BK361,HB⟩:=n_;clear hb;obtain ⟨hcz32_0,hcz32_1,hfz32_0,hfz32_1⟩:=zk2 BK361.out))
  refine bodyPost_ret (results_ct rfl _ _ gb361 41 #[.int .i64 0,.slice none 0 0] (0,0) _ rfl (by refine zb ?_;refine blk_put (cs:=#[.int .i64 0,.slice none 0 0]) ?_ 1 _ rfl;refine zb ?_;refine blk_put (cs:=#[.int .i64 0,.slice none 0 0]) ?_ 0 _ rfl;refine zb ?_;exact BK361.out) Try.underlying41 rfl (by kernel_rfl)) rfl ?_
  exact ⟨_,zg_,zdd_,zdh_⟩
theorem calls_len_ {P:Program} {f:FuncId} {A:Option Addr} {a b c:Nat} {v:Value} {w:World} {R:Ending→World→Prop} (h:a=b) (hc:Calls P f #[.slice A a c,v] w R):Calls P f #[.slice A b c,v] w R:=h ▸ hc
attribute [local go_sem] max2_int min2_int max_two min_two max_three min_three max_four min_four
set_option maxHeartbeats 8000000
set_option maxRecDepth 100000
set_option linter.unusedVariables false
set_option linter.unusedSimpArgs false
theorem rt_in {w0 w:World} {g:Nat} {vS:Value} {code:List Int} {at_ mix:Int} {L:List Sep.Item} (h:Sep.Own w0 w L) (i:Nat) (hi:L[i]?=some (Sep.Item.box g 86 #[vS,.int .i64 at_,.int .u64 mix])) (hS:∃ A c,vS = .slice A code.length c∧Kd.C (Kd.int .u8) w0 A code.length code):IsS86 w0 w g code at_ mix:=by
 obtain ⟨A,c,rfl,hC⟩:=hS
 obtain ⟨P,h1⟩:=h.get i hi
 exact ⟨A,c,h1.2.2,h1.2.1,hC⟩
theorem rt_out {w0 w w1:World} {g:Nat} {cs:Array Value} {code:List Int} {at_ mix:Int} {L:List Sep.Item} (h:Sep.Own w0 w L) (i:Nat) (hi:L[i]?=some (Sep.Item.box g 86 cs)) (hI:IsS86 w0 w1 g code at_ mix) (hB:Below w0.heap.size w0 w1) (hK:KeepBut w w1 g none) :
  ∃ vS:Value,(∃ A c,vS = .slice A code.length c∧Kd.C (Kd.int .u8) w0 A code.length code)∧Sep.Own w0 w1 (L.set i (Sep.Item.box g 86 #[vS,.int .i64 at_,.int .u64 mix])):=by
 obtain ⟨A,c,hb,hg,hC⟩:=hI
 exact ⟨_,⟨A,c,rfl,hC⟩,h.put i hi ⟨hB.os.trans h.base.os.symm,hB.tape.trans h.base.tape.symm,hB.output.trans h.base.output.symm,hK.1,fun k hk hn=>hK.2 k hk hn (by simp)⟩ hb⟩
def rtLen:Value→Nat
 | .slice _ m _=>m
 | _=>0
theorem rt_out2 {α β:Type} {d1:Kd α} {d2:Kd β} {e1 e2:Nat} {v1 v2:Value} {xs1:List α} {xs2:List β} {w0 w w1:World} {g:Nat} {cs:Array Value} {code:List Int} {at_ mix:Int} {L:List Sep.Item} (h:Sep.Own w0 w L) (i:Nat) (hi:L[i]?=some (Sep.Item.box g 86 cs)) (hI:IsS86 w0 w1 g code at_ mix) (hB:Below w0.heap.size w0 w1) (hK:KeepBut w w1 g none)
  (h1:d1.R e1 w1 w.heap.size (fun _=>True) v1 xs1) (h2:d2.R e2 w1 w.heap.size (fun _=>True) v2 xs2) (hne:∀ q,q∈e1 :: d1.E→q∈e2 :: d2.E→False) :
  ∃ vS:Value,(∃ A c,vS = .slice A code.length c∧Kd.C (Kd.int .u8) w0 A code.length code)∧Sep.Own w0 w1 (Sep.Item.row d1 e1 v1 xs1 :: Sep.Item.row d2 e2 v2 xs2 :: L.set i (Sep.Item.box g 86 #[vS,.int .i64 at_,.int .u64 mix])):=by
 obtain ⟨A,c,hb,hg,hC⟩:=hI
 refine ⟨.slice A code.length c,⟨A,c,rfl,hC⟩,hB,?_⟩
 obtain ⟨hB0,f,hf⟩:=h
 classical
 refine ⟨fun k=>if k<w.heap.size then f k+2 else if ∃ q cells,q∈e1 :: d1.E∧w1.heap[k]?=some (.cells cells q (0,0)) then 0 else 1,fun j it hj=>?_⟩
 match j with
 | 0 =>
  obtain rfl:Sep.Item.row d1 e1 v1 xs1=it:=by simpa using hj
  refine Kd.R_mono (Kd.R_lower (Kd.R_mono (Kd.R_bound h1) (fun k hk=>?_)) hB0.size) (fun _ hk=>hk)
  obtain ⟨_,hk0,_,q,hq,cells,hc⟩:=hk
  dsimp only
  rw [if_neg (by omega),if_pos ⟨q,cells,hq,hc⟩]
 | 1 =>
  obtain rfl:Sep.Item.row d2 e2 v2 xs2=it:=by simpa using hj
  refine Kd.R_mono (Kd.R_lower (Kd.R_mono (Kd.R_bound h2) (fun k hk=>?_)) hB0.size) (fun _ hk=>hk)
  obtain ⟨_,hk0,_,q,hq,cells,hc⟩:=hk
  dsimp only
  rw [if_neg (by omega),if_neg]
  rintro ⟨q',cells',hq',hc'⟩
  rw [hc] at hc'
  injection hc' with hc'
  injection hc' with _ hc'
  subst hc'
  exact hne _ hq' hq
 | j+2 =>
  rw [List.getElem?_cons_succ,List.getElem?_cons_succ,List.getElem?_set] at hj;have hgi:=(hf i _ hi).1;have hgs:g<w.heap.size:=blk_lt (hf i _ hi).2.2
  split at hj
  ·rename_i hij
   subst hij
   split at hj
   ·injection hj with hj
    subst hj
    exact ⟨zgg_,hg,hb⟩
   ·cases hj
  ·rename_i hij
   have h0:=it.bound (hf j it hj)
   refine it.mono (fun k hk=>?_) (it.step h0 (fun k hk hs=>hK.2 k hs (fun e=>?_) (by simp)))
   ·dsimp only
    rw [if_pos hk.2.2,hk.1]
   ·subst e
    exact hij (hgi.symm.trans hk.1)
theorem rt_outQ {β:Type} {d:Kd β} {e:Nat} {v:Value} {xs:List β} {w0 w w1:World} {g:Nat} {cs:Array Value} {code:List Int} {at_ mix:Int} {L:List Sep.Item} (h:Sep.Own w0 w L) (i:Nat) (hi:L[i]?=some (Sep.Item.box g 86 cs)) (hI:IsS86 w0 w1 g code at_ mix) (hB:Below w0.heap.size w0 w1) (hK:KeepBut w w1 g none)
  (h1:Kd.Q d e w1 w.heap.size (fun _=>True) v xs) :
  ∃ vS:Value,(∃ A c,vS = .slice A code.length c∧Kd.C (Kd.int .u8) w0 A code.length code)∧Sep.Own w0 w1 (Sep.qItem d e v xs :: L.set i (Sep.Item.box g 86 #[vS,.int .i64 at_,.int .u64 mix])):=by
 obtain ⟨A,c,hb,hg,hC⟩:=hI
 refine ⟨.slice A code.length c,⟨A,c,rfl,hC⟩,hB,?_⟩
 obtain ⟨hB0,f,hf⟩:=h
 refine ⟨fun k=>if k<w.heap.size then f k+1 else 0,fun j it hj=>?_⟩
 match j with
 | 0 =>
  obtain rfl:Sep.qItem d e v xs=it:=by simpa using hj
  refine Kd.Q_mono (Kd.Q_lower (Kd.Q_mono (Kd.Q_bound h1) (fun k hk=>?_)) hB0.size) (fun _ hk=>hk)
  obtain ⟨_,hk0,_⟩:=hk
  dsimp only
  rw [if_neg (by omega)]
 | j+1 =>
  rw [List.getElem?_cons_succ,List.getElem?_set] at hj;have hgi:=(hf i _ hi).1;have hgs:g<w.heap.size:=blk_lt (hf i _ hi).2.2
  split at hj
  ·rename_i hij
   subst hij
   split at hj
   ·injection hj with hj
    subst hj
    exact ⟨zgg_,hg,hb⟩
   ·cases hj
  ·rename_i hij
   have h0:=it.bound (hf j it hj)
   refine it.mono (fun k hk=>?_) (it.step h0 (fun k hk hs=>hK.2 k hs (fun e=>?_) (by simp)))
   ·dsimp only
    rw [if_pos hk.2.2,hk.1]
   ·subst e
    exact hij (hgi.symm.trans hk.1)
theorem own_endQR {α β:Type} {d:Kd α} {d2:Kd β} {e e2:Nat} {v v2:Value} {xs:List α} {ys:List β} {w w1:World} {L:List Sep.Item} (h:Sep.Own w w1 (Sep.qItem d e v xs :: Sep.Item.row d2 e2 v2 ys :: L)) :
  Kd.Q d e w1 w.heap.size (fun k_=>some k_≠(v2:Value).ownBlock) v xs∧Kd.R d2 e2 w1 w.heap.size (fun k_=>some k_≠(v:Value).ownBlock) v2 ys∧Below w.heap.size w w1:=by
 obtain ⟨hB,f,hf⟩:=h
 have s0:=hf 0 _ rfl
 have s1:=hf 1 _ rfl
 refine ⟨Kd.Q_mono s0 (fun k hk e=>?_),Kd.R_mono s1 (fun k hk e=>?_),hB⟩
 ·have:=s1.1 k e.symm
  omega
 ·have:=s0.1 k e.symm
  omega
theorem rt_take {α:Type} {d:Kd α} {w:World} {A:Option Addr} {n c m:Nat} {xs ot:List α} (h:n=xs.length∧n≤c∧d.C w A xs.length xs) (hot:ot=xs.take m) (hm:m≤xs.length):d.C w A ot.length ot:=by
 subst hot
 exact Kd.C_take h.2.2 hm
theorem rt_drop {α:Type} {d:Kd α} {w:World} {A A2:Option Addr} {n c m:Nat} {xs od:List α} (h:n=xs.length∧n≤c∧d.C w A xs.length xs) (hod:od=xs.drop m) (hA:A2=if c=m then A else A.map (·.add (m * d.sz))) (hm:m≤xs.length):d.C w A2 od.length od:=by
 subst hod
 subst hA
 exact Kd.C_drop h.2.2 hm (h.1 ▸ h.2.1)
def rtLoop (code:List Int):Nat→List Int→Int→Int→Option (List Int×Int×Int)
 | 0,o,a,m=>some (o,a,m)
 | d+1,o,a,m=>(spec_l1Cur_pick.f code a m (wrap64 ((o.length:Int)+1))).bind fun k=>if 0≤k.1∧k.1≤(o.length:Int) then rtLoop code d (o.take k.1.toNat ++ [(o.length:Int)]++o.drop k.1.toNat) k.2.1 k.2.2 else none
def rtEnd (code:List Int) (o:List Int) (a m:Int):Option (List Int×Int×Int):=
 if 0<(o.length:Int) then ((spec_l1Cur_one.f code a m 12).bind fun b=>if b.1=true then ((spec_l1Cur_among.f code b.2.1 b.2.2 [-1,0,wrap64 ((o.length:Int) - 1),(o.length:Int)]).bind fun z=>some (o.set 0 z.1,z.2.1,z.2.2)) else some (o,b.2.1,b.2.2)) else some (o,a,m)
def spec_DrawReorderTable.f (k:Nat) (s0_0:List Int):Option (Int×List Int×List Int):=
 (spec_l1Cur_anyTable.f k s0_0 0 0).bind fun t=>if t.1≤1000 then ((rtLoop s0_0 t.1.toNat [] t.2.2.1 t.2.2.2).bind fun o=>(rtEnd s0_0 o.1 o.2.1 o.2.2).bind fun z=>some (t.1,t.2.1,z.1)) else none
open Go.Proofs.Ytlnhpkjioppbiaa.Sep in
set_option maxHeartbeats 32000000 in
set_option maxRecDepth 100000 in
theorem spec_DrawReorderTable.calls (k:Nat) (A0:Option Addr) (c0:Nat) (s0_0:List Int) (r1:Int) (r2:List Int) (r3:List Int) (w0:World) (hr0:Kd.C (Kd.int .u8) w0 A0 s0_0.length s0_0) (hc0:s0_0.length≤c0) (h:spec_DrawReorderTable.f k s0_0=some (r1,r2,r3)) :
  Calls Try.prog 28 #[.slice A0 s0_0.length c0] w0 fun e w' => ∃ v1_ v2_:Value,e = .returned (.tuple #[.agg #[.int .i64 r1,v1_],v2_])∧Kd.Q (Kd.int .i64) 3 w' w0.heap.size (fun k_=>some k_≠(v2_:Value).ownBlock) v1_ r2∧Kd.R (Kd.int .i64) 3 w' w0.heap.size (fun k_=>some k_≠(v1_:Value).ownBlock) v2_ r3∧Below w0.heap.size w0 w':=by
 have HS_0:=aM (show ∃ A c,Value.slice A0 s0_0.length c0 = .slice A s0_0.length c∧Kd.C (Kd.int .u8) w0 A s0_0.length s0_0 from ⟨A0,c0,rfl,hr0⟩)
 clear hr0 hc0
 unfold spec_DrawReorderTable.f at h
 obtain ⟨⟨inp,t9,a9,m9⟩,e9,h_⟩:=oB.mp h
 clear h
 have h:=h_
 clear h_
 have HP9:=aM e9
 clear e9
 dsimp only at h
 split at h
 ·rename_i hn1
  have HN1:=aM hn1;clear hn1;obtain ⟨⟨q118,a118,m118⟩,e118,h_⟩:=oB.mp h;clear h;have h:=h_;clear h_;have HP118:=aM e118;clear e118
  dsimp only at h
  obtain ⟨⟨q119,a119,m119⟩,e119,h_⟩:=oB.mp h;clear h;have h:=h_;clear h_;have HP119:=aM e119;clear e119
  dsimp only at h
  injection h with h
  injection h with e_0 h
  injection h with e_1 h
  have e_2:=h;clear h;subst e_0;subst e_1;subst e_2
  go_enter Try.func28,Try.ntmps28
  go_wp2_with (first | ((with_reducible refine gate_dst (N:=2) rfl ?_);refine box_event ?hg (N:=2) ?hd (cs:=#[.int .i64 0,.slice none 0 0]) (t:=41) ?hr ?_;(case hd=>rfl);(case hg=>rfl);(case hr=>exact za_);intro g2 hg w_1 hbox hb;have HO_1:=aM ((Sep.Own.nil w0).add_box (T:=41) (cs:=#[.int .i64 0,.slice none 0 0]) hg hbox hb);clear hg hbox hb)|((with_reducible refine gate_dst (N:=11) rfl ?_);refine box_event ?hg (N:=11) ?hd (cs:=#[.slice A0 s0_0.length c0,.int .i64 0,.int .u64 0]) (t:=86) ?hr ?_;(case hd=>rfl);(case hg=>rfl);(case hr=>exact za_);intro g hg w_2 hbox hb;have HO_2:=aM (HO_1.out.add_box (T:=86) (cs:=#[.slice A0 s0_0.length c0,.int .i64 0,.int .u64 0]) hg hbox hb);clear hg hbox hb)|((with_reducible refine gate_callee (f:=80) rfl ?_);refine goesL_ (some 13) rfl rfl Try.func80 (by kernel_rfl) rfl #[.pointer (some ⟨g,0,none⟩)] rfl ze_ ?_;(refine (spec_l1Cur_anyTable.calls k g s0_0 0 0 inp t9 a9 m9 w0 _ (rt_in HO_2.out 0 rfl HS_0.out) HO_2.out.base HP9.out).mono ?_);rintro e w_3 ⟨vl,rfl,hL,hI,hB,hK⟩;refine ⟨_,rfl,?_⟩;obtain ⟨vS_9,hS,ho⟩:=rt_outQ HO_2.out 0 rfl hI hB hK hL;have HS_9:=aM hS;obtain ⟨At_,mt_,ct_,hm1,rfl⟩:=q_seal ho 0 rfl;have HML:=aM hm1;have HO_3:=aM ho;clear hI hB hK hS ho hL hm1)|((with_reducible refine gate_dst (N:=5) rfl ?_);refine box_event ?hg (N:=5) ?hd (cs:=#[.int .i64 0,.slice none 0 0]) (t:=41) ?hr ?_;(case hd=>rfl);(case hg=>rfl);(case hr=>exact za_);intro g5 hg w_4 hbox hb;have HO_4:=aM (HO_3.out.add_box (T:=41) (cs:=#[.int .i64 0,.slice none 0 0]) hg hbox hb);clear hg hbox hb)|((with_reducible refine gate_store (t:=41) (p:=5) (v := .tmp 13) rfl ?_);refine Sep.own_store HO_4.out 0 g5 41 _ #[.int .i64 inp,.slice At_ mt_ ct_] rfl rfl rfl 41 (.tmp 5) (.tmp 13) rfl rfl _ rfl rfl rfl (by kernel_rfl) (by simp [Value.oneCell']) ?_;intro w_5 ho;have HO_5:=aM ho;clear ho))
  (try simp only [Act.put,sI,s0,sS])
  go_loopg [6,7] inp.toNat (fun kq v6 v7 wr => ∃ (o:List Int) (at_ mx_:Int) (vS_:Value) (Ao_:Option Addr) (mo_ co_:Nat),v6 = .slice Ao_ mo_ co_∧v7 = .int .i64 (mo_:Int)∧Aside0 (rtLoop s0_0 kq o at_ mx_=some (q118,a118,m118))∧Aside0 (mo_=o.length∧o.length+kq=inp.toNat)∧Aside0 (∃ A c,vS_ = .slice A s0_0.length c∧Kd.C (Kd.int .u8) w0 A s0_0.length s0_0)∧Aside0 (Own w0 wr (qItem (Kd.int .i64) 3 (.slice At_ mt_ ct_) t9 :: Item.row (Kd.int .i64) 3 (.slice Ao_ mo_ co_) (o) :: Item.box g 86 #[vS_,.int .i64 at_,.int .u64 mx_] :: Item.box g5 41 #[.int .i64 inp,.slice At_ mt_ ct_] :: Item.box g2 41 #[.int .i64 0,.slice none 0 0] :: [])))
  case atStart=>exact ⟨[],a9,m9,vS_9,none,0,0,rfl,rfl,HP118,⟨rfl,by simp⟩,HS_9,⟨((((((HO_5.out.nilrow (Kd.int .i64) 3).front 4 rfl).front 2 rfl).front 4 rfl).front 3 rfl).front 4 rfl)⟩⟩
  case round =>
   obtain ⟨o,at_,mx_,vS_,Ao_,mo_,co_,rfl,rfl,HL,HM,HS_,HO⟩:=hrel;clear HO_5
   cases gk with
   | zero =>
    have hl:=HL.out;rw [rtLoop] at hl
    injection hl with hl
    injection hl with e_0 hl
    injection hl with e_1 hl
    have e_2:=hl;clear hl;subst e_0;subst e_1;subst e_2;have c1b:decide ((mo_:Int)<inp)=false:=decide_eq_false (by have:=HM.out;omega);clear HL;have hg:=HP119.out;clear HP119
    unfold rtEnd at hg
    rw [← HM.out.1] at hg
    by_cases c2:0<(mo_:Int)
    ·have c2b:decide ((mo_:Int)>0)=true:=decide_eq_true c2
     have c2c:decide (0<(mo_:Int))=true:=decide_eq_true c2;have c2d:decide (0<mo_)=true:=decide_eq_true (by omega);rw [if_pos c2] at hg;obtain ⟨⟨q41,a41,m41⟩,e41,h_⟩:=oB.mp hg;clear hg;have hg:=h_;clear h_;have HP41:=aM e41;clear e41
     dsimp only at hg
     have HC2:=aM c2;clear c2
     cases q41 with
     | true =>
      rw [if_pos rfl] at hg;obtain ⟨⟨q51,a51,m51⟩,e51,h_⟩:=oB.mp hg;clear hg;have hg:=h_;clear h_;have HP51:=aM e51;clear e51
      dsimp only at hg
      injection hg with hg
      injection hg with e_0 hg
      injection hg with e_1 hg
      have e_2:=hg;clear hg;subst e_0;subst e_1;subst e_2;obtain ⟨gl,c3_,hv3⟩:=Sep.own_row_form HO.out 1 rfl (by have:=HM.out;have:=HC2.out;omega)
      injection hv3 with ha hb hc
      subst ha;subst hc;clear hb;have p56:((0:Int)<(mo_:Int))=True:=eq_true HC2.out;have p56b:(0<mo_)=True:=eq_true (by have:=HC2.out;omega);have z_1:wr.cell? ⟨g5,0,none⟩=some (.int .i64 inp):=(HO.out.cell 3 rfl 0 rfl)
      go_wp2_with (first | (go_at_call 65;(refine (spec_l1Cur_one.calls g s0_0 at_ mx_ 12 true a41 m41 w0 _ (rt_in HO.out 2 rfl HS_.out) HO.out.base HP41.out).mono ?_);rintro e w_1 ⟨rfl,hI,hB,hK⟩;obtain ⟨vS_41,hS,ho⟩:=rt_out HO.out 2 rfl hI hB hK;have HS_41:=aM hS;have HO_1:=aM ho;clear hI hB hK hS ho)|((with_reducible refine gate_dst (N:=50) rfl ?_);refine Sep.own_litN (Value.int .i64) (h1:=fun _=>rfl) HO_1.out 3 [-1,0,wrap64 (((mo_:Int)) - 1),(mo_:Int)] 4 rfl [.int .i64 (-1),.int .i64 0,.int .i64 (wrap64 (((mo_:Int)) - 1)),.int .i64 ((mo_:Int))] rfl (by decide) ?hg (N:=50) ?hd ?hr ?_;(case hd=>rfl);(case hg=>rfl);(case hr=>exact za_);intro x_50 w_2 ho _;obtain ⟨g_50,n_50,c_50,hn_,rfl⟩:=Sep.own_row_fseal ho 0 rfl (by simp);obtain rfl:n_50=4:=hn_;have HO_2:=aM ho;clear ho)|((with_reducible refine gate_callee (f:=66) rfl ?_);refine goesL_ (some 51) rfl rfl Try.func66 (by kernel_rfl) rfl #[.pointer (some ⟨g,0,none⟩),.slice ((some ⟨g_50,0,none⟩)) 4 c_50] rfl ze_ ?_;(refine (spec_l1Cur_among.calls g s0_0 a41 m41 ((some ⟨g_50,0,none⟩)) c_50 ([-1,0,wrap64 (((mo_:Int)) - 1),(mo_:Int)]) q51 a51 m51 w0 _ (rt_in HO_2.out 3 rfl HS_41.out) HO_2.out.base (by exact (HO_2.out.row_reads 0 rfl).2.2) (by exact (HO_2.out.row_reads 0 rfl).2.1) (fun ad he _=>by injection he with he;subst he;exact HO_2.out.row_ne_box 0 3 (by decide) rfl rfl) HP51.out).mono ?_);rintro e w_3 ⟨rfl,hI,hB,hK⟩;refine ⟨_,rfl,?_⟩;obtain ⟨vS_51,hS,ho⟩:=rt_out HO_2.out 3 rfl hI hB hK;have HS_51:=aM hS;have HO_3:=aM ho;clear hI hB hK hS ho)|((with_reducible refine gate_store (t:=3) (p:=52) (v := .tmp 51) rfl ?_);refine Sep.own_put_ev (0:Int) HO_3.out 2 rfl 0 q51 (by decide) (by have:=HM.out;have:=HC2.out;omega) rfl rfl 3 (.tmp 52) (.tmp 51) rfl rfl rfl rfl (by kernel_rfl) ?_;intro w_4 ho;have HO_4:=aM ho;clear ho;have z_2:w_4.cell? ⟨g5,0,none⟩=some (.int .i64 inp):=(HO_4.out.cell 4 rfl 0 rfl);have z_3:w_4.cell? ⟨g5,1,none⟩=some (.slice At_ mt_ ct_):=(HO_4.out.cell 4 rfl 1 rfl))|((with_reducible refine gate_store (t:=41) (p:=2) (v := .tmp 53) rfl ?_);refine Sep.own_store HO_4.out 5 g2 41 _ #[.int .i64 inp,.slice At_ mt_ ct_] rfl rfl rfl 41 (.tmp 2) (.tmp 53) rfl rfl _ rfl rfl rfl (by kernel_rfl) (by simp [Value.oneCell']) ?_;intro w_5 ho;have HO_5:=aM ho;clear ho))
      obtain ⟨h1_,h2_,h3_⟩:=own_endQR (((((((HO_5.out.front 2 rfl).front 2 rfl).front 5 rfl).front 5 rfl).front 5 rfl).front 5 rfl).tail.tail.tail.tail);have HR_:=aM h1_;have HX_:=aM h2_;have HB_:=aM h3_;clear h1_ h2_ h3_;(try simp only [Exit.inBlock,Exit.then])
      refine bodyPost_ret (results_ct rfl _ _ g2 41 #[.int .i64 inp,.slice At_ mt_ ct_] (0,0) _ rfl (HO_5.out.blk 5 rfl) Try.underlying41 rfl (by kernel_rfl)) rfl ?_
      exact ⟨_,_,rfl,HR_.out,HX_.out,HB_.out⟩
     | false =>
      rw [if_neg (by decide)] at hg
      injection hg with hg
      injection hg with e_0 hg
      injection hg with e_1 hg
      have e_2:=hg;clear hg;subst e_0;subst e_1;subst e_2;have z_1:wr.cell? ⟨g5,0,none⟩=some (.int .i64 inp):=(HO.out.cell 3 rfl 0 rfl)
      go_wp2_with (first | (go_at_call 65;(refine (spec_l1Cur_one.calls g s0_0 at_ mx_ 12 false a41 m41 w0 _ (rt_in HO.out 2 rfl HS_.out) HO.out.base HP41.out).mono ?_);rintro e w_1 ⟨rfl,hI,hB,hK⟩;obtain ⟨vS_41,hS,ho⟩:=rt_out HO.out 2 rfl hI hB hK;have HS_41:=aM hS;have HO_1:=aM ho;clear hI hB hK hS ho;have z_2:w_1.cell? ⟨g5,0,none⟩=some (.int .i64 inp):=(HO_1.out.cell 3 rfl 0 rfl);have z_3:w_1.cell? ⟨g5,1,none⟩=some (.slice At_ mt_ ct_):=(HO_1.out.cell 3 rfl 1 rfl))|((with_reducible refine gate_store (t:=41) (p:=2) (v := .tmp 53) rfl ?_);refine Sep.own_store HO_1.out 4 g2 41 _ #[.int .i64 inp,.slice At_ mt_ ct_] rfl rfl rfl 41 (.tmp 2) (.tmp 53) rfl rfl _ rfl rfl rfl (by kernel_rfl) (by simp [Value.oneCell']) ?_;intro w_2 ho;have HO_2:=aM ho;clear ho))
      obtain ⟨h1_,h2_,h3_⟩:=own_endQR ((((((HO_2.out.front 1 rfl).front 1 rfl).front 4 rfl).front 4 rfl).front 4 rfl).tail.tail.tail);have HR_:=aM h1_;have HX_:=aM h2_;have HB_:=aM h3_;clear h1_ h2_ h3_;(try simp only [Exit.inBlock,Exit.then])
      refine bodyPost_ret (results_ct rfl _ _ g2 41 #[.int .i64 inp,.slice At_ mt_ ct_] (0,0) _ rfl (HO_2.out.blk 4 rfl) Try.underlying41 rfl (by kernel_rfl)) rfl ?_
      exact ⟨_,_,rfl,HR_.out,HX_.out,HB_.out⟩
    ·have c2b:decide ((mo_:Int)>0)=false:=decide_eq_false c2
     have c2c:decide (0<(mo_:Int))=false:=decide_eq_false c2;have c2d:decide (0<mo_)=false:=decide_eq_false (by omega);rw [if_neg c2] at hg
     injection hg with hg
     injection hg with e_0 hg
     injection hg with e_1 hg
     have e_2:=hg;clear hg;subst e_0;subst e_1;subst e_2;clear c2;have z_1:wr.cell? ⟨g5,0,none⟩=some (.int .i64 inp):=(HO.out.cell 3 rfl 0 rfl);have z_2:wr.cell? ⟨g5,0,none⟩=some (.int .i64 inp):=(HO.out.cell 3 rfl 0 rfl);have z_3:wr.cell? ⟨g5,1,none⟩=some (.slice At_ mt_ ct_):=(HO.out.cell 3 rfl 1 rfl)
     go_wp2_with (first | ((with_reducible refine gate_store (t:=41) (p:=2) (v := .tmp 53) rfl ?_);refine Sep.own_store HO.out 4 g2 41 _ #[.int .i64 inp,.slice At_ mt_ ct_] rfl rfl rfl 41 (.tmp 2) (.tmp 53) rfl rfl _ rfl rfl rfl (by kernel_rfl) (by simp [Value.oneCell']) ?_;intro w_1 ho;have HO_1:=aM ho;clear ho))
     obtain ⟨h1_,h2_,h3_⟩:=own_endQR ((((((HO_1.out.front 1 rfl).front 1 rfl).front 4 rfl).front 4 rfl).front 4 rfl).tail.tail.tail);have HR_:=aM h1_;have HX_:=aM h2_;have HB_:=aM h3_;clear h1_ h2_ h3_;(try simp only [Exit.inBlock,Exit.then])
     refine bodyPost_ret (results_ct rfl _ _ g2 41 #[.int .i64 inp,.slice At_ mt_ ct_] (0,0) _ rfl (HO_1.out.blk 4 rfl) Try.underlying41 rfl (by kernel_rfl)) rfl ?_
     exact ⟨_,_,rfl,HR_.out,HX_.out,HB_.out⟩
   | succ k1 =>
    have c1b:decide ((mo_:Int)<inp)=true:=decide_eq_true (by have:=HM.out;omega);have hl:=HL.out;rw [rtLoop,← HM.out.1] at hl;obtain ⟨⟨q24,a24,m24⟩,e24,h_⟩:=oB.mp hl;clear hl;have hl:=h_;clear h_;have HP24:=aM e24;clear e24
    dsimp only at hl
    split at hl
    ·rename_i hq
     obtain ⟨hq0,hq1⟩:=hq;have HL2:=aM hl;clear hl HL;obtain ⟨ot,hot⟩:∃ ot,ot=o.take q24.toNat:=⟨_,rfl⟩;obtain ⟨od,hod⟩:∃ od,od=o.drop q24.toNat:=⟨_,rfl⟩;have hkm:q24.toNat≤o.length:=by have:=HM.out;omega
     have hol:ot.length=q24.toNat:=by rw [hot,lT];omega
     have hdl:od.length=mo_ - q24.toNat:=by rw [hod,lD,← HM.out.1]
     have hroom:=(HO.out.row_reads 1 rfl).2.1;obtain ⟨i0,hi0,_,hsz,_⟩:=info_parts info3;have hcut1:=cut_to (P:=Try.prog) 39 3 .i64 Try.underlying39 hi0 Ao_ mo_ co_ q24 hq0 hq1 hroom;have hcut2:=cut_from (P:=Try.prog) 39 3 .i64 Try.underlying39 hi0 1 hsz Ao_ mo_ co_ q24 hq0 hq1;obtain ⟨Ad_,hAd⟩:∃ A1,A1=(if co_=q24.toNat then Ao_ else (Ao_:Option Addr).map (·.add (q24.toNat * 1))):=⟨_,rfl⟩;obtain ⟨cd_,hcd⟩:∃ c1,c1=co_ - q24.toNat:=⟨_,rfl⟩;rw [← hol] at hcut1;rw [← hdl,← hAd,← hcd] at hcut2;have HOT:=aM hot;have HOD:=aM hod;have HKM:=aM hkm;have HAD:=aM hAd;have HOL:=aM (show ot.length+od.length=mo_ from by have:=HM.out;omega);have HTC:=aM (show ot.length≤co_ from by omega);have HTL:=aM (show ot.length≤1000 from by have:=HM.out;have:=HN1.out;omega);have HDL:=aM (show od.length≤1000 from by have:=HM.out;have:=HN1.out;omega);clear hot hod hkm hol hdl hroom hAd hcd hi0 hsz hq0 hq1;have z_1:wr.cell? ⟨g5,0,none⟩=some (.int .i64 inp):=(HO.out.cell 3 rfl 0 rfl)
     go_wp2_with (first | ((with_reducible refine gate_callee (f:=68) rfl ?_);refine goesL_ (some 24) rfl rfl Try.func68 (by kernel_rfl) rfl #[.pointer (some ⟨g,0,none⟩),.int .i64 (wrap64 (((mo_:Int))+1))] rfl ze_ ?_;(refine (spec_l1Cur_pick.calls g s0_0 at_ mx_ (wrap64 (((mo_:Int))+1)) q24 a24 m24 w0 _ (rt_in HO.out 2 rfl HS_.out) HO.out.base HP24.out).mono ?_);rintro e w_1 ⟨rfl,hI,hB,hK⟩;refine ⟨_,rfl,?_⟩;obtain ⟨vS_24,hS,ho⟩:=rt_out HO.out 2 rfl hI hB hK;have HS_24:=aM hS;have HO_1:=aM ho;clear hI hB hK hS ho))
     have HD_8_1:=aM (HO_1.out.drew)
     refine start_ (n:=12) (S:=fun w'=>True) (ds:=[]) #[fi,fi,fi,fi,fi,fi,fi,fi,fi,fi,fi,fi] (by kernel_rfl) rfl rfl trivial (fun hHeld=>?_)
     generalize w_1.drew=wd_8_2 at HD_8_1 ⊢
     refine oz_ 0 25 ?_
     refine oz_ 1 26 ?_
     refine oz_ 2 27 ?_
     refine oz_ 4 29 ?_
     refine oz_ 7 32 ?_
     refine oz_ 8 33 ?_
     refine oz_ 9 34 ?_
     refine join_ (σ:=Value×Value) 3 #[ti,ti,ti,ti,ti,ti,fi,ti,ti,ti,fi,fi] (fun s => [(28,s.1),(30,s.2)]) (fun s w'=>Own w0 w' [Item.row (Kd.int .i64) 3 (s.2) ([(mo_:Int)]),Item.row (Kd.int .i64) 3 (s.1) (ot),qItem (Kd.int .i64) 3 (.slice At_ mt_ ct_) t9,Item.row (Kd.int .i64) 3 (.slice Ao_ mo_ co_) (o),Item.box g 86 #[vS_24,.int .i64 a24,.int .u64 m24],Item.box g5 41 #[.int .i64 inp,.slice At_ mt_ ct_],Item.box g2 41 #[.int .i64 0,.slice none 0 0]]) ?_ ?_
     rotate_left
     ·intro hCont
      refine two_ (i:=3) (j:=5) (Ni:=some 28) (Nj:=some 30) #[ti,ti,ti,ti,ti,fi,fi,ti,ti,ti,fi,fi] #[ti,ti,ti,fi,ti,ti,fi,ti,ti,ti,fi,fi] rfl rfl rfl rfl (by kernel_rfl) (by decide) (by decide) (fun K hK=>?_) (fun K hK=>?_)
      ·skip
       refine goes_ Try.func81 (by kernel_rfl) rfl #[.slice Ao_ ot.length co_] (by rfl) rfl rfl zh_ ?_
       (refine (spec_l1Own.calls Ao_ co_ ot ot _ (rt_take (HD_8_1.out.row_reads 1 rfl) HOT.out HKM.out) HTC.out (by simp only [spec_l1Own.f,oS,List.length_nil,List.nil_append];rw [if_pos (by have:=HTL.out;omega)])).mono ?_)
       rintro e w_2 ⟨x_28,rfl,hR,hb⟩
       refine ⟨_,rfl,?_⟩
       have ho:=HD_8_1.out.add_row hR hb;clear hR hb;have HO_2:=aM ho;clear ho
       refine hK.out _ _ trivial (fun hHeld=>?_)
       clear hK K
       refine nz_ 28 ?_
       refine oo_ 5 30 (fun K hK=>?_)
       refine Sep.own_lit1_step (Value.int .i64) (h1:=fun _=>rfl) HO_2.out 3 ((mo_:Int)) (by rfl) (N:=30) rfl za_ ?_
       intro x_30 w_3 ho _
       have HO_3:=aM ho;clear ho
       refine hK.out _ _ trivial (fun hHeld=>?_)
       clear hK K
       refine nz_ 30 ?_
       exact norm_ (by simp only [putAll,Act.put,sI,s0,sS]) (hCont (x_28,x_30) _ (((((((HO_3.out.front 6 rfl).front 6 rfl).front 6 rfl).front 6 rfl).front 6 rfl).front 6 rfl).front 6 rfl))
      ·skip
       refine Sep.own_lit1_step (Value.int .i64) (h1:=fun _=>rfl) HD_8_1.out 3 ((mo_:Int)) (by rfl) (N:=30) rfl za_ ?_
       intro x_30 w_2 ho _
       have HO_2:=aM ho;clear ho
       refine hK.out _ _ trivial (fun hHeld=>?_)
       clear hK K
       refine nz_ 30 ?_
       refine oo_ 3 28 (fun K hK=>?_)
       refine goes_ Try.func81 (by kernel_rfl) rfl #[.slice Ao_ ot.length co_] (by rfl) rfl rfl zh_ ?_
       (refine (spec_l1Own.calls Ao_ co_ ot ot _ (rt_take (HO_2.out.row_reads 2 rfl) HOT.out HKM.out) HTC.out (by simp only [spec_l1Own.f,oS,List.length_nil,List.nil_append];rw [if_pos (by have:=HTL.out;omega)])).mono ?_)
       rintro e w_3 ⟨x_28,rfl,hR,hb⟩
       refine ⟨_,rfl,?_⟩
       have ho:=HO_2.out.add_row hR hb;clear hR hb;have HO_3:=aM ho;clear ho
       refine hK.out _ _ trivial (fun hHeld=>?_)
       clear hK K
       refine nz_ 28 ?_
       exact norm_ (by simp only [putAll,Act.put,sI,s0,sS]) (hCont (x_28,x_30) _ (((((((HO_3.out.front 6 rfl).front 6 rfl).front 6 rfl).front 6 rfl).front 6 rfl).front 5 rfl).front 6 rfl))
     rintro ⟨x_28,x_30⟩ wj_3 ho
     have hHeld:=trivial;obtain ⟨A_30,c_30,rfl⟩:=ho.row_slice 0 rfl;have HOJ_3:=aM ho;clear ho
     refine norm_ (a':=?_) ?_ ?_
     rotate_left
     ·simp only [putAll,Act.put,sI,s0,sS]
      rfl
     refine oo_ 6 31 (fun K hK=>?_)
     refine Sep.own_append_all_step (Value.int .i64) (0:Int) HOJ_3.out 1 _ (ot) 3 rfl (by rfl) (.tmp 28) (.tmp 30) 39 (.int .i64 0) 8 rfl Try.underlying39 info3 rfl (by omega) ([(mo_:Int)]) A_30 1 c_30 rfl rfl (HOJ_3.out.row_reads 0 rfl).2.2 (by have:=HTL.out;simp;omega) ?_
     intro x_31 w_54 ho
     have HO_54:=aM ho;clear ho
     refine hK.out _ _ trivial (fun hHeld=>?_)
     clear hK K
     refine nz_ 31 ?_
     refine oo_ 10 35 (fun K hK=>?_)
     refine Sep.own_append_all_step (Value.int .i64) (0:Int) HO_54.out 1 _ ((ot)++([(mo_:Int)])) 3 rfl (by rfl) (.tmp 31) (.tmp 34) 39 (.int .i64 0) 8 rfl Try.underlying39 info3 rfl (by omega) od Ad_ od.length cd_ rfl rfl (rt_drop (HO_54.out.row_reads 3 rfl) HOD.out HAD.out HKM.out) (by have:=HTL.out;have:=HDL.out;simp;omega) ?_
     intro x_35 w_55 ho
     have HO_55:=aM ho;clear ho
     refine hK.out _ _ trivial (fun hHeld=>?_)
     clear hK K
     refine nz_ 35 ?_
     refine oz_ 11 6 ?_
     refine done_ (by kernel_rfl) ?_
     go_wp2
     obtain ⟨A_35,n_35,c_35,hn_,rfl⟩:=HO_55.out.row_seal 1 rfl;have HN_35:=aM hn_;clear hn_
     go_roundg k1
     case measure=>omega
     case rel=>exact ⟨ot ++ [(mo_:Int)]++od,a24,m24,vS_24,_,_,_,rfl,by rw [show wrap64 ((mo_:Int)+1)=(n_35:Int) from by have h1:=HN_35.out;rw [List.length_append,List.length_append,List.length_singleton] at h1;have:=HOL.out;have:=HM.out;have:=HN1.out;unfold wrap64;omega],⟨by have e:=HL2.out;rw [← HOT.out,← HOD.out] at e;exact e⟩,⟨HN_35.out,by rw [List.length_append,List.length_append,List.length_singleton];have:=HOL.out;have:=HM.out;omega⟩,HS_24,⟨(((((((HO_55.out.front 6 rfl).front 6 rfl).front 6 rfl).front 4 rfl).front 5 rfl).front 6 rfl).front 6 rfl).tail.tail⟩⟩
    ·cases hl
 ·cases h
def spec_ddOrder.l0:Nat→List Int→Int→List Int→Int→Int→Option (Bool)
 | 0,_,_,_,_,_=>none
 | k+1,x0,x1,x7,x8,x9=>if x9<x8 then (if 0≤x9 then (if x9<(x7.length:Int) then ((spec_l1In.f (rd x7 x9) 0 (wrap64 (x1 - 1))).bind fun t369=>(if t369=true then (if x9≤(x0.length:Int) then ((spec_l1Has.f k (x0.take (x9:Int).toNat) (rd x7 x9)).bind fun t371=>(if t371=true then (some false) else (spec_ddOrder.l0 k x0 x1 x7 x8 (wrap64 (x9+1))))) else (none)) else (some false))) else (none)) else (none)) else (some ((x0.length:Int) == x1))
def spec_ddOrder.f (k:Nat) (l0:List Int) (a1:Int):Option (Bool):=spec_ddOrder.l0 k l0 a1 l0 (l0.length:Int) 0
theorem spec_ddOrder.calls (k:Nat) (A0:Option Addr) (c0:Nat) (l0:List Int) (a1:Int) (r:Bool) (w:World) (hr0:Kd.C (Kd.int .i64) w A0 l0.length l0) (hc0:l0.length≤c0) (h:spec_ddOrder.f k l0 a1=some r) :
  Calls Try.prog 82 #[.slice A0 l0.length c0,.int .i64 a1] w fun e w'=>e = .returned (.bool r)∧Drawn0 w w':=by
 have HR0:=aM hr0
 have HC0:=aM hc0
 clear hr0 hc0
 have H:(spec_ddOrder.l0 k l0 a1 l0 (l0.length:Int) 0)=some r:=h
 clear h
 have H':=aM H
 clear H
 go_enter Try.func82,Try.ntmps82
 go_wp2
 go_loopg [9] k (fun kq v9 w' => ∃ (x9_1:Int),v9 = .int .i64 x9_1∧Aside0 (spec_ddOrder.l0 kq l0 a1 l0 (l0.length:Int) x9_1=some r)∧Aside0 (kq≤k)∧Drawn0 w w')
 case atStart=>exact ⟨(0),zd_,H',⟨Nat.le_refl _⟩,zi_⟩
 case round =>
  clear H';obtain ⟨x9_1,rfl,HA,HK1,⟨m1,rfl⟩⟩:=hrel
  cases gk with
  | zero=>exact absurd HA.out (by simp [spec_ddOrder.l0])
  | succ k1 =>
   have H:=HA.out;clear HA
   simp only [spec_ddOrder.l0] at H
   by_cases c3:x9_1<(l0.length:Int)
   ·rw [if_pos c3] at H
    have c3b0:=decide_eq_true c3;clear c3
    by_cases c4:0≤x9_1
    ·rw [if_pos c4] at H
     have c4b0:=decide_eq_true c4;clear c4
     by_cases c5:x9_1<(l0.length:Int)
     ·rw [if_pos c5] at H
      have c5b0:=decide_eq_true c5;clear c5;replace H:=oB.mp H;obtain ⟨t369,A60,H⟩:=H;replace H:(if t369=true then (if x9_1≤(l0.length:Int) then ((spec_l1Has.f k1 (l0.take (x9_1:Int).toNat) (rd l0 x9_1)).bind fun t371=>(if t371=true then (some false) else (spec_ddOrder.l0 k1 l0 a1 l0 (l0.length:Int) (wrap64 (x9_1+1))))) else (none)) else (some false))=some r:=H;have A6:=aM A60;clear A60
      by_cases c7:t369=true
      ·subst c7
       have H1:(if x9_1≤(l0.length:Int) then ((spec_l1Has.f k1 (l0.take (x9_1:Int).toNat) (rd l0 x9_1)).bind fun t371=>(if t371=true then (some false) else (spec_ddOrder.l0 k1 l0 a1 l0 (l0.length:Int) (wrap64 (x9_1+1))))) else (none))=some r:=by rw [if_pos rfl] at H;exact H
       clear H;have H:=H1;clear H1;have c8b0:=eq_true (of_decide_eq_true zc_:0≤x9_1)
       by_cases c9:x9_1≤(l0.length:Int)
       ·rw [if_pos c9] at H
        have c9b0:=eq_true c9;have c9b1:=decide_eq_true c9;clear c9;replace H:=oB.mp H;obtain ⟨t371,A100,H⟩:=H;replace H:(if t371=true then (some false) else (spec_ddOrder.l0 k1 l0 a1 l0 (l0.length:Int) (wrap64 (x9_1+1))))=some r:=H;have A10:=aM A100;clear A100
        by_cases c11:t371=true
        ·subst c11
         have H1:(some false)=some r:=by rw [if_pos rfl] at H;exact H
         clear H;have H:=H1;clear H1;obtain rfl:=Option.some.inj H;have p368:0≤(x9_1:Int):=of_decide_eq_true zc_;have q368:x9_1<(l0.length:Int):=of_decide_eq_true zc_;obtain ⟨ad368,e368,hx368_0⟩:=Kd.at_int HR0.out x9_1 p368 q368
         cases e368
         replace p368:=eq_true p368;replace q368:=eq_true q368
         go_wp2_with (first | ((with_reducible refine gate_callee (f:=101) rfl ?_);refine goesL_ (some 17) rfl rfl Try.func101 (by kernel_rfl) rfl #[.int .i64 (rd l0 x9_1),.int .i64 0,.int .i64 (wrap64 (a1 - 1))] rfl zf_ ?_;(with_reducible refine (spec_l1In.calls (rd l0 x9_1) 0 (wrap64 (a1 - 1)) true _ A6.out).mono ?_);rintro e w' ⟨rfl,⟨nd,rfl⟩⟩;refine ⟨_,rfl,?_⟩;obtain ⟨i012,hi012,_,hsz12,_⟩:=info_parts info3;obtain ⟨hcut12,hA12,hC12⟩:=print_take_of (P:=Try.prog) (Value.int .i64) 0 39 3 .i64 Try.underlying39 hi012 hsz12 (some ad368) c0 l0 x9_1 (of_decide_eq_true zc_) (of_decide_eq_true zc_) HC0.out;have HR370:=aM (Kd.C_of_reads (h1:=fun _=>rfl) (hA12 _ (Kd.reads_of_C HR0.out)));have HC370:=aM hC12;clear hA12 hC12 hi012 hsz12)|(go_at_call 120;(with_reducible refine (calls_len_ (show (l0.take (x9_1:Int).toNat).length=(x9_1:Int).toNat from by have z1_:=of_eq_true p368;have z2_:=of_eq_true q368;rw [lT];omega) (spec_l1Has.calls k1 _ _ (l0.take (x9_1:Int).toNat) (rd l0 x9_1) true _ ?side1 ?side2 A10.out)).mono ?_);(case side1=>repeat (first | exact HR370.out | (with_reducible refine cA ?_ _)|(with_reducible refine cN ?_ _)|(with_reducible refine cD ?_)));(case side2=>exact HC370.out);rintro e w' ⟨rfl,⟨nd,rfl⟩⟩))
         go_ret
         exact ⟨zd_,zi_⟩
        ·replace c11:=Bool.eq_false_iff.mpr c11
         subst c11;have H1:(spec_ddOrder.l0 k1 l0 a1 l0 (l0.length:Int) (wrap64 (x9_1+1)))=some r:=by rw [if_neg (show ¬ (false=true) by decide)] at H;exact H
         clear H;have H:=H1;clear H1;have H':=aM H;clear H;have p368:0≤(x9_1:Int):=of_decide_eq_true zc_;have q368:x9_1<(l0.length:Int):=of_decide_eq_true zc_;obtain ⟨ad368,e368,hx368_0⟩:=Kd.at_int HR0.out x9_1 p368 q368
         cases e368
         replace p368:=eq_true p368;replace q368:=eq_true q368
         go_wp2_with (first | ((with_reducible refine gate_callee (f:=101) rfl ?_);refine goesL_ (some 17) rfl rfl Try.func101 (by kernel_rfl) rfl #[.int .i64 (rd l0 x9_1),.int .i64 0,.int .i64 (wrap64 (a1 - 1))] rfl zf_ ?_;(with_reducible refine (spec_l1In.calls (rd l0 x9_1) 0 (wrap64 (a1 - 1)) true _ A6.out).mono ?_);rintro e w' ⟨rfl,⟨nd,rfl⟩⟩;refine ⟨_,rfl,?_⟩;obtain ⟨i013,hi013,_,hsz13,_⟩:=info_parts info3;obtain ⟨hcut13,hA13,hC13⟩:=print_take_of (P:=Try.prog) (Value.int .i64) 0 39 3 .i64 Try.underlying39 hi013 hsz13 (some ad368) c0 l0 x9_1 (of_decide_eq_true zc_) (of_decide_eq_true zc_) HC0.out;have HR370:=aM (Kd.C_of_reads (h1:=fun _=>rfl) (hA13 _ (Kd.reads_of_C HR0.out)));have HC370:=aM hC13;clear hA13 hC13 hi013 hsz13)|(go_at_call 120;(with_reducible refine (calls_len_ (show (l0.take (x9_1:Int).toNat).length=(x9_1:Int).toNat from by have z1_:=of_eq_true p368;have z2_:=of_eq_true q368;rw [lT];omega) (spec_l1Has.calls k1 _ _ (l0.take (x9_1:Int).toNat) (rd l0 x9_1) false _ ?side1 ?side2 A10.out)).mono ?_);(case side1=>repeat (first | exact HR370.out | (with_reducible refine cA ?_ _)|(with_reducible refine cN ?_ _)|(with_reducible refine cD ?_)));(case side2=>exact HC370.out);rintro e w' ⟨rfl,⟨nd,rfl⟩⟩))
         go_roundg k1
         case measure=>have:=HK1.out;omega
         case rel=>exact ⟨(wrap64 (x9_1+1)),zd_,H',⟨zci_⟩,zi_⟩
       ·rw [if_neg c9] at H
        exact q3n_ H
      ·replace c7:=Bool.eq_false_iff.mpr c7
       subst c7;have H1:(some false)=some r:=by rw [if_neg (show ¬ (false=true) by decide)] at H;exact H
       clear H;have H:=H1;clear H1;obtain rfl:=Option.some.inj H;have p368:0≤(x9_1:Int):=of_decide_eq_true zc_;have q368:x9_1<(l0.length:Int):=of_decide_eq_true zc_;obtain ⟨ad368,e368,hx368_0⟩:=Kd.at_int HR0.out x9_1 p368 q368
       cases e368
       replace p368:=eq_true p368;replace q368:=eq_true q368
       go_wp2_with (first | ((with_reducible refine gate_callee (f:=101) rfl ?_);refine goesL_ (some 17) rfl rfl Try.func101 (by kernel_rfl) rfl #[.int .i64 (rd l0 x9_1),.int .i64 0,.int .i64 (wrap64 (a1 - 1))] rfl zf_ ?_;(with_reducible refine (spec_l1In.calls (rd l0 x9_1) 0 (wrap64 (a1 - 1)) false _ A6.out).mono ?_);rintro e w' ⟨rfl,⟨nd,rfl⟩⟩;refine ⟨_,rfl,?_⟩))
       go_ret
       exact ⟨zd_,zi_⟩
     ·rw [if_neg c5] at H
      exact q3n_ H
    ·rw [if_neg c4] at H
     exact q3n_ H
   ·rw [if_neg c3] at H
    have c3b0:=decide_eq_false c3;clear c3;obtain rfl:=Option.some.inj H
    go_wp2
    go_ret
    exact ⟨zd_,zi_⟩
def spec_ReorderTable.f (k:Nat) (a0_0:Int) (l0_1:List Int) (l1:List Int):Option (Int×List Int×Bool):=(spec_ttGood.f k a0_0 l0_1).bind fun b7=>if b7=true then ((spec_ddOrder.f k l1 a0_0).bind fun b13=>if b13=true then ((spec_ddReorder.f k a0_0 l0_1 l1).bind fun b19=>some (b19.1,b19.2,true)) else (some (0,[],false))) else (some (0,[],false))
open Go.Proofs.Ytlnhpkjioppbiaa.Sep in
set_option maxHeartbeats 32000000 in
set_option maxRecDepth 100000 in
theorem spec_ReorderTable.calls (k:Nat) (a0_0:Int) (A0_1:Option Addr) (c0_1:Nat) (l0_1:List Int) (A1:Option Addr) (c1:Nat) (l1:List Int) (r1:Int) (r2:List Int) (r3:Bool) (w:World) (hr0_1:Kd.C (Kd.int .i64) w A0_1 l0_1.length l0_1) (hc0_1:l0_1.length≤c0_1) (hr1:Kd.C (Kd.int .i64) w A1 l1.length l1) (hc1:l1.length≤c1) (h:spec_ReorderTable.f k a0_0 l0_1 l1=some (r1,r2,r3)) :
  Calls Try.prog 29 #[.agg #[.int .i64 a0_0,.slice A0_1 l0_1.length c0_1],.slice A1 l1.length c1] w fun e w' => ∃ v1_:Value,e = .returned (.tuple #[.agg #[.int .i64 r1,v1_],.bool r3])∧Kd.R (Kd.int .i64) 3 w' w.heap.size (fun _=>True) v1_ r2∧Below w.heap.size w w':=by
 have HR0_1:=aM hr0_1
 have HC0_1:=aM hc0_1
 clear hr0_1 hc0_1
 have HR1:=aM hr1
 have HC1:=aM hc1
 clear hr1 hc1
 unfold spec_ReorderTable.f at h
 have H:=h
 clear h
 obtain ⟨t7,A_,H_⟩:=oB.mp H
 clear H
 have H:=H_
 clear H_
 (try dsimp only at H)
 have A7:=aM A_
 clear A_
 go_enter Try.func29,Try.ntmps29
 go_upto_region 1 with (first | ((with_reducible refine gate_dst (N:=2) rfl ?_);refine box_event ?hg (N:=2) ?hd (cs:=#[.int .i64 a0_0,.slice A0_1 l0_1.length c0_1]) (t:=41) ?hr ?_;(case hd=>rfl);(case hg=>rfl);(case hr=>exact za_);intro g2 hg w_1 hbox hb;have HO_1:=aM ((Sep.Own.nil w).add_box (T:=41) (cs:=#[.int .i64 a0_0,.slice A0_1 l0_1.length c0_1]) hg hbox hb);clear hg hbox hb)|((with_reducible refine gate_dst (N:=4) rfl ?_);refine box_event ?hg (N:=4) ?hd (cs:=#[.int .i64 0,.slice none 0 0]) (t:=41) ?hr ?_;(case hd=>rfl);(case hg=>rfl);(case hr=>exact za_);intro g4 hg w_2 hbox hb;have HO_2:=aM (HO_1.out.add_box (T:=41) (cs:=#[.int .i64 0,.slice none 0 0]) hg hbox hb);clear hg hbox hb))
 by_cases c7_0_:t7=true
 ·subst c7_0_
  rw [if_pos rfl] at H;obtain ⟨t13,A_,H_⟩:=oB.mp H;clear H;have H:=H_;clear H_;(try dsimp only at H);have A13:=aM A_;clear A_
  by_cases c13_0_:t13=true
  ·subst c13_0_
   rw [if_pos rfl] at H;obtain ⟨⟨t19_0,t19_1⟩,A_,H_⟩:=oB.mp H;clear H;have H:=H_;clear H_;(try dsimp only at H);have A19:=aM A_;clear A_
   injection H with H
   injection H with e_0 H
   injection H with e_1 H
   subst e_0;subst e_1;subst H;have z_1:w_2.cell? ⟨g2,0,none⟩=some (.int .i64 a0_0):=(HO_2.out.cell 1 rfl 0 rfl);have z_2:w_2.cell? ⟨g2,1,none⟩=some (.slice A0_1 l0_1.length c0_1):=(HO_2.out.cell 1 rfl 1 rfl)
   go_wp2_with (first | ((with_reducible refine gate_callee (f:=76) rfl ?_);refine goesL_ (some 7) rfl rfl Try.func76 (by kernel_rfl) rfl #[.agg #[.int .i64 a0_0,.slice A0_1 l0_1.length c0_1]] rfl ze_ ?_;(with_reducible refine (spec_ttGood.calls k a0_0 A0_1 c0_1 l0_1 true _ zfg_ HC0_1.out A7.out).mono ?_);rintro e w_3 ⟨rfl,hb⟩;refine ⟨_,rfl,?_⟩;have ho:=HO_2.out.below hb;clear hb;have HO_3:=aM ho;clear ho;have z_3:w_3.cell? ⟨g2,0,none⟩=some (.int .i64 a0_0):=(HO_3.out.cell 1 rfl 0 rfl))|(go_at_call 82;(with_reducible refine (spec_ddOrder.calls k A1 c1 l1 a0_0 true _ (by exact (Kd.C_below HR1.out HO_3.out.base)) HC1.out A13.out).mono ?_);rintro e w_4 ⟨rfl,hb⟩;have ho:=ow_drawn HO_3.out hb.out;clear hb;have HO_4:=aM ho;clear ho;have z_4:w_4.cell? ⟨g2,0,none⟩=some (.int .i64 a0_0):=(HO_4.out.cell 1 rfl 0 rfl);have z_5:w_4.cell? ⟨g2,1,none⟩=some (.slice A0_1 l0_1.length c0_1):=(HO_4.out.cell 1 rfl 1 rfl))|((with_reducible refine gate_callee (f:=78) rfl ?_);refine goesL_ (some 19) rfl rfl Try.func78 (by kernel_rfl) rfl #[.agg #[.int .i64 a0_0,.slice A0_1 l0_1.length c0_1],.slice A1 l1.length c1] rfl ze_ ?_;(with_reducible refine (spec_ddReorder.calls k a0_0 A0_1 c0_1 l0_1 A1 c1 l1 t19_0 t19_1 _ (by exact (Kd.C_below HR0_1.out HO_4.out.base)) HC0_1.out (by exact (Kd.C_below HR1.out HO_4.out.base)) HC1.out A19.out).mono ?_);rintro e w_5 ⟨x_19,rfl,ho1,hb⟩;refine ⟨_,rfl,?_⟩;have ho:=HO_4.out.add_row ho1 hb;clear ho1 hb;obtain ⟨A_19,c_19,e_⟩:=ho.row_slice 0 rfl;subst e_;have HO_5:=aM ho;clear ho)|((with_reducible refine gate_store (t:=41) (p:=4) (v := .tmp 19) rfl ?_);refine Sep.own_store HO_5.out 1 g4 41 _ #[.int .i64 t19_0,.slice A_19 t19_1.length c_19] rfl rfl rfl 41 (.tmp 4) (.tmp 19) rfl rfl _ rfl rfl rfl (by kernel_rfl) (by simp [Value.oneCell']) ?_;intro w_6 ho;have HO_6:=aM ho;clear ho))
   (try simp only [Act.put,sI,s0,sS]);obtain ⟨f_,hf_⟩:=HO_6.out.2;(try simp only [Exit.inBlock,Exit.then])
   refine bodyPost_ret (results_list (rs:=[.cell 4 41,.tmp 5]) rfl (by simp) (.cell g4 41 #[.int .i64 t19_0,.slice A_19 t19_1.length c_19] (0,0) _ rfl (HO_6.out.blk 1 rfl) Try.underlying41 rfl (by kernel_rfl) (.tmp .nil))) rfl ?_
   exact ⟨_,rfl,Kd.R_mono (hf_ 0 _ rfl) (fun k_ hk_=>trivial),HO_6.out.base⟩
  ·replace c13_0_:=Bool.eq_false_iff.mpr c13_0_
   subst c13_0_;rw [if_neg (show ¬ (false=true) by decide)] at H
   injection H with H
   injection H with e_0 H
   injection H with e_1 H
   subst e_0;subst e_1;subst H;have z_1:w_2.cell? ⟨g2,0,none⟩=some (.int .i64 a0_0):=(HO_2.out.cell 1 rfl 0 rfl);have z_2:w_2.cell? ⟨g2,1,none⟩=some (.slice A0_1 l0_1.length c0_1):=(HO_2.out.cell 1 rfl 1 rfl)
   go_wp2_with (first | ((with_reducible refine gate_callee (f:=76) rfl ?_);refine goesL_ (some 7) rfl rfl Try.func76 (by kernel_rfl) rfl #[.agg #[.int .i64 a0_0,.slice A0_1 l0_1.length c0_1]] rfl ze_ ?_;(with_reducible refine (spec_ttGood.calls k a0_0 A0_1 c0_1 l0_1 true _ zfg_ HC0_1.out A7.out).mono ?_);rintro e w_3 ⟨rfl,hb⟩;refine ⟨_,rfl,?_⟩;have ho:=HO_2.out.below hb;clear hb;have HO_3:=aM ho;clear ho;have z_3:w_3.cell? ⟨g2,0,none⟩=some (.int .i64 a0_0):=(HO_3.out.cell 1 rfl 0 rfl))|(go_at_call 82;(with_reducible refine (spec_ddOrder.calls k A1 c1 l1 a0_0 false _ (by exact (Kd.C_below HR1.out HO_3.out.base)) HC1.out A13.out).mono ?_);rintro e w_4 ⟨rfl,hb⟩;have ho:=ow_drawn HO_3.out hb.out;clear hb;have HO_4:=aM ho;clear ho)|((with_reducible refine gate_store (t:=41) (p:=4) (v := .tmp 16) rfl ?_);refine Sep.own_store HO_4.out 0 g4 41 _ #[.int .i64 0,.slice none 0 0] rfl rfl rfl 41 (.tmp 4) (.tmp 16) rfl rfl _ rfl rfl rfl (by kernel_rfl) (by simp [Value.oneCell']) ?_;intro w_5 ho;have HO_5:=aM ho;clear ho))
   (try simp only [Act.put,sI,s0,sS]);(try simp only [Exit.inBlock,Exit.then])
   refine bodyPost_ret (results_list (rs:=[.cell 4 41,.tmp 5]) rfl (by simp) (.cell g4 41 #[.int .i64 0,.slice none 0 0] (0,0) _ rfl (HO_5.out.blk 0 rfl) Try.underlying41 rfl (by kernel_rfl) (.tmp .nil))) rfl ?_
   exact ⟨_,rfl,Kd.R_nil _ _ _ _ _,HO_5.out.base⟩
 ·replace c7_0_:=Bool.eq_false_iff.mpr c7_0_
  subst c7_0_;rw [if_neg (show ¬ (false=true) by decide)] at H
  injection H with H
  injection H with e_0 H
  injection H with e_1 H
  subst e_0;subst e_1;subst H;have z_1:w_2.cell? ⟨g2,0,none⟩=some (.int .i64 a0_0):=(HO_2.out.cell 1 rfl 0 rfl);have z_2:w_2.cell? ⟨g2,1,none⟩=some (.slice A0_1 l0_1.length c0_1):=(HO_2.out.cell 1 rfl 1 rfl)
  go_wp2_with (first | ((with_reducible refine gate_callee (f:=76) rfl ?_);refine goesL_ (some 7) rfl rfl Try.func76 (by kernel_rfl) rfl #[.agg #[.int .i64 a0_0,.slice A0_1 l0_1.length c0_1]] rfl ze_ ?_;(with_reducible refine (spec_ttGood.calls k a0_0 A0_1 c0_1 l0_1 false _ zfg_ HC0_1.out A7.out).mono ?_);rintro e w_3 ⟨rfl,hb⟩;refine ⟨_,rfl,?_⟩;have ho:=HO_2.out.below hb;clear hb;have HO_3:=aM ho;clear ho)|((with_reducible refine gate_store (t:=41) (p:=4) (v := .tmp 16) rfl ?_);refine Sep.own_store HO_3.out 0 g4 41 _ #[.int .i64 0,.slice none 0 0] rfl rfl rfl 41 (.tmp 4) (.tmp 16) rfl rfl _ rfl rfl rfl (by kernel_rfl) (by simp [Value.oneCell']) ?_;intro w_4 ho;have HO_4:=aM ho;clear ho))
  (try simp only [Act.put,sI,s0,sS]);(try simp only [Exit.inBlock,Exit.then])
  refine bodyPost_ret (results_list (rs:=[.cell 4 41,.tmp 5]) rfl (by simp) (.cell g4 41 #[.int .i64 0,.slice none 0 0] (0,0) _ rfl (HO_4.out.blk 0 rfl) Try.underlying41 rfl (by kernel_rfl) (.tmp .nil))) rfl ?_
  exact ⟨_,rfl,Kd.R_nil _ _ _ _ _,HO_4.out.base⟩
def laws_pSameTable.f (k:Nat) (a0_0:Int) (l0_1:List Int) (a1_0:Int) (l1_1:List Int):Option (Bool):=if a0_0=a1_0 then ((laws_sameInts.f k l0_1 l1_1).bind fun t374=>(some t374)) else (some false)
theorem laws_pSameTable.calls (k:Nat) (a0_0:Int) (A0_1:Option Addr) (c0_1:Nat) (l0_1:List Int) (a1_0:Int) (A1_1:Option Addr) (c1_1:Nat) (l1_1:List Int) (r:Bool) (w:World) (hr0_1:Kd.C (Kd.int .i64) w A0_1 l0_1.length l0_1) (hc0_1:l0_1.length≤c0_1) (hr1_1:Kd.C (Kd.int .i64) w A1_1 l1_1.length l1_1) (hc1_1:l1_1.length≤c1_1) (h:laws_pSameTable.f k a0_0 l0_1 a1_0 l1_1=some r) :
  Calls Try.prog 30 #[.agg #[.int .i64 a0_0,.slice A0_1 l0_1.length c0_1],.agg #[.int .i64 a1_0,.slice A1_1 l1_1.length c1_1]] w fun e w'=>e = .returned (.bool r)∧Below w.heap.size w w':=by
 have hu41:=Try.underlying41
 have HR0_1:=aM hr0_1
 have HC0_1:=aM hc0_1
 clear hr0_1 hc0_1
 have HR1_1:=aM hr1_1
 have HC1_1:=aM hc1_1
 clear hr1_1 hc1_1
 have HB:=aM (Below.refl w.heap.size w)
 have H:(if a0_0=a1_0 then ((laws_sameInts.f k l0_1 l1_1).bind fun t374=>(some t374)) else (some false))=some r:=h
 clear h
 by_cases c3:a0_0=a1_0
 ·rw [if_pos c3] at H
  have c3b0:=beq_iff_eq.mpr c3;have c3b1:=bne_eq_false_iff_eq.mpr c3;clear c3;replace H:=oB.mp H;obtain ⟨t374,A40,H⟩:=H;replace H:(some t374)=some r:=H;have A4:=aM A40;clear A40;obtain rfl:=Option.some.inj H
  go_enter Try.func30,Try.ntmps30
  go_wp2_with (first | ((with_reducible refine gate_dst (N:=2) rfl ?_);refine box_event ?hg (N:=2) ?hd (cs:=#[.int .i64 a0_0,.slice A0_1 l0_1.length c0_1]) (t:=41) ?hr ?_;(case hd=>rfl);(case hg=>rfl);(case hr=>exact za_);intro gb372 hg w5 hbox hb;have n_:=z (below_step zb_ hb)<|z (hbox)<|z ((by rw [hg];exact (below_size zb_):w.heap.size≤gb372))<|z1 ((by rw [hg];exact (below_size zb_):w.heap.size≤gb372));clear HB;obtain ⟨HB,BK372,GW372,GE372⟩:=n_;clear hb hbox hg)|((with_reducible refine gate_dst (N:=3) rfl ?_);refine box_event ?hg (N:=3) ?hd (cs:=#[.int .i64 a1_0,.slice A1_1 l1_1.length c1_1]) (t:=41) ?hr ?_;(case hd=>rfl);(case hg=>rfl);(case hr=>exact za_);intro gb373 hg w6 hbox hb;have n_:=z (blk_below (zb BK372.out) hb)<|z (below_step zhe_ hb)<|z (hbox)<|z ((by rw [hg];exact (below_size zhe_):w.heap.size≤gb373))<|z ((by rw [hg];exact (below_size zhe_):w.heap.size≤gb373))<|z ((by rw [hg];exact Nat.ne_of_lt (blk_lt (zb BK372.out)):gb372≠gb373))<|z1 ((by rw [hg];exact Nat.ne_of_gt (blk_lt (zb BK372.out)):gb373≠gb372));clear BK372 HB;obtain ⟨BK372,HB,BK373,GW373,GE373,NB372_373,NB373_372⟩:=n_;clear hb hbox hg;have hnb7:=NB372_373.out;have hnc7:=NB373_372.out;obtain ⟨hcz8_0,hcz8_1,hfz8_0,hfz8_1⟩:=zk2 BK372.out;obtain ⟨hcz9_0,hcz9_1,hfz9_0,hfz9_1⟩:=zk2 BK373.out)|(go_at_call 26;(with_reducible refine (laws_sameInts.calls k _ _ l0_1 _ _ l1_1 t374 _ ?side1 ?side2 ?side3 ?side4 A4.out).mono ?_);(case side1=>exact zj_);(case side2=>exact HC0_1.out);(case side3=>repeat (first | exact (Kd.C_below HR1_1.out HB.out)|(with_reducible refine cA ?_ _)|(with_reducible refine cN ?_ _)|(with_reducible refine cD ?_)));(case side4=>exact HC1_1.out);rintro e w' ⟨rfl,⟨nd,rfl⟩⟩))
  go_ret
  exact ⟨zg_,by repeat (first | (with_reducible first | exact HB.out | apply pA | apply pN | apply p1 | refine below_set ?_ GE372.out | refine below_set ?_ GE373.out) | exact HB.out)⟩
 ·rw [if_neg c3] at H
  have c3b0:=beq_eq_false_iff_ne.mpr c3;have c3b1:=bne_iff_ne.mpr c3;obtain rfl:=Option.some.inj H
  go_enter Try.func30,Try.ntmps30
  go_wp2_with (first | ((with_reducible refine gate_dst (N:=2) rfl ?_);refine box_event ?hg (N:=2) ?hd (cs:=#[.int .i64 a0_0,.slice A0_1 l0_1.length c0_1]) (t:=41) ?hr ?_;(case hd=>rfl);(case hg=>rfl);(case hr=>exact za_);intro gb372 hg w10 hbox hb;have n_:=z (below_step zb_ hb)<|z (hbox)<|z ((by rw [hg];exact (below_size zb_):w.heap.size≤gb372))<|z1 ((by rw [hg];exact (below_size zb_):w.heap.size≤gb372));clear HB;obtain ⟨HB,BK372,GW372,GE372⟩:=n_;clear hb hbox hg)|((with_reducible refine gate_dst (N:=3) rfl ?_);refine box_event ?hg (N:=3) ?hd (cs:=#[.int .i64 a1_0,.slice A1_1 l1_1.length c1_1]) (t:=41) ?hr ?_;(case hd=>rfl);(case hg=>rfl);(case hr=>exact za_);intro gb373 hg w11 hbox hb;have n_:=z (blk_below (zb BK372.out) hb)<|z (below_step zhe_ hb)<|z (hbox)<|z ((by rw [hg];exact (below_size zhe_):w.heap.size≤gb373))<|z ((by rw [hg];exact (below_size zhe_):w.heap.size≤gb373))<|z ((by rw [hg];exact Nat.ne_of_lt (blk_lt (zb BK372.out)):gb372≠gb373))<|z1 ((by rw [hg];exact Nat.ne_of_gt (blk_lt (zb BK372.out)):gb373≠gb372));clear BK372 HB;obtain ⟨BK372,HB,BK373,GW373,GE373,NB372_373,NB373_372⟩:=n_;clear hb hbox hg;have hnb12:=NB372_373.out;have hnc12:=NB373_372.out;obtain ⟨hcz13_0,hcz13_1,hfz13_0,hfz13_1⟩:=zk2 BK372.out;obtain ⟨hcz14_0,hcz14_1,hfz14_0,hfz14_1⟩:=zk2 BK373.out))
  go_ret
  exact ⟨zg_,by repeat (first | (with_reducible first | exact HB.out | apply pA | apply pN | apply p1 | refine below_set ?_ GE372.out | refine below_set ?_ GE373.out) | exact HB.out)⟩
end Go.Proofs.Ytlnhpkjioppbiaa.QFnDiagramOrders
