/- Functions of FnTables, each as a Lean function, with the proof that the Go code comes to its answers. -/
import Derived.Test.YtlnhpkjioppbiaaDoorSFnTablesx0
namespace Go.Proofs.YtlnhpkjioppbiaaDoor.QFnTables
open Go.RowKit Go.Proofs.YtlnhpkjioppbiaaDoorW.PrintWords Go.Proofs.YtlnhpkjioppbiaaDoorW.PrintLast Go.Proofs.YtlnhpkjioppbiaaDoorW.PrintMore
open Go.Proofs.YtlnhpkjioppbiaaDoorW.PrintWords renaming pw_below_drewN→pN,below_drew1→p1,below_alloc→pA
open Go.Proofs.YtlnhpkjioppbiaaDoorW.PrintWords.Kd renaming R_alloc→kA,R_drewN→kN,R_drew→kD,Q_alloc→qA,Q_drewN→qN,Q_drew→qD,C_alloc→cA,C_drewN→cN,C_drew→cD
open Go.Proofs.YtlnhpkjioppbiaaDoorW.PrintWords.Aside0 renaming mk→aM
open List renaming setIfInBounds_toArray→sI,set_cons_zero→s0,set_cons_succ→sS,map_toArray→mT,length_take→lT,length_drop→lD,map_cons→mC,map_nil→mN
open Option renaming bind_eq_some_iff→oB,bind_some→oS
attribute [local go_sem] max2_int min2_int max_two min_two max_three min_three max_four min_four
set_option maxHeartbeats 8000000
set_option maxRecDepth 100000
set_option linter.unusedVariables false
set_option linter.unusedSimpArgs false
def impl_areBits.l0:Nat→List Int→Int→Int→Option (Bool)
 | 0,_,_,_=>none
 | k+1,x5,x6,x7=>if x7<x6 then (if 0≤x7 then (if x7<(x5.length:Int) then (if (rd x5 x7)=0 then (impl_areBits.l0 k x5 x6 (wrap64 (x7+1))) else (if (rd x5 x7)=1 then (impl_areBits.l0 k x5 x6 (wrap64 (x7+1))) else (some false))) else (none)) else (none)) else (some true)
def impl_areBits.f (k:Nat) (l0:List Int):Option (Bool):=impl_areBits.l0 k l0 (l0.length:Int) 0
theorem impl_areBits.calls (k:Nat) (A0:Option Addr) (c0:Nat) (l0:List Int) (r:Bool) (w:World) (hr0:Kd.C (Kd.int .i64) w A0 l0.length l0) (hc0:l0.length≤c0) (h:impl_areBits.f k l0=some r) :
  Calls Tryd.prog 52 #[.slice A0 l0.length c0] w fun e w'=>e = .returned (.bool r)∧Drawn0 w w':=by
 have HR0:=aM hr0
 have HC0:=aM hc0
 clear hr0 hc0
 have H:(impl_areBits.l0 k l0 (l0.length:Int) 0)=some r:=h
 clear h
 have H':=aM H
 clear H
 go_enter Tryd.func52,Tryd.ntmps52
 go_wp2
 go_loopg [7] k (fun kq v7 w' => ∃ (x7_1:Int),v7 = .int .i64 x7_1∧Aside0 (impl_areBits.l0 kq l0 (l0.length:Int) x7_1=some r)∧Aside0 (kq≤k)∧Drawn0 w w')
 case atStart=>exact ⟨(0),zc_,H',⟨Nat.le_refl _⟩,zj_⟩
 case round =>
  clear H';obtain ⟨x7_1,rfl,HA,HK1,⟨m1,rfl⟩⟩:=hrel
  cases gk with
  | zero=>exact absurd HA.out (by simp [impl_areBits.l0])
  | succ k1 =>
   have H:=HA.out;clear HA
   simp only [impl_areBits.l0] at H
   by_cases c2:x7_1<(l0.length:Int)
   ·rw [if_pos c2] at H
    have c2b0:=decide_eq_true c2;clear c2
    by_cases c3:0≤x7_1
    ·rw [if_pos c3] at H
     have c3b0:=decide_eq_true c3;clear c3
     by_cases c4:x7_1<(l0.length:Int)
     ·rw [if_pos c4] at H
      have c4b0:=decide_eq_true c4;clear c4
      by_cases c5:(rd l0 x7_1)=0
      ·rw [if_pos c5] at H
       have c5b0:=beq_iff_eq.mpr c5;have c5b1:=bne_eq_false_iff_eq.mpr c5;clear c5;have H':=aM H;clear H;have p101:0≤(x7_1:Int):=of_decide_eq_true zd_;have q101:x7_1<(l0.length:Int):=of_decide_eq_true zd_;obtain ⟨ad101,e101,hx101_0⟩:=Kd.at_int HR0.out x7_1 p101 q101
       cases e101
       replace p101:=eq_true p101;replace q101:=eq_true q101
       go_wp2
       go_roundg k1
       case measure=>have:=HK1.out;omega
       case rel=>exact ⟨(wrap64 (x7_1+1)),zc_,H',⟨zcc_⟩,zj_⟩
      ·rw [if_neg c5] at H
       have c5b0:=beq_eq_false_iff_ne.mpr c5;have c5b1:=bne_iff_ne.mpr c5
       by_cases c6:(rd l0 x7_1)=1
       ·rw [if_pos c6] at H
        have c6b0:=beq_iff_eq.mpr c6;have c6b1:=bne_eq_false_iff_eq.mpr c6;clear c6;have H':=aM H;clear H;have p101:0≤(x7_1:Int):=of_decide_eq_true zd_;have q101:x7_1<(l0.length:Int):=of_decide_eq_true zd_;obtain ⟨ad101,e101,hx101_0⟩:=Kd.at_int HR0.out x7_1 p101 q101
        cases e101
        replace p101:=eq_true p101;replace q101:=eq_true q101
        go_wp2
        go_roundg k1
        case measure=>have:=HK1.out;omega
        case rel=>exact ⟨(wrap64 (x7_1+1)),zc_,H',⟨zcc_⟩,zj_⟩
       ·rw [if_neg c6] at H
        have c6b0:=beq_eq_false_iff_ne.mpr c6;have c6b1:=bne_iff_ne.mpr c6;obtain rfl:=Option.some.inj H;have p101:0≤(x7_1:Int):=of_decide_eq_true zd_;have q101:x7_1<(l0.length:Int):=of_decide_eq_true zd_;obtain ⟨ad101,e101,hx101_0⟩:=Kd.at_int HR0.out x7_1 p101 q101
        cases e101
        replace p101:=eq_true p101;replace q101:=eq_true q101
        go_wp2
        go_ret
        exact ⟨zc_,zj_⟩
     ·rw [if_neg c4] at H
      exact q3n_ H
    ·rw [if_neg c3] at H
     exact q3n_ H
   ·rw [if_neg c2] at H
    have c2b0:=decide_eq_false c2;clear c2;obtain rfl:=Option.some.inj H
    go_wp2
    go_ret
    exact ⟨zc_,zj_⟩
def impl_IsTable.f (k:Nat) (a0_0:Int) (l0_1:List Int):Option (Bool):=if a0_0≥0 then (if a0_0≤4 then (if 0≤a0_0 then (if (l0_1.length:Int)=(shl .i64 1 a0_0) then ((impl_areBits.f k l0_1).bind fun t103=>(some t103)) else (some false)) else (none)) else (some false)) else (some false)
theorem impl_IsTable.calls (k:Nat) (a0_0:Int) (A0_1:Option Addr) (c0_1:Nat) (l0_1:List Int) (r:Bool) (w:World) (hr0_1:Kd.C (Kd.int .i64) w A0_1 l0_1.length l0_1) (hc0_1:l0_1.length≤c0_1) (h:impl_IsTable.f k a0_0 l0_1=some r) :
  Calls Tryd.prog 10 #[.agg #[.int .i64 a0_0,.slice A0_1 l0_1.length c0_1]] w fun e w'=>e = .returned (.bool r)∧Below w.heap.size w w':=by
 have hu26:=Tryd.underlying26
 have HR0_1:=aM hr0_1
 have HC0_1:=aM hc0_1
 clear hr0_1 hc0_1
 have HB:=aM (Below.refl w.heap.size w)
 have H:(if a0_0≥0 then (if a0_0≤4 then (if 0≤a0_0 then (if (l0_1.length:Int)=(shl .i64 1 a0_0) then ((impl_areBits.f k l0_1).bind fun t103=>(some t103)) else (some false)) else (none)) else (some false)) else (some false))=some r:=h
 clear h
 by_cases c2:a0_0≥0
 ·rw [if_pos c2] at H
  have c2b0:decide (0≤a0_0)=true:=decide_eq_true c2;clear c2
  by_cases c3:a0_0≤4
  ·rw [if_pos c3] at H
   have c3b0:=decide_eq_true c3;clear c3
   by_cases c4:0≤a0_0
   ·rw [if_pos c4] at H
    have c4b0:=eq_true c4;have c4b1:=decide_eq_true c4;clear c4;obtain ⟨ji5,hji5⟩:∃ j_:Int,(shl .i64 1 a0_0)=j_:=⟨_,rfl⟩;replace H:(if (l0_1.length:Int)=(ji5) then ((impl_areBits.f k l0_1).bind fun t103=>(some t103)) else (some false))=some r:=by first | (rw [hji5] at H;exact H)|(simp only [hji5] at H ⊢;exact H)
    have hji5_:(IntKind.i64.wrap (1 * 2 ^ min a0_0.toNat 64))=ji5:=hji5;have hji5z:a0_0≤64→(IntKind.i64.wrap (1 * 2 ^ a0_0.toNat))=ji5:=shl_small hji5;have hji5u:(IntKind.i64.wrap (2 ^ min a0_0.toNat 64))=ji5:=by have h_:=hji5_;rw [Int.one_mul] at h_;exact h_
    have hji5v:a0_0≤64→(IntKind.i64.wrap (2 ^ a0_0.toNat))=ji5:=fun hle_=>by have h_:=hji5z hle_;rw [Int.one_mul] at h_;exact h_
    have hji5y:(wrap64 (1 * 2 ^ min a0_0.toNat 64))=ji5:=(i64_w _).symm.trans hji5_;have hji5x:a0_0≤64→(wrap64 (1 * 2 ^ a0_0.toNat))=ji5:=fun h_=>(i64_w _).symm.trans (hji5z h_)
    by_cases c6:(l0_1.length:Int)=(ji5)
    ·rw [if_pos c6] at H
     have c6b0:=beq_iff_eq.mpr c6;have c6b1:=bne_eq_false_iff_eq.mpr c6;clear c6;replace H:=oB.mp H;obtain ⟨t103,A70,H⟩:=H;replace H:(some t103)=some r:=H;have A7:=aM A70;clear A70;obtain rfl:=Option.some.inj H
     go_enter Tryd.func10,Tryd.ntmps10
     go_wp2_with (first | ((with_reducible refine gate_dst (N:=1) rfl ?_);(try (refine gate_guard (by rfl) ?_;dsimp only));refine box_event ?hg (N:=1) ?hd (cs:=#[.int .i64 a0_0,.slice A0_1 l0_1.length c0_1]) (t:=26) ?hr ?_;(case hd=>rfl);(case hg=>rfl);(case hr=>exact zb_);intro gb102 hg w8 hbox hb;have n_:=z (below_step za_ hb)<|z (hbox)<|z ((by rw [hg];exact (below_size za_):w.heap.size≤gb102))<|z1 ((by rw [hg];exact (below_size za_):w.heap.size≤gb102));clear HB;obtain ⟨HB,BK102,GW102,GE102⟩:=n_;clear hb hbox hg;obtain ⟨hcz9_0,hcz9_1,hfz9_0,hfz9_1⟩:=zk2 BK102.out)|(go_at_call 52;(with_reducible refine (impl_areBits.calls k _ _ l0_1 t103 _ ?side1 ?side2 A7.out).mono ?_);(case side1=>exact zbc_);(case side2=>exact HC0_1.out);rintro e w' ⟨rfl,⟨nd,rfl⟩⟩;(try exact q3d_)))
     repeat (go_quiet (first | ((with_reducible refine gate_dst (N:=1) rfl ?_);(try (refine gate_guard (by rfl) ?_;dsimp only));refine box_event ?hg (N:=1) ?hd (cs:=#[.int .i64 a0_0,.slice A0_1 l0_1.length c0_1]) (t:=26) ?hr ?_;(case hd=>rfl);(case hg=>rfl);(case hr=>exact zb_);intro gb102 hg w8 hbox hb;have n_:=z (below_step za_ hb)<|z (hbox)<|z ((by rw [hg];exact (below_size za_):w.heap.size≤gb102))<|z1 ((by rw [hg];exact (below_size za_):w.heap.size≤gb102));clear HB;obtain ⟨HB,BK102,GW102,GE102⟩:=n_;clear hb hbox hg;obtain ⟨hcz9_0,hcz9_1,hfz9_0,hfz9_1⟩:=zk2 BK102.out)|(go_at_call 52;(with_reducible refine (impl_areBits.calls k _ _ l0_1 t103 _ ?side1 ?side2 A7.out).mono ?_);(case side1=>exact zbc_);(case side2=>exact HC0_1.out);rintro e w' ⟨rfl,⟨nd,rfl⟩⟩;(try exact q3d_)));try go_wp2_with (first | ((with_reducible refine gate_dst (N:=1) rfl ?_);(try (refine gate_guard (by rfl) ?_;dsimp only));refine box_event ?hg (N:=1) ?hd (cs:=#[.int .i64 a0_0,.slice A0_1 l0_1.length c0_1]) (t:=26) ?hr ?_;(case hd=>rfl);(case hg=>rfl);(case hr=>exact zb_);intro gb102 hg w8 hbox hb;have n_:=z (below_step za_ hb)<|z (hbox)<|z ((by rw [hg];exact (below_size za_):w.heap.size≤gb102))<|z1 ((by rw [hg];exact (below_size za_):w.heap.size≤gb102));clear HB;obtain ⟨HB,BK102,GW102,GE102⟩:=n_;clear hb hbox hg;obtain ⟨hcz9_0,hcz9_1,hfz9_0,hfz9_1⟩:=zk2 BK102.out)|(go_at_call 52;(with_reducible refine (impl_areBits.calls k _ _ l0_1 t103 _ ?side1 ?side2 A7.out).mono ?_);(case side1=>exact zbc_);(case side2=>exact HC0_1.out);rintro e w' ⟨rfl,⟨nd,rfl⟩⟩;(try exact q3d_))))
     go_ret
     exact ⟨by first | rfl | (simp [errW_none,errW_some] <;> rfl)|(simp only [← hji5];first | rfl | (simp [errW_none,errW_some] <;> rfl))|(simp [*,errW_none,errW_some] <;> rfl),zje_⟩
    ·rw [if_neg c6] at H
     have c6b0:=beq_eq_false_iff_ne.mpr c6;have c6b1:=bne_iff_ne.mpr c6;obtain rfl:=Option.some.inj H
     go_enter Tryd.func10,Tryd.ntmps10
     go_wp2_with (first | ((with_reducible refine gate_dst (N:=1) rfl ?_);(try (refine gate_guard (by rfl) ?_;dsimp only));refine box_event ?hg (N:=1) ?hd (cs:=#[.int .i64 a0_0,.slice A0_1 l0_1.length c0_1]) (t:=26) ?hr ?_;(case hd=>rfl);(case hg=>rfl);(case hr=>exact zb_);intro gb102 hg w10 hbox hb;have n_:=z (below_step za_ hb)<|z (hbox)<|z ((by rw [hg];exact (below_size za_):w.heap.size≤gb102))<|z1 ((by rw [hg];exact (below_size za_):w.heap.size≤gb102));clear HB;obtain ⟨HB,BK102,GW102,GE102⟩:=n_;clear hb hbox hg;obtain ⟨hcz11_0,hcz11_1,hfz11_0,hfz11_1⟩:=zk2 BK102.out))
     repeat (go_quiet (first | ((with_reducible refine gate_dst (N:=1) rfl ?_);(try (refine gate_guard (by rfl) ?_;dsimp only));refine box_event ?hg (N:=1) ?hd (cs:=#[.int .i64 a0_0,.slice A0_1 l0_1.length c0_1]) (t:=26) ?hr ?_;(case hd=>rfl);(case hg=>rfl);(case hr=>exact zb_);intro gb102 hg w10 hbox hb;have n_:=z (below_step za_ hb)<|z (hbox)<|z ((by rw [hg];exact (below_size za_):w.heap.size≤gb102))<|z1 ((by rw [hg];exact (below_size za_):w.heap.size≤gb102));clear HB;obtain ⟨HB,BK102,GW102,GE102⟩:=n_;clear hb hbox hg;obtain ⟨hcz11_0,hcz11_1,hfz11_0,hfz11_1⟩:=zk2 BK102.out));try go_wp2_with (first | ((with_reducible refine gate_dst (N:=1) rfl ?_);(try (refine gate_guard (by rfl) ?_;dsimp only));refine box_event ?hg (N:=1) ?hd (cs:=#[.int .i64 a0_0,.slice A0_1 l0_1.length c0_1]) (t:=26) ?hr ?_;(case hd=>rfl);(case hg=>rfl);(case hr=>exact zb_);intro gb102 hg w10 hbox hb;have n_:=z (below_step za_ hb)<|z (hbox)<|z ((by rw [hg];exact (below_size za_):w.heap.size≤gb102))<|z1 ((by rw [hg];exact (below_size za_):w.heap.size≤gb102));clear HB;obtain ⟨HB,BK102,GW102,GE102⟩:=n_;clear hb hbox hg;obtain ⟨hcz11_0,hcz11_1,hfz11_0,hfz11_1⟩:=zk2 BK102.out)))
     go_ret
     exact ⟨by first | rfl | (simp [errW_none,errW_some] <;> rfl)|(simp only [← hji5];first | rfl | (simp [errW_none,errW_some] <;> rfl))|(simp [*,errW_none,errW_some] <;> rfl),zje_⟩
   ·rw [if_neg c4] at H
    exact q3n_ H
  ·rw [if_neg c3] at H
   have c3b0:=decide_eq_false c3;clear c3;obtain rfl:=Option.some.inj H
   go_enter Tryd.func10,Tryd.ntmps10
   go_wp2_with (first | ((with_reducible refine gate_dst (N:=1) rfl ?_);(try (refine gate_guard (by rfl) ?_;dsimp only));refine box_event ?hg (N:=1) ?hd (cs:=#[.int .i64 a0_0,.slice A0_1 l0_1.length c0_1]) (t:=26) ?hr ?_;(case hd=>rfl);(case hg=>rfl);(case hr=>exact zb_);intro gb102 hg w12 hbox hb;have n_:=z (below_step za_ hb)<|z (hbox)<|z ((by rw [hg];exact (below_size za_):w.heap.size≤gb102))<|z1 ((by rw [hg];exact (below_size za_):w.heap.size≤gb102));clear HB;obtain ⟨HB,BK102,GW102,GE102⟩:=n_;clear hb hbox hg;obtain ⟨hcz13_0,hcz13_1,hfz13_0,hfz13_1⟩:=zk2 BK102.out))
   repeat (go_quiet (first | ((with_reducible refine gate_dst (N:=1) rfl ?_);(try (refine gate_guard (by rfl) ?_;dsimp only));refine box_event ?hg (N:=1) ?hd (cs:=#[.int .i64 a0_0,.slice A0_1 l0_1.length c0_1]) (t:=26) ?hr ?_;(case hd=>rfl);(case hg=>rfl);(case hr=>exact zb_);intro gb102 hg w12 hbox hb;have n_:=z (below_step za_ hb)<|z (hbox)<|z ((by rw [hg];exact (below_size za_):w.heap.size≤gb102))<|z1 ((by rw [hg];exact (below_size za_):w.heap.size≤gb102));clear HB;obtain ⟨HB,BK102,GW102,GE102⟩:=n_;clear hb hbox hg;obtain ⟨hcz13_0,hcz13_1,hfz13_0,hfz13_1⟩:=zk2 BK102.out));try go_wp2_with (first | ((with_reducible refine gate_dst (N:=1) rfl ?_);(try (refine gate_guard (by rfl) ?_;dsimp only));refine box_event ?hg (N:=1) ?hd (cs:=#[.int .i64 a0_0,.slice A0_1 l0_1.length c0_1]) (t:=26) ?hr ?_;(case hd=>rfl);(case hg=>rfl);(case hr=>exact zb_);intro gb102 hg w12 hbox hb;have n_:=z (below_step za_ hb)<|z (hbox)<|z ((by rw [hg];exact (below_size za_):w.heap.size≤gb102))<|z1 ((by rw [hg];exact (below_size za_):w.heap.size≤gb102));clear HB;obtain ⟨HB,BK102,GW102,GE102⟩:=n_;clear hb hbox hg;obtain ⟨hcz13_0,hcz13_1,hfz13_0,hfz13_1⟩:=zk2 BK102.out)))
   go_ret
   exact ⟨zh_,zje_⟩
 ·rw [if_neg c2] at H
  have c2b0:decide (0≤a0_0)=false:=decide_eq_false c2;clear c2;obtain rfl:=Option.some.inj H
  go_enter Tryd.func10,Tryd.ntmps10
  go_wp2_with (first | ((with_reducible refine gate_dst (N:=1) rfl ?_);(try (refine gate_guard (by rfl) ?_;dsimp only));refine box_event ?hg (N:=1) ?hd (cs:=#[.int .i64 a0_0,.slice A0_1 l0_1.length c0_1]) (t:=26) ?hr ?_;(case hd=>rfl);(case hg=>rfl);(case hr=>exact zb_);intro gb102 hg w14 hbox hb;have n_:=z (below_step za_ hb)<|z (hbox)<|z ((by rw [hg];exact (below_size za_):w.heap.size≤gb102))<|z1 ((by rw [hg];exact (below_size za_):w.heap.size≤gb102));clear HB;obtain ⟨HB,BK102,GW102,GE102⟩:=n_;clear hb hbox hg;obtain ⟨hcz15_0,hcz15_1,hfz15_0,hfz15_1⟩:=zk2 BK102.out))
  repeat (go_quiet (first | ((with_reducible refine gate_dst (N:=1) rfl ?_);(try (refine gate_guard (by rfl) ?_;dsimp only));refine box_event ?hg (N:=1) ?hd (cs:=#[.int .i64 a0_0,.slice A0_1 l0_1.length c0_1]) (t:=26) ?hr ?_;(case hd=>rfl);(case hg=>rfl);(case hr=>exact zb_);intro gb102 hg w14 hbox hb;have n_:=z (below_step za_ hb)<|z (hbox)<|z ((by rw [hg];exact (below_size za_):w.heap.size≤gb102))<|z1 ((by rw [hg];exact (below_size za_):w.heap.size≤gb102));clear HB;obtain ⟨HB,BK102,GW102,GE102⟩:=n_;clear hb hbox hg;obtain ⟨hcz15_0,hcz15_1,hfz15_0,hfz15_1⟩:=zk2 BK102.out));try go_wp2_with (first | ((with_reducible refine gate_dst (N:=1) rfl ?_);(try (refine gate_guard (by rfl) ?_;dsimp only));refine box_event ?hg (N:=1) ?hd (cs:=#[.int .i64 a0_0,.slice A0_1 l0_1.length c0_1]) (t:=26) ?hr ?_;(case hd=>rfl);(case hg=>rfl);(case hr=>exact zb_);intro gb102 hg w14 hbox hb;have n_:=z (below_step za_ hb)<|z (hbox)<|z ((by rw [hg];exact (below_size za_):w.heap.size≤gb102))<|z1 ((by rw [hg];exact (below_size za_):w.heap.size≤gb102));clear HB;obtain ⟨HB,BK102,GW102,GE102⟩:=n_;clear hb hbox hg;obtain ⟨hcz15_0,hcz15_1,hfz15_0,hfz15_1⟩:=zk2 BK102.out)))
  go_ret
  exact ⟨zh_,zje_⟩
def IsS66 (w0 W:World) (g:Nat) (f0:List Int) (f1:Int) (f2:Int):Prop:=∃ A0 c0,W.heap[g]?=some (.cells #[.slice A0 f0.length c0,.int .i64 f1,.int .u64 f2] 66 (0,0))∧w0.heap.size≤g∧Kd.C (Kd.int .u8) w0 A0 f0.length f0
theorem IsS66.grown {w0 W:World} {g:Nat} {f0:List Int} {f1:Int} {f2:Int} {W1:World} {row:Option Nat} (h:IsS66 w0 W g f0 f1 f2) (hw:W.grownBy W1 row) (hne:some g≠row):IsS66 w0 W1 g f0 f1 f2:=by
 obtain ⟨A0,c0,hb,hg,hr0⟩:=h
 exact ⟨A0,c0,blk_grown hb hw hne,hg,hr0⟩
theorem IsS66.own_neN {w0 W:World} {g:Nat} {f0:List Int} {f1:Int} {f2:Int} {α:Type} {d:Kd α} {e:Nat} {base:Nat} {ok:Nat→Prop} {v:Value} {xs:List α} (h:IsS66 w0 W g f0 f1 f2) (ho:Kd.N d e W base ok v xs) (ht:e≠66):some g≠v.ownBlock:=by
 obtain ⟨A0,c0,hb,hg,hr0⟩:=h
 exact Kd.N_ne ho hb ht
theorem IsS66.fresh {w0 W:World} {g:Nat} {f0:List Int} {f1:Int} {f2:Int} (h:IsS66 w0 W g f0 f1 f2):∀ k,W.heap.size≤k→k≠g:=by
 obtain ⟨A0,c0,hb,hg,hr0⟩:=h
 exact Kd.freshB hb
theorem IsS66.kept {w0 W:World} {g:Nat} {f0:List Int} {f1:Int} {f2:Int} {W1:World} {S:Nat→Prop} (h:IsS66 w0 W g f0 f1 f2) (hk:Kept W W1 S) (hne:¬ S g):IsS66 w0 W1 g f0 f1 f2:=by
 obtain ⟨A0,c0,hb,hg,hr0⟩:=h
 exact ⟨A0,c0,blk_kept hb hk hne,hg,hr0⟩
theorem IsS66.below {w0 W:World} {g:Nat} {f0:List Int} {f1:Int} {f2:Int} {W1:World} (h:IsS66 w0 W g f0 f1 f2) (hw:Below W.heap.size W W1):IsS66 w0 W1 g f0 f1 f2:=h.grown (grown_of_below hw none) (by simp)
theorem IsS66.alloc {w0 W:World} {g:Nat} {f0:List Int} {f1:Int} {f2:Int} (h:IsS66 w0 W g f0 f1 f2) (o:Obj):IsS66 w0 (W.alloc o) g f0 f1 f2:=h.below (pA (Below.refl _ _) o)
theorem IsS66.drewN {w0 W:World} {g:Nat} {f0:List Int} {f1:Int} {f2:Int} (h:IsS66 w0 W g f0 f1 f2) (m:Nat):IsS66 w0 (W.drewN m) g f0 f1 f2:=h
theorem IsS66.drew {w0 W:World} {g:Nat} {f0:List Int} {f1:Int} {f2:Int} (h:IsS66 w0 W g f0 f1 f2):IsS66 w0 W.drew g f0 f1 f2:=h
theorem IsS66.at_ {w0 W:World} {g:Nat} {f0:List Int} {f1:Int} {f2:Int} {w':World} {m:Nat} (hq:W.drewN m=w') (h:IsS66 w0 W g f0 f1 f2):IsS66 w0 w' g f0 f1 f2:=by subst hq;exact IsS66.drewN h m
theorem IsS66.apart {w0 W:World} {g:Nat} {f0:List Int} {f1:Int} {f2:Int} {α:Type} {d:Kd α} {e:Nat} {base:Nat} {ok:Nat→Prop} {v:Value} {xs:List α} (h:IsS66 w0 W g f0 f1 f2) (ho:d.R e W base ok v xs) (ht:∀ q,q∈e :: d.E→q≠66):d.R e W base (fun k=>ok k∧k≠g) v xs:=by
 obtain ⟨A0,c0,hb,hg,hr0⟩:=h
 exact Kd.R_types ho hb ht
theorem IsS66.own_ne {w0 W:World} {g:Nat} {f0:List Int} {f1:Int} {f2:Int} {α:Type} {d:Kd α} {e:Nat} {base:Nat} {ok:Nat→Prop} {v:Value} {xs:List α} (h:IsS66 w0 W g f0 f1 f2) (ho:d.R e W base ok v xs) (ht:e≠66):some g≠v.ownBlock:=by
 obtain ⟨A0,c0,hb,hg,hr0⟩:=h
 exact Kd.R_ne ho hb ht
theorem IsS66.apartQ {w0 W:World} {g:Nat} {f0:List Int} {f1:Int} {f2:Int} {α:Type} {d:Kd α} {e:Nat} {base:Nat} {ok:Nat→Prop} {v:Value} {xs:List α} (h:IsS66 w0 W g f0 f1 f2) (ho:d.Q e W base ok v xs) (ht:∀ q,q∈e :: d.E→q≠66):d.Q e W base (fun k=>ok k∧k≠g) v xs:=by
 obtain ⟨A0,c0,hb,hg,hr0⟩:=h
 exact Kd.Q_types ho hb ht
theorem IsS66.own_neQ {w0 W:World} {g:Nat} {f0:List Int} {f1:Int} {f2:Int} {α:Type} {d:Kd α} {e:Nat} {base:Nat} {ok:Nat→Prop} {v:Value} {xs:List α} (h:IsS66 w0 W g f0 f1 f2) (ho:d.Q e W base ok v xs) (ht:e≠66):some g≠v.ownBlock:=by
 obtain ⟨A0,c0,hb,hg,hr0⟩:=h
 exact Kd.Q_ne ho hb ht
theorem IsS66.apartS {w0 W:World} {g:Nat} {f0:List Int} {f1:Int} {f2:Int} {α:Type} {d:Kd α} {e:Nat} {base:Nat} {ok:Nat→Prop} {v:Value} {xs:List α} (h:IsS66 w0 W g f0 f1 f2) (ho:d.S e W base ok v xs) (ht:∀ q,q∈e :: d.E→q≠66):d.S e W base (fun k=>ok k∧k≠g) v xs:=by
 obtain ⟨A0,c0,hb,hg,hr0⟩:=h
 exact Kd.S_types ho hb ht
theorem IsS66.own_neS {w0 W:World} {g:Nat} {f0:List Int} {f1:Int} {f2:Int} {α:Type} {d:Kd α} {e:Nat} {base:Nat} {ok:Nat→Prop} {v:Value} {xs:List α} (h:IsS66 w0 W g f0 f1 f2) (ho:d.S e W base ok v xs) (ht:e≠66):some g≠v.ownBlock:=by
 obtain ⟨A0,c0,hb,hg,hr0⟩:=h
 exact Kd.S_ne ho hb ht
theorem IsS66.lt {w0 W:World} {g:Nat} {f0:List Int} {f1:Int} {f2:Int} (h:IsS66 w0 W g f0 f1 f2):g<W.heap.size:=by
 obtain ⟨A0,c0,hb,hg,hr0⟩:=h
 exact blk_lt hb
theorem IsS66.ge {w0 W:World} {g:Nat} {f0:List Int} {f1:Int} {f2:Int} (h:IsS66 w0 W g f0 f1 f2):w0.heap.size≤g:=by
 obtain ⟨A0,c0,hb,hg,hr0⟩:=h
 exact hg
theorem IsS66.ne_blk {w0 W:World} {g:Nat} {f0:List Int} {f1:Int} {f2:Int} {a:Nat} {cs:Array Value} {t:TypeId} {fr:Nat×Nat} (h:IsS66 w0 W g f0 f1 f2) (hb2:W.heap[a]?=some (.cells cs t fr)) (ht:t≠66):g≠a:=by
 obtain ⟨A0,c0,hb,hg,hr0⟩:=h
 rintro rfl
 rw [hb] at hb2
 injection hb2 with hb2
 injection hb2 with _ ht2
 exact ht ht2.symm
theorem IsS66.far {w0 W:World} {g:Nat} {f0:List Int} {f1:Int} {f2:Int} {p:Addr} (h:IsS66 w0 W g f0 f1 f2) (hne:g≠p.block) (u:Value):IsS66 w0 (W.setCell p u) g f0 f1 f2:=by
 obtain ⟨A0,c0,hb,hg,hr0⟩:=h
 exact ⟨A0,c0,blk_far hb hne u,hg,hr0⟩
theorem cellS66_0 {W:World} {g:Nat} {A0:Option Addr} {c0:Nat} {f0:List Int} {f1:Int} {f2:Int} (h:W.heap[g]?=some (.cells #[.slice A0 f0.length c0,.int .i64 f1,.int .u64 f2] 66 (0,0))):W.cell? ⟨g,0,none⟩=some (.slice A0 f0.length c0):=(blk_cell h 0).trans rfl
theorem cellS66_1 {W:World} {g:Nat} {A0:Option Addr} {c0:Nat} {f0:List Int} {f1:Int} {f2:Int} (h:W.heap[g]?=some (.cells #[.slice A0 f0.length c0,.int .i64 f1,.int .u64 f2] 66 (0,0))):W.cell? ⟨g,1,none⟩=some (.int .i64 f1):=(blk_cell h 1).trans rfl
theorem IsS66.set_1 {w0 W:World} {g:Nat} {f0:List Int} {f1:Int} {f2:Int} (h:IsS66 w0 W g f0 f1 f2) (x:Int):IsS66 w0 (W.setCell ⟨g,1,none⟩ (.int .i64 x)) g f0 x f2:=by
 obtain ⟨A0,c0,hb,hg,hr0⟩:=h
 exact ⟨A0,c0,by simpa using blk_set hb 1 (.int .i64 x),hg,hr0⟩
theorem cellS66_2 {W:World} {g:Nat} {A0:Option Addr} {c0:Nat} {f0:List Int} {f1:Int} {f2:Int} (h:W.heap[g]?=some (.cells #[.slice A0 f0.length c0,.int .i64 f1,.int .u64 f2] 66 (0,0))):W.cell? ⟨g,2,none⟩=some (.int .u64 f2):=(blk_cell h 2).trans rfl
theorem IsS66.set_2 {w0 W:World} {g:Nat} {f0:List Int} {f1:Int} {f2:Int} (h:IsS66 w0 W g f0 f1 f2) (x:Int):IsS66 w0 (W.setCell ⟨g,2,none⟩ (.int .u64 x)) g f0 f1 x:=by
 obtain ⟨A0,c0,hb,hg,hr0⟩:=h
 exact ⟨A0,c0,by simpa using blk_set hb 2 (.int .u64 x),hg,hr0⟩
theorem IsS66.new (w0 W:World) (A0:Option Addr) (c0:Nat) (f0:List Int) (f1:Int) (f2:Int) (hB:Below w0.heap.size w0 W) (hr0:Kd.C (Kd.int .u8) w0 A0 f0.length f0):IsS66 w0 (W.alloc (.cells #[.slice A0 f0.length c0,.int .i64 f1,.int .u64 f2] 66)) W.heap.size f0 f1 f2:=⟨A0,c0,by simpa using heap_alloc_new W _,hB.size,hr0⟩
def spec_l1Cur_next.f (s0_0:List Int) (s0_1:Int) (s0_2:Int):Option (Int×Int×Int):=if s0_1<(s0_0.length:Int) then (if 0≤s0_1 then (if (wrap64 (s0_1+1))≤(s0_0.length:Int) then (some (wrap64 (rd s0_0 s0_1),wrap64 (s0_1+1),IntKind.u64.wrap ((IntKind.u64.wrap ((IntKind.u64.wrap (s0_2 * 6364136223846793005))+(IntKind.u64.wrap (wrap64 (rd s0_0 s0_1)))))+1442695040888963407))) else (some (wrap64 (Go.bits .and .u64 ((IntKind.u64.wrap ((IntKind.u64.wrap ((IntKind.u64.wrap (s0_2 * 6364136223846793005))+(IntKind.u64.wrap (wrap64 (rd s0_0 s0_1)))))+1442695040888963407)) / 1099511627776) 255),wrap64 (s0_1+1),IntKind.u64.wrap ((IntKind.u64.wrap ((IntKind.u64.wrap (s0_2 * 6364136223846793005))+(IntKind.u64.wrap (wrap64 (rd s0_0 s0_1)))))+1442695040888963407)))) else (none)) else (if (wrap64 (s0_1+1))≤(s0_0.length:Int) then (some (0,wrap64 (s0_1+1),IntKind.u64.wrap ((IntKind.u64.wrap (IntKind.u64.wrap (s0_2 * 6364136223846793005)))+1442695040888963407))) else (some (wrap64 (Go.bits .and .u64 ((IntKind.u64.wrap ((IntKind.u64.wrap (IntKind.u64.wrap (s0_2 * 6364136223846793005)))+1442695040888963407)) / 1099511627776) 255),wrap64 (s0_1+1),IntKind.u64.wrap ((IntKind.u64.wrap (IntKind.u64.wrap (s0_2 * 6364136223846793005)))+1442695040888963407))))
theorem spec_l1Cur_next.calls (g:Nat) (s0_0:List Int) (s0_1:Int) (s0_2:Int) (r1:Int) (r2:Int) (r3:Int) (w0 w:World) (hI:IsS66 w0 w g s0_0 s0_1 s0_2) (hB:Below w0.heap.size w0 w) (h:spec_l1Cur_next.f s0_0 s0_1 s0_2=some (r1,r2,r3)) :
  Calls Tryd.prog 89 #[.pointer (some ⟨g,0,none⟩)] w fun e w'=>e = .returned (.int .i64 r1)∧IsS66 w0 w' g s0_0 r2 r3∧Below w0.heap.size w0 w'∧KeepBut w w' g none:=by
 have HI0:=aM hI
 have HK:=aM (KeepBut.refl w g none)
 have HL:=aM hB.size
 clear hI
 have HW0:=aM hB.size
 have HB:=aM hB
 clear hB
 have H:(if s0_1<(s0_0.length:Int) then (if 0≤s0_1 then (if (wrap64 (s0_1+1))≤(s0_0.length:Int) then (some (wrap64 (rd s0_0 s0_1),wrap64 (s0_1+1),IntKind.u64.wrap ((IntKind.u64.wrap ((IntKind.u64.wrap (s0_2 * 6364136223846793005))+(IntKind.u64.wrap (wrap64 (rd s0_0 s0_1)))))+1442695040888963407))) else (some (wrap64 (Go.bits .and .u64 ((IntKind.u64.wrap ((IntKind.u64.wrap ((IntKind.u64.wrap (s0_2 * 6364136223846793005))+(IntKind.u64.wrap (wrap64 (rd s0_0 s0_1)))))+1442695040888963407)) / 1099511627776) 255),wrap64 (s0_1+1),IntKind.u64.wrap ((IntKind.u64.wrap ((IntKind.u64.wrap (s0_2 * 6364136223846793005))+(IntKind.u64.wrap (wrap64 (rd s0_0 s0_1)))))+1442695040888963407)))) else (none)) else (if (wrap64 (s0_1+1))≤(s0_0.length:Int) then (some (0,wrap64 (s0_1+1),IntKind.u64.wrap ((IntKind.u64.wrap (IntKind.u64.wrap (s0_2 * 6364136223846793005)))+1442695040888963407))) else (some (wrap64 (Go.bits .and .u64 ((IntKind.u64.wrap ((IntKind.u64.wrap (IntKind.u64.wrap (s0_2 * 6364136223846793005)))+1442695040888963407)) / 1099511627776) 255),wrap64 (s0_1+1),IntKind.u64.wrap ((IntKind.u64.wrap (IntKind.u64.wrap (s0_2 * 6364136223846793005)))+1442695040888963407)))))=some (r1,r2,r3):=h
 clear h
 by_cases c2:s0_1<(s0_0.length:Int)
 ·rw [if_pos c2] at H
  have c2b0:=decide_eq_true c2;clear c2
  by_cases c3:0≤s0_1
  ·rw [if_pos c3] at H
   have c3b0:=decide_eq_true c3;clear c3
   by_cases c4:(wrap64 (s0_1+1))≤(s0_0.length:Int)
   ·rw [if_pos c4] at H
    have c4b0:=decide_eq_true c4;clear c4
    simp only [Option.some.injEq,Prod.mk.injEq] at H
    obtain ⟨rfl,rfl,rfl⟩:=H;obtain ⟨ASz5_0,cSz5_0,HGz5,hgz5,HSz5_0⟩:=HI0.out;have hcz5_0:=cellS66_0 HGz5;have hcz5_1:=cellS66_1 HGz5;have hcz5_2:=cellS66_2 HGz5;have hfz5_1:=blk_frozen HGz5 1;have hfz5_2:=blk_frozen HGz5 2;clear HGz5 hgz5;have p104:0≤(s0_1:Int):=of_decide_eq_true zd_;have q104:s0_1<(s0_0.length:Int):=of_decide_eq_true zd_;obtain ⟨ad104,e104,hx104_0⟩:=Kd.at_int HSz5_0 s0_1 p104 q104
    cases e104
    replace hx104_0:=pw_cell_below HB.out hx104_0;replace p104:=eq_true p104;replace q104:=eq_true q104
    go_enter Tryd.func89,Tryd.ntmps89
    go_wp2
    repeat (go_quiet (fail);try go_wp2)
    go_ret
    exact ⟨zh_,zf_,zi_,zg_⟩
   ·rw [if_neg c4] at H
    have c4b0:=decide_eq_false c4;clear c4
    simp only [Option.some.injEq,Prod.mk.injEq] at H
    obtain ⟨rfl,rfl,rfl⟩:=H;obtain ⟨ASz6_0,cSz6_0,HGz6,hgz6,HSz6_0⟩:=HI0.out;have hcz6_0:=cellS66_0 HGz6;have hcz6_1:=cellS66_1 HGz6;have hcz6_2:=cellS66_2 HGz6;have hfz6_1:=blk_frozen HGz6 1;have hfz6_2:=blk_frozen HGz6 2;clear HGz6 hgz6;have p104:0≤(s0_1:Int):=of_decide_eq_true zd_;have q104:s0_1<(s0_0.length:Int):=of_decide_eq_true zd_;obtain ⟨ad104,e104,hx104_0⟩:=Kd.at_int HSz6_0 s0_1 p104 q104
    cases e104
    replace hx104_0:=pw_cell_below HB.out hx104_0;replace p104:=eq_true p104;replace q104:=eq_true q104
    go_enter Tryd.func89,Tryd.ntmps89
    go_wp2
    repeat (go_quiet (fail);try go_wp2)
    go_ret
    exact ⟨zh_,zf_,zi_,zg_⟩
  ·rw [if_neg c3] at H
   exact q3n_ H
 ·rw [if_neg c2] at H
  have c2b0:=decide_eq_false c2;clear c2
  by_cases c7:(wrap64 (s0_1+1))≤(s0_0.length:Int)
  ·rw [if_pos c7] at H
   have c7b0:=decide_eq_true c7;clear c7
   simp only [Option.some.injEq,Prod.mk.injEq] at H
   obtain ⟨rfl,rfl,rfl⟩:=H;obtain ⟨ASz8_0,cSz8_0,HGz8,hgz8,HSz8_0⟩:=HI0.out;have hcz8_0:=cellS66_0 HGz8;have hcz8_1:=cellS66_1 HGz8;have hcz8_2:=cellS66_2 HGz8;have hfz8_1:=blk_frozen HGz8 1;have hfz8_2:=blk_frozen HGz8 2;clear HGz8 hgz8
   go_enter Tryd.func89,Tryd.ntmps89
   go_wp2
   repeat (go_quiet (fail);try go_wp2)
   go_ret
   exact ⟨zh_,zf_,zi_,zg_⟩
  ·rw [if_neg c7] at H
   have c7b0:=decide_eq_false c7;clear c7
   simp only [Option.some.injEq,Prod.mk.injEq] at H
   obtain ⟨rfl,rfl,rfl⟩:=H;obtain ⟨ASz9_0,cSz9_0,HGz9,hgz9,HSz9_0⟩:=HI0.out;have hcz9_0:=cellS66_0 HGz9;have hcz9_1:=cellS66_1 HGz9;have hcz9_2:=cellS66_2 HGz9;have hfz9_1:=blk_frozen HGz9 1;have hfz9_2:=blk_frozen HGz9 2;clear HGz9 hgz9
   go_enter Tryd.func89,Tryd.ntmps89
   go_wp2
   repeat (go_quiet (fail);try go_wp2)
   go_ret
   exact ⟨zh_,zf_,zi_,zg_⟩
def spec_l1Cur_pick.f (s0_0:List Int) (s0_1:Int) (s0_2:Int) (a1:Int):Option (Int×Int×Int):=if a1≤1 then (some (0,s0_1,s0_2)) else ((spec_l1Cur_next.f s0_0 s0_1 s0_2).bind fun bt105=>(if a1>200 then ((spec_l1Cur_next.f s0_0 bt105.2.1 bt105.2.2).bind fun bt108=>(if a1=0 then (none) else (some (Int.tmod (wrap64 ((wrap64 (bt105.1 * 256))+bt108.1)) a1,bt108.2.1,bt108.2.2)))) else (if a1=0 then (none) else (some (Int.tmod bt105.1 a1,bt105.2.1,bt105.2.2)))))
theorem spec_l1Cur_pick.calls (g:Nat) (s0_0:List Int) (s0_1:Int) (s0_2:Int) (a1:Int) (r1:Int) (r2:Int) (r3:Int) (w0 w:World) (hI:IsS66 w0 w g s0_0 s0_1 s0_2) (hB:Below w0.heap.size w0 w) (h:spec_l1Cur_pick.f s0_0 s0_1 s0_2 a1=some (r1,r2,r3)) :
  Calls Tryd.prog 59 #[.pointer (some ⟨g,0,none⟩),.int .i64 a1] w fun e w'=>e = .returned (.int .i64 r1)∧IsS66 w0 w' g s0_0 r2 r3∧Below w0.heap.size w0 w'∧KeepBut w w' g none:=by
 have HI0:=aM hI
 have HK:=aM (KeepBut.refl w g none)
 have HL:=aM hB.size
 clear hI
 have HW0:=aM hB.size
 have HB:=aM hB
 clear hB
 have H:(if a1≤1 then (some (0,s0_1,s0_2)) else ((spec_l1Cur_next.f s0_0 s0_1 s0_2).bind fun bt105=>(if a1>200 then ((spec_l1Cur_next.f s0_0 bt105.2.1 bt105.2.2).bind fun bt108=>(if a1=0 then (none) else (some (Int.tmod (wrap64 ((wrap64 (bt105.1 * 256))+bt108.1)) a1,bt108.2.1,bt108.2.2)))) else (if a1=0 then (none) else (some (Int.tmod bt105.1 a1,bt105.2.1,bt105.2.2))))))=some (r1,r2,r3):=h
 clear h
 by_cases c3:a1≤1
 ·rw [if_pos c3] at H
  have c3b0:=decide_eq_true c3;clear c3
  simp only [Option.some.injEq,Prod.mk.injEq] at H
  obtain ⟨rfl,rfl,rfl⟩:=H
  go_enter Tryd.func59,Tryd.ntmps59
  go_wp2
  go_ret
  exact ⟨zh_,zf_,zi_,zg_⟩
 ·rw [if_neg c3] at H
  have c3b0:=decide_eq_false c3;clear c3;replace H:=oB.mp H;obtain ⟨⟨t105,t106,t107⟩,A40,H⟩:=H;replace H:(if a1>200 then ((spec_l1Cur_next.f s0_0 t106 t107).bind fun bt108=>(if a1=0 then (none) else (some (Int.tmod (wrap64 ((wrap64 (t105 * 256))+bt108.1)) a1,bt108.2.1,bt108.2.2)))) else (if a1=0 then (none) else (some (Int.tmod t105 a1,t106,t107))))=some (r1,r2,r3):=H;have A4:=aM A40;clear A40
  by_cases c5:a1>200
  ·rw [if_pos c5] at H
   have c5b0:decide (200<a1)=true:=decide_eq_true c5;clear c5;replace H:=oB.mp H;obtain ⟨⟨t108,t109,t110⟩,A60,H⟩:=H;replace H:(if a1=0 then (none) else (some (Int.tmod (wrap64 ((wrap64 (t105 * 256))+t108)) a1,t109,t110)))=some (r1,r2,r3):=H;have A6:=aM A60;clear A60
   by_cases c7:a1=0
   ·rw [if_pos c7] at H
    exact q3n_ H
   ·rw [if_neg c7] at H
    have c7b0:=beq_eq_false_iff_ne.mpr c7;have c7b1:=bne_iff_ne.mpr c7
    simp only [Option.some.injEq,Prod.mk.injEq] at H
    obtain ⟨rfl,rfl,rfl⟩:=H
    go_enter Tryd.func59,Tryd.ntmps59
    go_wp2_with (first | ((with_reducible refine gate_callee (f:=89) rfl ?_);refine goesL_ (some 9) rfl rfl Tryd.func89 (by kernel_rfl) rfl #[.pointer (some ⟨g,0,none⟩)] rfl ze_ ?_;(with_reducible refine (spec_l1Cur_next.calls g s0_0 s0_1 s0_2 t105 t106 t107 w0 _ ?side1 ?side2 A4.out).mono ?_);(case side1=>exact zf_);(case side2=>exact zi_);rintro e w8 ⟨rfl,hi,hb,hk⟩;refine ⟨_,rfl,?_⟩;have n_:=z (KeepBut.trans zg_ hk (.inl rfl))<|z (hb)<|z1 (hi);clear HK HB HI0;obtain ⟨HK,HB,HI0⟩:=n_;clear hb hk hi)|((with_reducible refine gate_callee (f:=89) rfl ?_);refine goesL_ (some 15) rfl rfl Tryd.func89 (by kernel_rfl) rfl #[.pointer (some ⟨g,0,none⟩)] rfl ze_ ?_;(with_reducible refine (spec_l1Cur_next.calls g s0_0 t106 t107 t108 t109 t110 w0 _ ?side1 ?side2 A6.out).mono ?_);(case side1=>exact zf_);(case side2=>exact zi_);rintro e w9 ⟨rfl,hi,hb,hk⟩;refine ⟨_,rfl,?_⟩;have n_:=z (KeepBut.trans zg_ hk (.inl rfl))<|z (hb)<|z1 (hi);clear HK HB HI0;obtain ⟨HK,HB,HI0⟩:=n_;clear hb hk hi))
    go_ret
    exact ⟨zh_,zf_,zi_,zg_⟩
  ·rw [if_neg c5] at H
   have c5b0:decide (200<a1)=false:=decide_eq_false c5;clear c5
   by_cases c10:a1=0
   ·rw [if_pos c10] at H
    exact q3n_ H
   ·rw [if_neg c10] at H
    have c10b0:=beq_eq_false_iff_ne.mpr c10;have c10b1:=bne_iff_ne.mpr c10
    simp only [Option.some.injEq,Prod.mk.injEq] at H
    obtain ⟨rfl,rfl,rfl⟩:=H
    go_enter Tryd.func59,Tryd.ntmps59
    go_wp2_with (first | ((with_reducible refine gate_callee (f:=89) rfl ?_);refine goesL_ (some 9) rfl rfl Tryd.func89 (by kernel_rfl) rfl #[.pointer (some ⟨g,0,none⟩)] rfl ze_ ?_;(with_reducible refine (spec_l1Cur_next.calls g s0_0 s0_1 s0_2 t105 t106 t107 w0 _ ?side1 ?side2 A4.out).mono ?_);(case side1=>exact zf_);(case side2=>exact zi_);rintro e w11 ⟨rfl,hi,hb,hk⟩;refine ⟨_,rfl,?_⟩;have n_:=z (KeepBut.trans zg_ hk (.inl rfl))<|z (hb)<|z1 (hi);clear HK HB HI0;obtain ⟨HK,HB,HI0⟩:=n_;clear hb hk hi))
    go_ret
    exact ⟨zh_,zf_,zi_,zg_⟩
def spec_l1Cur_among.f (s0_0:List Int) (s0_1:Int) (s0_2:Int) (l1:List Int):Option (Int×Int×Int):=(spec_l1Cur_pick.f s0_0 s0_1 s0_2 (l1.length:Int)).bind fun bt111=>(if 0≤bt111.1 then (if bt111.1<(l1.length:Int) then (some (rd l1 bt111.1,bt111.2.1,bt111.2.2)) else (none)) else (none))
theorem spec_l1Cur_among.calls (g:Nat) (s0_0:List Int) (s0_1:Int) (s0_2:Int) (A1:Option Addr) (c1:Nat) (l1:List Int) (r1:Int) (r2:Int) (r3:Int) (w0 w:World) (hI:IsS66 w0 w g s0_0 s0_1 s0_2) (hB:Below w0.heap.size w0 w) (hr1:Kd.C (Kd.int .i64) w A1 l1.length l1) (hc1:l1.length≤c1) (hf1:∀ ad,A1=some ad→0<l1.length→ad.block≠g) (h:spec_l1Cur_among.f s0_0 s0_1 s0_2 l1=some (r1,r2,r3)) :
  Calls Tryd.prog 61 #[.pointer (some ⟨g,0,none⟩),.slice A1 l1.length c1] w fun e w'=>e = .returned (.int .i64 r1)∧IsS66 w0 w' g s0_0 r2 r3∧Below w0.heap.size w0 w'∧KeepBut w w' g none:=by
 have HR1:=aM hr1
 have HC1:=aM hc1
 clear hr1 hc1
 have HI0:=aM hI
 have HK:=aM (KeepBut.refl w g none)
 have HL:=aM hB.size
 clear hI
 have HW0:=aM hB.size
 have HB:=aM hB
 clear hB
 have H:((spec_l1Cur_pick.f s0_0 s0_1 s0_2 (l1.length:Int)).bind fun bt111=>(if 0≤bt111.1 then (if bt111.1<(l1.length:Int) then (some (rd l1 bt111.1,bt111.2.1,bt111.2.2)) else (none)) else (none)))=some (r1,r2,r3):=h
 clear h
 replace H:=oB.mp H
 obtain ⟨⟨t111,t112,t113⟩,A30,H⟩:=H
 replace H:(if 0≤t111 then (if t111<(l1.length:Int) then (some (rd l1 t111,t112,t113)) else (none)) else (none))=some (r1,r2,r3):=H
 have A3:=aM A30
 clear A30
 by_cases c4:0≤t111
 ·rw [if_pos c4] at H
  have c4b0:=decide_eq_true c4;clear c4
  by_cases c5:t111<(l1.length:Int)
  ·rw [if_pos c5] at H
   have c5b0:=decide_eq_true c5;clear c5
   simp only [Option.some.injEq,Prod.mk.injEq] at H
   obtain ⟨rfl,rfl,rfl⟩:=H
   go_enter Tryd.func61,Tryd.ntmps61
   go_wp2_with (first | ((with_reducible refine gate_callee (f:=59) rfl ?_);refine goesL_ (some 9) rfl rfl Tryd.func59 (by kernel_rfl) rfl #[.pointer (some ⟨g,0,none⟩),.int .i64 (l1.length:Int)] rfl ze_ ?_;(with_reducible refine (spec_l1Cur_pick.calls g s0_0 s0_1 s0_2 (l1.length:Int) t111 t112 t113 w0 _ ?side1 ?side2 A3.out).mono ?_);(case side1=>exact zf_);(case side2=>exact zi_);rintro e w6 ⟨rfl,hi,hb,hk⟩;refine ⟨_,rfl,?_⟩;have n_:=z (KeepBut.trans zg_ hk (.inl rfl))<|z (hb)<|z1 (hi);clear HK HB HI0;obtain ⟨HK,HB,HI0⟩:=n_;clear hb hk hi;have p114:0≤(t111:Int):=of_decide_eq_true zd_;have q114:t111<(l1.length:Int):=of_decide_eq_true zd_;obtain ⟨ad114,e114,hx114_0⟩:=Kd.at_int HR1.out t111 p114 q114;cases e114;replace hx114_0:=keep_cell HK.out hx114_0 (by first | (rw [add_block];exact hf1 _ rfl (by omega)) | exact hf1 _ rfl (by omega) | exact hf1 ad114 rfl (by omega));replace p114:=eq_true p114;replace q114:=eq_true q114))
   go_ret
   exact ⟨zh_,zf_,zi_,zg_⟩
  ·rw [if_neg c5] at H
   exact q3n_ H
 ·rw [if_neg c4] at H
  exact q3n_ H
def spec_l1Cur_one.f (s0_0:List Int) (s0_1:Int) (s0_2:Int) (a1:Int):Option (Bool×Int×Int):=(spec_l1Cur_pick.f s0_0 s0_1 s0_2 a1).bind fun bt115=>(some ((bt115.1 == 0),bt115.2.1,bt115.2.2))
theorem spec_l1Cur_one.calls (g:Nat) (s0_0:List Int) (s0_1:Int) (s0_2:Int) (a1:Int) (r1:Bool) (r2:Int) (r3:Int) (w0 w:World) (hI:IsS66 w0 w g s0_0 s0_1 s0_2) (hB:Below w0.heap.size w0 w) (h:spec_l1Cur_one.f s0_0 s0_1 s0_2 a1=some (r1,r2,r3)) :
  Calls Tryd.prog 60 #[.pointer (some ⟨g,0,none⟩),.int .i64 a1] w fun e w'=>e = .returned (.bool r1)∧IsS66 w0 w' g s0_0 r2 r3∧Below w0.heap.size w0 w'∧KeepBut w w' g none:=by
 have HI0:=aM hI
 have HK:=aM (KeepBut.refl w g none)
 have HL:=aM hB.size
 clear hI
 have HW0:=aM hB.size
 have HB:=aM hB
 clear hB
 have H:((spec_l1Cur_pick.f s0_0 s0_1 s0_2 a1).bind fun bt115=>(some ((bt115.1 == 0),bt115.2.1,bt115.2.2)))=some (r1,r2,r3):=h
 clear h
 replace H:=oB.mp H
 obtain ⟨⟨t115,t116,t117⟩,A30,H⟩:=H
 replace H:(some ((t115 == 0),t116,t117))=some (r1,r2,r3):=H
 have A3:=aM A30
 clear A30
 simp only [Option.some.injEq,Prod.mk.injEq] at H
 obtain ⟨rfl,rfl,rfl⟩:=H
 go_enter Tryd.func60,Tryd.ntmps60
 go_wp2_with (first | ((with_reducible refine gate_callee (f:=59) rfl ?_);refine goesL_ (some 7) rfl rfl Tryd.func59 (by kernel_rfl) rfl #[.pointer (some ⟨g,0,none⟩),.int .i64 a1] rfl ze_ ?_;(with_reducible refine (spec_l1Cur_pick.calls g s0_0 s0_1 s0_2 a1 t115 t116 t117 w0 _ ?side1 ?side2 A3.out).mono ?_);(case side1=>exact zf_);(case side2=>exact zi_);rintro e w4 ⟨rfl,hi,hb,hk⟩;refine ⟨_,rfl,?_⟩;have n_:=z (KeepBut.trans zg_ hk (.inl rfl))<|z (hb)<|z1 (hi);clear HK HB HI0;obtain ⟨HK,HB,HI0⟩:=n_;clear hb hk hi))
 go_ret
 exact ⟨zh_,zf_,zi_,zg_⟩
def spec_ttBit.f (a0:Int) (a1:Int):Option (Int):=if 0≤(IntKind.u64.wrap (a1)) then (some (Go.bits .and .i64 (shr .i64 a0 (IntKind.u64.wrap (a1))) 1)) else (none)
theorem spec_ttBit.calls (a0:Int) (a1:Int) (r:Int) (w:World) (h:spec_ttBit.f a0 a1=some r) :
  Calls Tryd.prog 92 #[.int .i64 a0,.int .i64 a1] w fun e w'=>e = .returned (.int .i64 r)∧Drawn0 w w':=by
 have H:(if 0≤(IntKind.u64.wrap (a1)) then (some (Go.bits .and .i64 (shr .i64 a0 (IntKind.u64.wrap (a1))) 1)) else (none))=some r:=h
 clear h
 obtain ⟨ji3,hji3⟩:∃ j_:Int,(IntKind.u64.wrap (a1))=j_:=⟨_,rfl⟩
 replace H:(if 0≤(ji3) then (some (Go.bits .and .i64 (shr .i64 a0 (ji3)) 1)) else (none))=some r:=by first | (rw [hji3] at H;exact H)|(simp only [hji3] at H ⊢;exact H)
 by_cases c4:0≤(ji3)
 ·rw [if_pos c4] at H
  have c4b0:=eq_true c4;have c4b1:=decide_eq_true c4;clear c4;obtain ⟨ji5,hji5⟩:∃ j_:Int,(shr .i64 a0 (ji3))=j_:=⟨_,rfl⟩;replace H:(some (Go.bits .and .i64 (ji5) 1))=some r:=by first | (rw [hji5] at H;exact H)|(simp only [hji5] at H ⊢;exact H)
  have hji5_:(a0 / 2 ^ min (ji3).toNat 64)=ji5:=hji5;have hji5z:(ji3)≤64→(a0 / 2 ^ (ji3).toNat)=ji5:=shr_small hji5;obtain rfl:=Option.some.inj H
  go_enter Tryd.func92,Tryd.ntmps92
  go_wp2
  go_ret
  exact ⟨by first | rfl | (simp;done)|(simp only [← hji3,← hji5] <;> (first | rfl | simp))|(simp [*];done),zj_⟩
 ·rw [if_neg c4] at H
  exact q3n_ H
mutual
def spec_l1Cur_tableOf.l0:Nat→Int→Int→Int→List Int→Int→Int→Int→List Int→Option (Int×List Int×Int×Int)
 | 0,_,_,_,_,_,_,_,_=>none
 | k+1,x1,x6,x7,x1000,x1001,x1002,x120000,x120001=>if 0≤(IntKind.u64.wrap (x1)) then (if x7<(shl .i64 1 (IntKind.u64.wrap (x1))) then (if x6=8 then (spec_l1Cur_tableOf.l1 k x1 x6 x7 0 0 x1000 x1001 x1002 x120000 x120001) else ((spec_l1Cur_one.f x1000 x1001 x1002 x6).bind fun bt130=>(if bt130.1=true then (if x120001.length<17592186044416 then (spec_l1Cur_tableOf.l0 k x1 x6 (wrap64 (x7+1)) x1000 bt130.2.1 bt130.2.2 x120000 (x120001 ++ [1])) else (none)) else (if x120001.length<17592186044416 then (spec_l1Cur_tableOf.l0 k x1 x6 (wrap64 (x7+1)) x1000 bt130.2.1 bt130.2.2 x120000 (x120001 ++ [0])) else (none))))) else (some (x120000,x120001,x1001,x1002))) else (none)
def spec_l1Cur_tableOf.l1:Nat→Int→Int→Int→Int→Int→List Int→Int→Int→Int→List Int→Option (Int×List Int×Int×Int)
 | 0,_,_,_,_,_,_,_,_,_,_=>none
 | k+1,x1,x6,x7,x8,x9,x1000,x1001,x1002,x120000,x120001=>if x9<x1 then ((spec_ttBit.f x7 x9).bind fun t126=>(spec_l1Cur_tableOf.l1 k x1 x6 x7 (wrap64 (x8+t126)) (wrap64 (x9+1)) x1000 x1001 x1002 x120000 x120001)) else (if x120001.length<17592186044416 then (spec_l1Cur_tableOf.l0 k x1 x6 (wrap64 (x7+1)) x1000 x1001 x1002 x120000 (x120001 ++ [Int.tmod (wrap64 (Int.tdiv x8 2)) 2])) else (none))
end
def spec_l1Cur_tableOf.f (k:Nat) (s0_0:List Int) (s0_1:Int) (s0_2:Int) (a1:Int):Option (Int×List Int×Int×Int):=(spec_l1Cur_among.f s0_0 s0_1 s0_2 (([2,2,4,8]:List Int))).bind fun bt123=>(spec_l1Cur_tableOf.l0 k a1 bt123.1 0 s0_0 bt123.2.1 bt123.2.2 a1 ([]:List Int))
theorem spec_l1Cur_tableOf.calls (k:Nat) (g:Nat) (s0_0:List Int) (s0_1:Int) (s0_2:Int) (a1:Int) (r1:Int) (r2:List Int) (r3:Int) (r4:Int) (w0 w:World) (hI:IsS66 w0 w g s0_0 s0_1 s0_2) (hB:Below w0.heap.size w0 w) (h:spec_l1Cur_tableOf.f k s0_0 s0_1 s0_2 a1=some (r1,r2,r3,r4)) :
  Calls Tryd.prog 73 #[.pointer (some ⟨g,0,none⟩),.int .i64 a1] w fun e w' => ∃ v1_:Value,e = .returned (.agg #[.int .i64 r1,v1_])∧Kd.R (Kd.int .i64) 3 w' w.heap.size (fun _=>True) v1_ r2∧IsS66 w0 w' g s0_0 r3 r4∧Below w0.heap.size w0 w'∧KeepBut w w' g none:=by
 have hu26:=Tryd.underlying26
 have HI0:=aM hI
 have HK:=aM (KeepBut.refl w g none)
 have HL:=aM hB.size
 clear hI
 have HW0:=aM hB.size
 have HB:=aM hB
 clear hB
 have H:((spec_l1Cur_among.f s0_0 s0_1 s0_2 (([2,2,4,8]:List Int))).bind fun bt123=>(spec_l1Cur_tableOf.l0 k a1 bt123.1 0 s0_0 bt123.2.1 bt123.2.2 a1 ([]:List Int)))=some (r1,r2,r3,r4):=h
 clear h
 obtain ⟨y120,hy120⟩:∃ y_:List Int,y_=(([2,2,4,8]:List Int)):=⟨_,rfl⟩
 replace H:((spec_l1Cur_among.f s0_0 s0_1 s0_2 y120).bind fun bt123=>(spec_l1Cur_tableOf.l0 k a1 bt123.1 0 s0_0 bt123.2.1 bt123.2.2 a1 ([]:List Int)))=some (r1,r2,r3,r4):=q3y_ hy120 H
 have Ny120:=aM hy120
 clear hy120
 replace H:=oB.mp H
 obtain ⟨⟨t123,t124,t125⟩,A30,H⟩:=H
 replace H:(spec_l1Cur_tableOf.l0 k a1 t123 0 s0_0 t124 t125 a1 ([]:List Int))=some (r1,r2,r3,r4):=H
 have A3:=aM A30
 clear A30
 have H':=aM H
 clear H
 go_enter Tryd.func73,Tryd.ntmps73
 go_wp2_with (first | ((with_reducible refine gate_dst (N:=4) rfl ?_);refine box_event ?hg (N:=4) ?hd (cs:=#[.int .i64 0,.slice none 0 0]) (t:=26) ?hr ?_;(case hd=>rfl);(case hg=>rfl);(case hr=>exact zb_);intro gb118 hg w4 hbox hb;have n_:=z (IsS66.below zf_ hb)<|z (KeepBut.trans zg_ (KeepBut.of_below hb g none) (.inl rfl))<|z (below_step zi_ hb)<|z (hbox)<|z ((by rw [hg];exact (keep_size (w:=w) (g:=g) (row:=none) zg_):w.heap.size≤gb118))<|z ((Nat.le_trans HW0.out (by rw [hg];exact (keep_size (w:=w) (g:=g) (row:=none) zg_):w.heap.size≤gb118):w0.heap.size≤gb118))<|z ((by rw [hg];exact Nat.ne_of_lt (IsS66.lt (show IsS66 w0 _ g s0_0 s0_1 s0_2 from zf_)):g≠gb118))<|z1 ((by rw [hg];exact Nat.ne_of_gt (IsS66.lt (show IsS66 w0 _ g s0_0 s0_1 s0_2 from zf_)):gb118≠g));clear HI0 HK HB;obtain ⟨HI0,HK,HB,BK118,GW118,GE118,NB0_118,NB118_0⟩:=n_;clear hb hbox hg)|((with_reducible refine gate_dst (N:=5) rfl ?_);refine box_event ?hg (N:=5) ?hd (cs:=#[.int .i64 0,.slice none 0 0]) (t:=26) ?hr ?_;(case hd=>rfl);(case hg=>rfl);(case hr=>exact zb_);intro gb119 hg w5 hbox hb;have n_:=z (IsS66.below zbab_ hb)<|z (blk_below (zb BK118.out) hb)<|z (KeepBut.trans zbac_ (KeepBut.of_below hb g none) (.inl rfl))<|z (below_step (by repeat (first | (with_reducible first | exact HB.out | apply pA | apply pN | apply p1 | refine below_set ?_ (IsS66.ge HI0.out) | refine below_set ?_ GE118.out) | exact HB.out)) hb)<|z (hbox)<|z ((by rw [hg];exact (keep_size (w:=w) (g:=g) (row:=none) zbac_):w.heap.size≤gb119))<|z ((Nat.le_trans HW0.out (by rw [hg];exact (keep_size (w:=w) (g:=g) (row:=none) zbac_):w.heap.size≤gb119):w0.heap.size≤gb119))<|z ((by rw [hg];exact Nat.ne_of_lt (blk_lt (zb BK118.out)):gb118≠gb119))<|z ((by rw [hg];exact Nat.ne_of_gt (blk_lt (zb BK118.out)):gb119≠gb118))<|z ((by rw [hg];exact Nat.ne_of_lt (IsS66.lt (show IsS66 w0 _ g s0_0 s0_1 s0_2 from zbab_)):g≠gb119))<|z1 ((by rw [hg];exact Nat.ne_of_gt (IsS66.lt (show IsS66 w0 _ g s0_0 s0_1 s0_2 from zbab_)):gb119≠g));clear HI0 BK118 HK HB;obtain ⟨HI0,BK118,HK,HB,BK119,GW119,GE119,NB118_119,NB119_118,NB0_119,NB119_0⟩:=n_;clear hb hbox hg;have hnb6:=NB119_118.out;have hnc6:=NB118_119.out;have hnb7:=NB119_0.out;have hnc7:=NB0_119.out;obtain ⟨hcz8_0,hcz8_1,hfz8_0,hfz8_1⟩:=zk2 BK119.out)|((with_reducible refine gate_dst (N:=13) rfl ?_);refine Kd.R_lit (Kd.int .i64) _ 3 ?hg (N:=13) ?hd (xs:=([2,2,4,8]:List Int)) (inner:=[.int .i64 2,.int .i64 2,.int .i64 4,.int .i64 8]) (ok:=fun _=>True) (okp:=fun _=>True) ?hr ?hp (fun _ hk=>hk) trivial (Below.refl _ _) (Nat.le_refl _) (by simp) ?_;(case hd=>rfl);(case hg=>rfl);(case hr=>exact zb_);(case hp=>exact (Reps.one (show Kd.M (Kd.int .i64) _ _ _ 2 [.int .i64 2] from rfl) (Reps.one (show Kd.M (Kd.int .i64) _ _ _ 2 [.int .i64 2] from rfl) (Reps.one (show Kd.M (Kd.int .i64) _ _ _ 4 [.int .i64 4] from rfl) (Reps.one (show Kd.M (Kd.int .i64) _ _ _ 8 [.int .i64 8] from rfl) (Reps.none _ _))))));intro v121 w9 ho10 hb hg_ hnew_;clear hg_ hnew_;(first | rw [← Ny120.out] at ho10 | (simp only [Int.reduceToNat] at ho10;rw [← Ny120.out] at ho10));have n_:=z (Kd.R_lower ho10 (keep_size (w:=w) (g:=g) (row:=none) zch_))<|z (IsS66.below (show IsS66 w0 ((w5.setCell ⟨gb119,0,none⟩ (.int .i64 a1)).setCell ⟨gb119,1,none⟩ (.slice none 0 0)) g s0_0 s0_1 s0_2 from zcd_) hb)<|z (blk_below (g:=gb118) (o := .cells #[.int .i64 0,.slice none 0 0] 26 (0,0)) (by refine zb ?_;refine blk_far ?_ NB118_119.out _;refine zb ?_;refine blk_far ?_ NB118_119.out _;refine zb ?_;exact BK118.out) hb)<|z (blk_below (g:=gb119) (o := .cells #[.int .i64 a1,.slice none 0 0] 26 (0,0)) (by refine zb ?_;refine blk_put (cs:=#[.int .i64 a1,.slice none 0 0]) ?_ 1 _ rfl;refine zb ?_;refine blk_put (cs:=#[.int .i64 0,.slice none 0 0]) ?_ 0 _ rfl;refine zb ?_;exact BK119.out) hb)<|z (KeepBut.trans zch_ (KeepBut.of_below hb g none) (.inl rfl))<|z1 (below_step zcj_ hb);clear HI0 BK118 BK119 HK HB;obtain ⟨HO122,HI0,BK118,BK119,HK,HB⟩:=n_;clear hb ho10;obtain ⟨Ao11,co11,eo11⟩:=Kd.R_slice HO122.out;subst eo11)|((with_reducible refine gate_callee (f:=61) rfl ?_);refine goesL_ (some 14) rfl rfl Tryd.func61 (by kernel_rfl) rfl #[.pointer (some ⟨g,0,none⟩),.slice Ao11 y120.length co11] rfl ze_ ?_;(with_reducible refine (spec_l1Cur_among.calls g s0_0 s0_1 s0_2 _ _ y120 t123 t124 t125 w0 _ ?side1 ?side2 ?side3 ?side4 ?side5 A3.out).mono ?_);(case side1=>exact zcd_);(case side2=>exact zcj_);(case side3=>repeat (first | exact (Kd.R_reads' HO122.out).2.2 | (with_reducible refine cA ?_ _)|(with_reducible refine cN ?_ _)|(with_reducible refine cD ?_)));(case side4=>exact (Kd.R_reads' HO122.out).2.1);(case side5=>exact far_slice (IsS66.own_ne HI0.out HO122.out (by decide)));rintro e w12 ⟨rfl,hi,hb,hk⟩;refine ⟨_,rfl,?_⟩;have n_:=z (KeepBut.blk hk (zb BK118.out) NB118_0.out (by simp))<|z (KeepBut.blk hk (zb BK119.out) NB119_0.out (by simp))<|z (Kd.R_mono (Kd.R_keep (IsS66.apart (show IsS66 w0 _ g s0_0 s0_1 s0_2 from zcd_) (zr HO122.out) (by decide)) hk (fun _ h=>h.2)) (fun _ h=>h.1))<|z (KeepBut.trans zch_ hk (.inl rfl))<|z (hb)<|z1 (hi);clear BK118 BK119 HO122 HK HB HI0;obtain ⟨BK118,BK119,HO122,HK,HB,HI0⟩:=n_;clear hb hk hi))
 go_loopg [7] k (fun kq v7 w' => ∃ (x7_1:Int) (x1001_1:Int) (x1002_1:Int) (x120001_1:List Int) (u120001:Value),v7 = .int .i64 x7_1∧Aside0 (spec_l1Cur_tableOf.l0 kq a1 t123 x7_1 s0_0 x1001_1 x1002_1 a1 x120001_1=some (r1,r2,r3,r4))∧Aside0 (kq≤k)∧Aside0 (Kd.R (Kd.int .i64) 3 w' w.heap.size (fun _=>True) u120001 x120001_1)∧Aside0 (w'.heap[gb118]?=some (.cells #[.int .i64 0,(.slice none 0 0)] 26 (0,0)))∧Aside0 (w'.heap[gb119]?=some (.cells #[.int .i64 a1,u120001] 26 (0,0)))∧Aside0 (IsS66 w0 w' g s0_0 x1001_1 x1002_1)∧Aside0 (KeepBut w w' g none)∧Aside0 (Below w0.heap.size w0 w'))
 case atStart=>exact ⟨(0),(t124),(t125),(([]:List Int)),(.slice none 0 0),zc_,H',⟨Nat.le_refl _⟩,⟨zca_⟩,⟨zb BK118.out⟩,⟨zb BK119.out⟩,⟨zcd_⟩,⟨zch_⟩,⟨zcj_⟩⟩
 case round =>
  clear H';(try clear hcz8_0);(try clear hcz8_1);(try clear hfz8_0);(try clear hfz8_1);obtain ⟨x7_1,x1001_1,x1002_1,x120001_1,u120001,rfl,HA,HK1,HO_120001,BK118,BK119,HI0,HK,HB⟩:=hrel
  cases gk with
  | zero=>exact absurd HA.out (by simp [spec_l1Cur_tableOf.l0])
  | succ k1 =>
   have H:=HA.out;clear HA
   simp only [spec_l1Cur_tableOf.l0] at H
   obtain ⟨ji13,hji13⟩:∃ j_:Int,(IntKind.u64.wrap (a1))=j_:=⟨_,rfl⟩;replace H:(if 0≤(ji13) then (if x7_1<(shl .i64 1 (ji13)) then (if t123=8 then (spec_l1Cur_tableOf.l1 k1 a1 t123 x7_1 0 0 s0_0 x1001_1 x1002_1 a1 x120001_1) else ((spec_l1Cur_one.f s0_0 x1001_1 x1002_1 t123).bind fun bt130=>(if bt130.1=true then (if x120001_1.length<17592186044416 then (spec_l1Cur_tableOf.l0 k1 a1 t123 (wrap64 (x7_1+1)) s0_0 bt130.2.1 bt130.2.2 a1 (x120001_1 ++ [1])) else (none)) else (if x120001_1.length<17592186044416 then (spec_l1Cur_tableOf.l0 k1 a1 t123 (wrap64 (x7_1+1)) s0_0 bt130.2.1 bt130.2.2 a1 (x120001_1 ++ [0])) else (none))))) else (some (a1,x120001_1,x1001_1,x1002_1))) else (none))=some (r1,r2,r3,r4):=by first | (rw [hji13] at H;exact H)|(simp only [hji13] at H ⊢;exact H)
   by_cases c14:0≤(ji13)
   ·rw [if_pos c14] at H
    have c14b0:=eq_true c14;have c14b1:=decide_eq_true c14;clear c14;obtain ⟨ji15,hji15⟩:∃ j_:Int,(shl .i64 1 (ji13))=j_:=⟨_,rfl⟩;replace H:(if x7_1<(ji15) then (if t123=8 then (spec_l1Cur_tableOf.l1 k1 a1 t123 x7_1 0 0 s0_0 x1001_1 x1002_1 a1 x120001_1) else ((spec_l1Cur_one.f s0_0 x1001_1 x1002_1 t123).bind fun bt130=>(if bt130.1=true then (if x120001_1.length<17592186044416 then (spec_l1Cur_tableOf.l0 k1 a1 t123 (wrap64 (x7_1+1)) s0_0 bt130.2.1 bt130.2.2 a1 (x120001_1 ++ [1])) else (none)) else (if x120001_1.length<17592186044416 then (spec_l1Cur_tableOf.l0 k1 a1 t123 (wrap64 (x7_1+1)) s0_0 bt130.2.1 bt130.2.2 a1 (x120001_1 ++ [0])) else (none))))) else (some (a1,x120001_1,x1001_1,x1002_1)))=some (r1,r2,r3,r4):=by first | (rw [hji15] at H;exact H)|(simp only [hji15] at H ⊢;exact H)
    have hji15_:(IntKind.i64.wrap (1 * 2 ^ min (ji13).toNat 64))=ji15:=hji15;have hji15z:(ji13)≤64→(IntKind.i64.wrap (1 * 2 ^ (ji13).toNat))=ji15:=shl_small hji15;have hji15u:(IntKind.i64.wrap (2 ^ min (ji13).toNat 64))=ji15:=by have h_:=hji15_;rw [Int.one_mul] at h_;exact h_
    have hji15v:(ji13)≤64→(IntKind.i64.wrap (2 ^ (ji13).toNat))=ji15:=fun hle_=>by have h_:=hji15z hle_;rw [Int.one_mul] at h_;exact h_
    have hji15y:(wrap64 (1 * 2 ^ min (ji13).toNat 64))=ji15:=(i64_w _).symm.trans hji15_;have hji15x:(ji13)≤64→(wrap64 (1 * 2 ^ (ji13).toNat))=ji15:=fun h_=>(i64_w _).symm.trans (hji15z h_)
    by_cases c16:x7_1<(ji15)
    ·rw [if_pos c16] at H
     have c16b0:=decide_eq_true c16;clear c16
     by_cases c17:t123=8
     ·rw [if_pos c17] at H
      have c17b0:=beq_iff_eq.mpr c17;have c17b1:=bne_eq_false_iff_eq.mpr c17;clear c17;have H':=aM H;clear H
      go_wp2
      go_loopg [8,9] k1 (fun kq v8 v9 w' => ∃ (x8_2:Int) (x9_2:Int),v8 = .int .i64 x8_2∧v9 = .int .i64 x9_2∧Aside0 (spec_l1Cur_tableOf.l1 kq a1 t123 x7_1 x8_2 x9_2 s0_0 x1001_1 x1002_1 a1 x120001_1=some (r1,r2,r3,r4))∧Aside0 (kq≤k1)∧Aside0 (Kd.R (Kd.int .i64) 3 w' w.heap.size (fun _=>True) u120001 x120001_1)∧Aside0 (w'.heap[gb118]?=some (.cells #[.int .i64 0,(.slice none 0 0)] 26 (0,0)))∧Aside0 (w'.heap[gb119]?=some (.cells #[.int .i64 a1,u120001] 26 (0,0)))∧Aside0 (IsS66 w0 w' g s0_0 x1001_1 x1002_1)∧Aside0 (KeepBut w w' g none)∧Aside0 (Below w0.heap.size w0 w'))
      case atStart=>exact ⟨(0),(0),zc_,zc_,H',⟨Nat.le_refl _⟩,⟨zr HO_120001.out⟩,⟨zb BK118.out⟩,⟨zb BK119.out⟩,⟨zcd_⟩,⟨zch_⟩,⟨zcj_⟩⟩
      case round =>
       clear H';(try clear c14b0);(try clear c14b1);(try clear c16b0);(try clear c17b0);(try clear c17b1);obtain ⟨x8_2,x9_2,rfl,rfl,HA,HK2,HO_120001,BK118,BK119,HI0,HK,HB⟩:=hrel
       cases gk with
       | zero=>exact absurd HA.out (by simp [spec_l1Cur_tableOf.l1])
       | succ k2 =>
        have H:=HA.out;clear HA
        simp only [spec_l1Cur_tableOf.l1] at H
        by_cases c18:x9_2<a1
        ·rw [if_pos c18] at H
         have c18b0:=decide_eq_true c18;clear c18;replace H:=oB.mp H;obtain ⟨t126,A190,H⟩:=H;replace H:(spec_l1Cur_tableOf.l1 k2 a1 t123 x7_1 (wrap64 (x8_2+t126)) (wrap64 (x9_2+1)) s0_0 x1001_1 x1002_1 a1 x120001_1)=some (r1,r2,r3,r4):=H;have A19:=aM A190;clear A190;have H':=aM H;clear H
         go_wp2_with (first | ((with_reducible refine gate_callee (f:=92) rfl ?_);refine goesL_ (some 33) rfl rfl Tryd.func92 (by kernel_rfl) rfl #[.int .i64 x7_1,.int .i64 x9_2] rfl ze_ ?_;(with_reducible refine (spec_ttBit.calls x7_1 x9_2 t126 _ A19.out).mono ?_);rintro e w' ⟨rfl,⟨nd,rfl⟩⟩;refine ⟨_,rfl,?_⟩))
         go_roundg k2
         case measure=>have:=HK1.out;have:=HK2.out;omega
         case rel=>exact ⟨(wrap64 (x8_2+t126)),(wrap64 (x9_2+1)),zc_,zc_,H',⟨by have:=HK1.out;have:=HK2.out;omega⟩,⟨zr HO_120001.out⟩,⟨zb BK118.out⟩,⟨zb BK119.out⟩,⟨zcd_⟩,⟨zch_⟩,⟨zcj_⟩⟩
        ·rw [if_neg c18] at H
         have c18b0:=decide_eq_false c18;clear c18
         by_cases c20:x120001_1.length<17592186044416
         ·rw [if_pos c20] at H
          have LMc20:=aM c20;clear c20;obtain ⟨y127,hy127⟩:∃ y_:List Int,y_=(x120001_1 ++ [Int.tmod (wrap64 (Int.tdiv x8_2 2)) 2]):=⟨_,rfl⟩;replace H:(spec_l1Cur_tableOf.l0 k2 a1 t123 (wrap64 (x7_1+1)) s0_0 x1001_1 x1002_1 a1 y127)=some (r1,r2,r3,r4):=q3y_ hy127 H
          have Ny127:=aM hy127;clear hy127;have H':=aM H;clear H;have hnb21:=NB119_118.out;have hnc21:=NB118_119.out;have hnb22:=NB119_0.out;have hnc22:=NB0_119.out;obtain ⟨hcz23_0,hcz23_1,hfz23_0,hfz23_1⟩:=zk2 BK119.out
          go_wp2_with (first | ((with_reducible refine gate_builtin (b := .append) (xs:=#[.tmp 43,.tmp 45]) rfl ?_);at_builtin;refine Kd.R_append (Kd.int .i64) w.heap.size rfl (.tmp 43) (.tmp 45) 24 3 (.int .i64 0) 8 rfl Tryd.underlying24 info3 rfl (by decide) (by omega) u120001 x120001_1 (Int.tmod (wrap64 (Int.tdiv x8_2 2)) 2) [.int .i64 (Int.tmod (wrap64 (Int.tdiv x8_2 2)) 2)] (fun _=>True) (fun _=>False) rfl rfl ?aP (fun _ hk=>hk.elim) ?aF ?aO (Below.refl _ _) ?aS ?aL ?_;(case aP=>exact rfl);(case aF=>exact zdc_);(case aO=>exact (zr HO_120001.out));(case aS=>exact zbad_);(case aL=>have:=LMc20.out;omega);intro v128 w24 ho hb hg hat;rw [← Ny127.out] at ho;have n_:=z (blk_grown (g:=gb118) (o := .cells #[.int .i64 0,.slice none 0 0] 26 (0,0)) (zb BK118.out) hg (Kd.R_ne HO_120001.out BK118.out (by decide)))<|z (blk_grown (g:=gb119) (o := .cells #[.int .i64 a1,u120001] 26 (0,0)) (zb BK119.out) hg (Kd.R_ne HO_120001.out BK119.out (by decide)))<|z (IsS66.grown zcd_ hg (IsS66.own_ne HI0.out HO_120001.out (by decide)))<|z (below_weaken zcj_ HL.out hb)<|z (KeepBut.trans zch_ (KeepBut.of_grown hg g) (Kd.R_base2 HO_120001.out))<|z1 (ho);clear BK118 BK119 HI0 HB HK HO_120001;obtain ⟨BK118,BK119,HI0,HB,HK,HO129⟩:=n_;clear ho hb hg hat;obtain ⟨Ao25,co25,eo25⟩:=Kd.R_slice HO129.out;subst eo25;obtain ⟨hcz26_0,hcz26_1,hfz26_0,hfz26_1⟩:=zk2 BK119.out))
          go_roundg k2
          case measure=>have:=HK1.out;have:=HK2.out;omega
          case rel=>exact ⟨(wrap64 (x7_1+1)),(x1001_1),(x1002_1),(y127),(.slice Ao25 y127.length co25),zc_,H',⟨by have:=HK1.out;have:=HK2.out;omega⟩,⟨by refine zr ?_;exact Kd.R_mono (Kd.R_far (p:=⟨gb119,1,none⟩) (Kd.R_types HO129.out BK119.out (by decide)) (fun _ hk=>hk.2) (.slice Ao25 y127.length co25)) (fun _ hk=>trivial)⟩,⟨by refine zb ?_;refine blk_far ?_ NB118_119.out _;refine zb ?_;exact BK118.out⟩,⟨zbae_⟩,⟨zcd_⟩,⟨zch_⟩,⟨zcj_⟩⟩
         ·rw [if_neg c20] at H
          exact q3n_ H
     ·rw [if_neg c17] at H
      have c17b0:=beq_eq_false_iff_ne.mpr c17;have c17b1:=bne_iff_ne.mpr c17;replace H:=oB.mp H;obtain ⟨⟨t130,t131,t132⟩,A270,H⟩:=H;replace H:(if t130=true then (if x120001_1.length<17592186044416 then (spec_l1Cur_tableOf.l0 k1 a1 t123 (wrap64 (x7_1+1)) s0_0 t131 t132 a1 (x120001_1 ++ [1])) else (none)) else (if x120001_1.length<17592186044416 then (spec_l1Cur_tableOf.l0 k1 a1 t123 (wrap64 (x7_1+1)) s0_0 t131 t132 a1 (x120001_1 ++ [0])) else (none)))=some (r1,r2,r3,r4):=H;have A27:=aM A270;clear A270
      by_cases c28:t130=true
      ·subst c28
       have H1:(if x120001_1.length<17592186044416 then (spec_l1Cur_tableOf.l0 k1 a1 t123 (wrap64 (x7_1+1)) s0_0 t131 t132 a1 (x120001_1 ++ [1])) else (none))=some (r1,r2,r3,r4):=by rw [if_pos rfl] at H;exact H
       clear H;have H:=H1;clear H1
       by_cases c29:x120001_1.length<17592186044416
       ·rw [if_pos c29] at H
        have LMc29:=aM c29;clear c29;obtain ⟨y133,hy133⟩:∃ y_:List Int,y_=(x120001_1 ++ [1]):=⟨_,rfl⟩;replace H:(spec_l1Cur_tableOf.l0 k1 a1 t123 (wrap64 (x7_1+1)) s0_0 t131 t132 a1 y133)=some (r1,r2,r3,r4):=q3y_ hy133 H
        have Ny133:=aM hy133;clear hy133;have H':=aM H;clear H
        go_wp2_with (first | ((with_reducible refine gate_callee (f:=60) rfl ?_);refine goesL_ (some 41) rfl rfl Tryd.func60 (by kernel_rfl) rfl #[.pointer (some ⟨g,0,none⟩),.int .i64 t123] rfl ze_ ?_;(with_reducible refine (spec_l1Cur_one.calls g s0_0 x1001_1 x1002_1 t123 true t131 t132 w0 _ ?side1 ?side2 A27.out).mono ?_);(case side1=>exact zcd_);(case side2=>exact zcj_);rintro e w30 ⟨rfl,hi,hb,hk⟩;refine ⟨_,rfl,?_⟩;have n_:=z (Kd.R_mono (Kd.R_keep (IsS66.apart (show IsS66 w0 _ g s0_0 x1001_1 x1002_1 from zcd_) (zr HO_120001.out) (by decide)) hk (fun _ h=>h.2)) (fun _ h=>h.1))<|z (KeepBut.blk hk (zb BK118.out) NB118_0.out (by simp))<|z (KeepBut.blk hk (zb BK119.out) NB119_0.out (by simp))<|z (KeepBut.trans zch_ hk (.inl rfl))<|z (hb)<|z1 (hi);clear HO_120001 BK118 BK119 HK HB HI0;obtain ⟨HO_120001,BK118,BK119,HK,HB,HI0⟩:=n_;clear hb hk hi;have hnb31:=NB119_118.out;have hnc31:=NB118_119.out;have hnb32:=NB119_0.out;have hnc32:=NB0_119.out;obtain ⟨hcz33_0,hcz33_1,hfz33_0,hfz33_1⟩:=zk2 BK119.out)|((with_reducible refine gate_builtin (b := .append) (xs:=#[.tmp 43,.tmp 45]) rfl ?_);at_builtin;refine Kd.R_append (Kd.int .i64) w.heap.size rfl (.tmp 43) (.tmp 45) 24 3 (.int .i64 0) 8 rfl Tryd.underlying24 info3 rfl (by decide) (by omega) u120001 x120001_1 1 [.int .i64 1] (fun _=>True) (fun _=>False) rfl rfl ?aP (fun _ hk=>hk.elim) ?aF ?aO (Below.refl _ _) ?aS ?aL ?_;(case aP=>exact rfl);(case aF=>exact zdc_);(case aO=>exact (zr HO_120001.out));(case aS=>exact zbad_);(case aL=>have:=LMc29.out;omega);intro v134 w34 ho hb hg hat;rw [← Ny133.out] at ho;have n_:=z (blk_grown (g:=gb118) (o := .cells #[.int .i64 0,.slice none 0 0] 26 (0,0)) (zb BK118.out) hg (Kd.R_ne HO_120001.out BK118.out (by decide)))<|z (blk_grown (g:=gb119) (o := .cells #[.int .i64 a1,u120001] 26 (0,0)) (zb BK119.out) hg (Kd.R_ne HO_120001.out BK119.out (by decide)))<|z (IsS66.grown zcd_ hg (IsS66.own_ne HI0.out HO_120001.out (by decide)))<|z (below_weaken zcj_ HL.out hb)<|z (KeepBut.trans zch_ (KeepBut.of_grown hg g) (Kd.R_base2 HO_120001.out))<|z1 (ho);clear BK118 BK119 HI0 HB HK HO_120001;obtain ⟨BK118,BK119,HI0,HB,HK,HO135⟩:=n_;clear ho hb hg hat;obtain ⟨Ao35,co35,eo35⟩:=Kd.R_slice HO135.out;subst eo35;obtain ⟨hcz36_0,hcz36_1,hfz36_0,hfz36_1⟩:=zk2 BK119.out))
        go_roundg k1
        case measure=>have:=HK1.out;omega
        case rel=>exact ⟨(wrap64 (x7_1+1)),(t131),(t132),(y133),(.slice Ao35 y133.length co35),zc_,H',⟨zcc_⟩,⟨by refine zr ?_;exact Kd.R_mono (Kd.R_far (p:=⟨gb119,1,none⟩) (Kd.R_types HO135.out BK119.out (by decide)) (fun _ hk=>hk.2) (.slice Ao35 y133.length co35)) (fun _ hk=>trivial)⟩,⟨by refine zb ?_;refine blk_far ?_ NB118_119.out _;refine zb ?_;exact BK118.out⟩,⟨zbae_⟩,⟨zcd_⟩,⟨zch_⟩,⟨zcj_⟩⟩
       ·rw [if_neg c29] at H
        exact q3n_ H
      ·replace c28:=Bool.eq_false_iff.mpr c28
       subst c28;have H1:(if x120001_1.length<17592186044416 then (spec_l1Cur_tableOf.l0 k1 a1 t123 (wrap64 (x7_1+1)) s0_0 t131 t132 a1 (x120001_1 ++ [0])) else (none))=some (r1,r2,r3,r4):=by rw [if_neg (show ¬ (false=true) by decide)] at H;exact H
       clear H;have H:=H1;clear H1
       by_cases c37:x120001_1.length<17592186044416
       ·rw [if_pos c37] at H
        have LMc37:=aM c37;clear c37;obtain ⟨y136,hy136⟩:∃ y_:List Int,y_=(x120001_1 ++ [0]):=⟨_,rfl⟩;replace H:(spec_l1Cur_tableOf.l0 k1 a1 t123 (wrap64 (x7_1+1)) s0_0 t131 t132 a1 y136)=some (r1,r2,r3,r4):=q3y_ hy136 H
        have Ny136:=aM hy136;clear hy136;have H':=aM H;clear H
        go_wp2_with (first | ((with_reducible refine gate_callee (f:=60) rfl ?_);refine goesL_ (some 41) rfl rfl Tryd.func60 (by kernel_rfl) rfl #[.pointer (some ⟨g,0,none⟩),.int .i64 t123] rfl ze_ ?_;(with_reducible refine (spec_l1Cur_one.calls g s0_0 x1001_1 x1002_1 t123 false t131 t132 w0 _ ?side1 ?side2 A27.out).mono ?_);(case side1=>exact zcd_);(case side2=>exact zcj_);rintro e w38 ⟨rfl,hi,hb,hk⟩;refine ⟨_,rfl,?_⟩;have n_:=z (Kd.R_mono (Kd.R_keep (IsS66.apart (show IsS66 w0 _ g s0_0 x1001_1 x1002_1 from zcd_) (zr HO_120001.out) (by decide)) hk (fun _ h=>h.2)) (fun _ h=>h.1))<|z (KeepBut.blk hk (zb BK118.out) NB118_0.out (by simp))<|z (KeepBut.blk hk (zb BK119.out) NB119_0.out (by simp))<|z (KeepBut.trans zch_ hk (.inl rfl))<|z (hb)<|z1 (hi);clear HO_120001 BK118 BK119 HK HB HI0;obtain ⟨HO_120001,BK118,BK119,HK,HB,HI0⟩:=n_;clear hb hk hi;have hnb39:=NB119_118.out;have hnc39:=NB118_119.out;have hnb40:=NB119_0.out;have hnc40:=NB0_119.out;obtain ⟨hcz41_0,hcz41_1,hfz41_0,hfz41_1⟩:=zk2 BK119.out)|((with_reducible refine gate_builtin (b := .append) (xs:=#[.tmp 43,.tmp 45]) rfl ?_);at_builtin;refine Kd.R_append (Kd.int .i64) w.heap.size rfl (.tmp 43) (.tmp 45) 24 3 (.int .i64 0) 8 rfl Tryd.underlying24 info3 rfl (by decide) (by omega) u120001 x120001_1 0 [.int .i64 0] (fun _=>True) (fun _=>False) rfl rfl ?aP (fun _ hk=>hk.elim) ?aF ?aO (Below.refl _ _) ?aS ?aL ?_;(case aP=>exact rfl);(case aF=>exact zdc_);(case aO=>exact (zr HO_120001.out));(case aS=>exact zbad_);(case aL=>have:=LMc37.out;omega);intro v137 w42 ho hb hg hat;rw [← Ny136.out] at ho;have n_:=z (blk_grown (g:=gb118) (o := .cells #[.int .i64 0,.slice none 0 0] 26 (0,0)) (zb BK118.out) hg (Kd.R_ne HO_120001.out BK118.out (by decide)))<|z (blk_grown (g:=gb119) (o := .cells #[.int .i64 a1,u120001] 26 (0,0)) (zb BK119.out) hg (Kd.R_ne HO_120001.out BK119.out (by decide)))<|z (IsS66.grown zcd_ hg (IsS66.own_ne HI0.out HO_120001.out (by decide)))<|z (below_weaken zcj_ HL.out hb)<|z (KeepBut.trans zch_ (KeepBut.of_grown hg g) (Kd.R_base2 HO_120001.out))<|z1 (ho);clear BK118 BK119 HI0 HB HK HO_120001;obtain ⟨BK118,BK119,HI0,HB,HK,HO138⟩:=n_;clear ho hb hg hat;obtain ⟨Ao43,co43,eo43⟩:=Kd.R_slice HO138.out;subst eo43;obtain ⟨hcz44_0,hcz44_1,hfz44_0,hfz44_1⟩:=zk2 BK119.out))
        go_roundg k1
        case measure=>have:=HK1.out;omega
        case rel=>exact ⟨(wrap64 (x7_1+1)),(t131),(t132),(y136),(.slice Ao43 y136.length co43),zc_,H',⟨zcc_⟩,⟨by refine zr ?_;exact Kd.R_mono (Kd.R_far (p:=⟨gb119,1,none⟩) (Kd.R_types HO138.out BK119.out (by decide)) (fun _ hk=>hk.2) (.slice Ao43 y136.length co43)) (fun _ hk=>trivial)⟩,⟨by refine zb ?_;refine blk_far ?_ NB118_119.out _;refine zb ?_;exact BK118.out⟩,⟨zbae_⟩,⟨zcd_⟩,⟨zch_⟩,⟨zcj_⟩⟩
       ·rw [if_neg c37] at H
        exact q3n_ H
    ·rw [if_neg c16] at H
     have c16b0:=decide_eq_false c16;clear c16
     simp only [Option.some.injEq,Prod.mk.injEq] at H
     obtain ⟨rfl,rfl,rfl,rfl⟩:=H;have hnb45:=NB119_118.out;have hnc45:=NB118_119.out;have hnb46:=NB119_0.out;have hnc46:=NB0_119.out;obtain ⟨hcz47_0,hcz47_1,hfz47_0,hfz47_1⟩:=zk2 BK119.out;have hnb48:=NB118_0.out;have hnc48:=NB0_118.out;obtain ⟨hcz49_0,hcz49_1,hfz49_0,hfz49_1⟩:=zk2 BK118.out;obtain ⟨Ao50,co50,eo50⟩:=Kd.R_slice HO_120001.out;subst eo50
     go_wp2
     refine bodyPost_ret (results_cell_row rfl _ _ gb118 26 #[.int .i64 a1,.slice Ao50 x120001_1.length co50] (0,0) _ rfl (by refine zb ?_;refine blk_put (cs:=#[.int .i64 a1,.slice none 0 0]) ?_ 1 _ rfl;refine zb ?_;refine blk_put (cs:=#[.int .i64 0,.slice none 0 0]) ?_ 0 _ rfl;refine zb ?_;exact BK118.out) Tryd.underlying26 rfl (by kernel_rfl)) rfl ?_
     exact ⟨_,by first | rfl | (simp [errW_none,errW_some] <;> rfl)|(simp only [← hji13,← hji15];first | rfl | (simp [errW_none,errW_some] <;> rfl))|(simp [*,errW_none,errW_some] <;> rfl),by refine zr ?_;exact Kd.R_mono (Kd.R_far (p:=⟨gb118,1,none⟩) (Kd.R_far (p:=⟨gb118,0,none⟩) (Kd.R_types HO_120001.out BK118.out (by decide)) (fun _ hk=>hk.2) (.int .i64 a1)) (fun _ hk=>hk.2) (.slice Ao50 x120001_1.length co50)) (fun _ hk=>trivial),zcd_,zcj_,zch_⟩
   ·rw [if_neg c14] at H
    exact q3n_ H
def spec_l1Cur_table.f (k:Nat) (s0_0:List Int) (s0_1:Int) (s0_2:Int):Option (Int×List Int×Int×Int):=(spec_l1Cur_among.f s0_0 s0_1 s0_2 (([0,1,2,2,3,3,4]:List Int))).bind fun bt143=>((spec_l1Cur_tableOf.f k s0_0 bt143.2.1 bt143.2.2 bt143.1).bind fun bt146=>(some (bt146.1,bt146.2.1,bt146.2.2.1,bt146.2.2.2)))
theorem spec_l1Cur_table.calls (k:Nat) (g:Nat) (s0_0:List Int) (s0_1:Int) (s0_2:Int) (r1:Int) (r2:List Int) (r3:Int) (r4:Int) (w0 w:World) (hI:IsS66 w0 w g s0_0 s0_1 s0_2) (hB:Below w0.heap.size w0 w) (h:spec_l1Cur_table.f k s0_0 s0_1 s0_2=some (r1,r2,r3,r4)) :
  Calls Tryd.prog 78 #[.pointer (some ⟨g,0,none⟩)] w fun e w' => ∃ v1_:Value,e = .returned (.agg #[.int .i64 r1,v1_])∧Kd.R (Kd.int .i64) 3 w' w.heap.size (fun _=>True) v1_ r2∧IsS66 w0 w' g s0_0 r3 r4∧Below w0.heap.size w0 w'∧KeepBut w w' g none:=by
 have hu26:=Tryd.underlying26
 have HI0:=aM hI
 have HK:=aM (KeepBut.refl w g none)
 have HL:=aM hB.size
 clear hI
 have HW0:=aM hB.size
 have HB:=aM hB
 clear hB
 have H:((spec_l1Cur_among.f s0_0 s0_1 s0_2 (([0,1,2,2,3,3,4]:List Int))).bind fun bt143=>((spec_l1Cur_tableOf.f k s0_0 bt143.2.1 bt143.2.2 bt143.1).bind fun bt146=>(some (bt146.1,bt146.2.1,bt146.2.2.1,bt146.2.2.2))))=some (r1,r2,r3,r4):=h
 clear h
 obtain ⟨y140,hy140⟩:∃ y_:List Int,y_=(([0,1,2,2,3,3,4]:List Int)):=⟨_,rfl⟩
 replace H:((spec_l1Cur_among.f s0_0 s0_1 s0_2 y140).bind fun bt143=>((spec_l1Cur_tableOf.f k s0_0 bt143.2.1 bt143.2.2 bt143.1).bind fun bt146=>(some (bt146.1,bt146.2.1,bt146.2.2.1,bt146.2.2.2))))=some (r1,r2,r3,r4):=q3y_ hy140 H
 have Ny140:=aM hy140
 clear hy140
 replace H:=oB.mp H
 obtain ⟨⟨t143,t144,t145⟩,A20,H⟩:=H
 replace H:((spec_l1Cur_tableOf.f k s0_0 t144 t145 t143).bind fun bt146=>(some (bt146.1,bt146.2.1,bt146.2.2.1,bt146.2.2.2)))=some (r1,r2,r3,r4):=H
 have A2:=aM A20
 clear A20
 replace H:=oB.mp H
 obtain ⟨⟨t146,t147,t150,t151⟩,A30,H⟩:=H
 replace H:(some (t146,t147,t150,t151))=some (r1,r2,r3,r4):=H
 have A3:=aM A30
 clear A30
 simp only [Option.some.injEq,Prod.mk.injEq] at H
 obtain ⟨rfl,rfl,rfl,rfl⟩:=H
 go_enter Tryd.func78,Tryd.ntmps78
 go_wp2_with (first | ((with_reducible refine gate_dst (N:=2) rfl ?_);refine box_event ?hg (N:=2) ?hd (cs:=#[.int .i64 0,.slice none 0 0]) (t:=26) ?hr ?_;(case hd=>rfl);(case hg=>rfl);(case hr=>exact zb_);intro gb139 hg w4 hbox hb;have n_:=z (IsS66.below zf_ hb)<|z (KeepBut.trans zg_ (KeepBut.of_below hb g none) (.inl rfl))<|z (below_step zi_ hb)<|z (hbox)<|z ((by rw [hg];exact (keep_size (w:=w) (g:=g) (row:=none) zg_):w.heap.size≤gb139))<|z ((Nat.le_trans HW0.out (by rw [hg];exact (keep_size (w:=w) (g:=g) (row:=none) zg_):w.heap.size≤gb139):w0.heap.size≤gb139))<|z ((by rw [hg];exact Nat.ne_of_lt (IsS66.lt (show IsS66 w0 _ g s0_0 s0_1 s0_2 from zf_)):g≠gb139))<|z1 ((by rw [hg];exact Nat.ne_of_gt (IsS66.lt (show IsS66 w0 _ g s0_0 s0_1 s0_2 from zf_)):gb139≠g));clear HI0 HK HB;obtain ⟨HI0,HK,HB,BK139,GW139,GE139,NB0_139,NB139_0⟩:=n_;clear hb hbox hg)|((with_reducible refine gate_dst (N:=5) rfl ?_);refine Kd.R_lit (Kd.int .i64) _ 3 ?hg (N:=5) ?hd (xs:=([0,1,2,2,3,3,4]:List Int)) (inner:=[.int .i64 0,.int .i64 1,.int .i64 2,.int .i64 2,.int .i64 3,.int .i64 3,.int .i64 4]) (ok:=fun _=>True) (okp:=fun _=>True) ?hr ?hp (fun _ hk=>hk) trivial (Below.refl _ _) (Nat.le_refl _) (by simp) ?_;(case hd=>rfl);(case hg=>rfl);(case hr=>exact zb_);(case hp=>exact (Reps.one (show Kd.M (Kd.int .i64) _ _ _ 0 [.int .i64 0] from rfl) (Reps.one (show Kd.M (Kd.int .i64) _ _ _ 1 [.int .i64 1] from rfl) (Reps.one (show Kd.M (Kd.int .i64) _ _ _ 2 [.int .i64 2] from rfl) (Reps.one (show Kd.M (Kd.int .i64) _ _ _ 2 [.int .i64 2] from rfl) (Reps.one (show Kd.M (Kd.int .i64) _ _ _ 3 [.int .i64 3] from rfl) (Reps.one (show Kd.M (Kd.int .i64) _ _ _ 3 [.int .i64 3] from rfl) (Reps.one (show Kd.M (Kd.int .i64) _ _ _ 4 [.int .i64 4] from rfl) (Reps.none _ _)))))))));intro v141 w5 ho6 hb hg_ hnew_;clear hg_ hnew_;(first | rw [← Ny140.out] at ho6 | (simp only [Int.reduceToNat] at ho6;rw [← Ny140.out] at ho6));have n_:=z (Kd.R_lower ho6 (keep_size (w:=w) (g:=g) (row:=none) zfg_))<|z (IsS66.below zfh_ hb)<|z (blk_below (zb BK139.out) hb)<|z (KeepBut.trans zfg_ (KeepBut.of_below hb g none) (.inl rfl))<|z1 (below_step zjf_ hb);clear HI0 BK139 HK HB;obtain ⟨HO142,HI0,BK139,HK,HB⟩:=n_;clear hb ho6;obtain ⟨Ao7,co7,eo7⟩:=Kd.R_slice HO142.out;subst eo7)|((with_reducible refine gate_callee (f:=61) rfl ?_);refine goesL_ (some 6) rfl rfl Tryd.func61 (by kernel_rfl) rfl #[.pointer (some ⟨g,0,none⟩),.slice Ao7 y140.length co7] rfl ze_ ?_;(with_reducible refine (spec_l1Cur_among.calls g s0_0 s0_1 s0_2 _ _ y140 t143 t144 t145 w0 _ ?side1 ?side2 ?side3 ?side4 ?side5 A2.out).mono ?_);(case side1=>exact zfh_);(case side2=>exact zjf_);(case side3=>repeat (first | exact (Kd.R_reads' HO142.out).2.2 | (with_reducible refine cA ?_ _)|(with_reducible refine cN ?_ _)|(with_reducible refine cD ?_)));(case side4=>exact (Kd.R_reads' HO142.out).2.1);(case side5=>exact far_slice (IsS66.own_ne HI0.out HO142.out (by decide)));rintro e w8 ⟨rfl,hi,hb,hk⟩;refine ⟨_,rfl,?_⟩;have n_:=z (KeepBut.blk hk (zb BK139.out) NB139_0.out (by simp))<|z (Kd.R_mono (Kd.R_keep (IsS66.apart (show IsS66 w0 _ g s0_0 s0_1 s0_2 from zfh_) (zr HO142.out) (by decide)) hk (fun _ h=>h.2)) (fun _ h=>h.1))<|z (KeepBut.trans zfg_ hk (.inl rfl))<|z (hb)<|z1 (hi);clear BK139 HO142 HK HB HI0;obtain ⟨BK139,HO142,HK,HB,HI0⟩:=n_;clear hb hk hi)|((with_reducible refine gate_callee (f:=73) rfl ?_);refine goesL_ (some 7) rfl rfl Tryd.func73 (by kernel_rfl) rfl #[.pointer (some ⟨g,0,none⟩),.int .i64 t143] rfl ze_ ?_;(with_reducible refine (spec_l1Cur_tableOf.calls k g s0_0 t144 t145 t143 t146 t147 t150 t151 w0 _ ?side1 ?side2 A3.out).mono ?_);(case side1=>exact zfh_);(case side2=>exact zjf_);rintro e w9 ⟨v148,rfl,ho0,hi,hb,hk⟩;refine ⟨_,rfl,?_⟩;have n_:=z (KeepBut.blk hk (zb BK139.out) NB139_0.out (by simp))<|z (Kd.R_mono (Kd.R_told (Kd.R_oldK (IsS66.apart (show IsS66 w0 _ g s0_0 t144 t145 from zfh_) (zr HO142.out) (by decide)) hk) (Kd.R_base ho0)) (fun _ h_=>h_.1))<|z (Kd.R_lower (Kd.R_new' ho0 (Kd.R_lt (zr HO142.out))) (keep_size (w:=w) (g:=g) (row:=none) zfg_))<|z (KeepBut.trans zfg_ hk (.inl rfl))<|z (hb)<|z1 (hi);clear BK139 HO142 HK HB HI0;obtain ⟨BK139,HO142,HO149,HK,HB,HI0⟩:=n_;clear hb hk hi;(try clear ho0);have hnb10:=NB139_0.out;have hnc10:=NB0_139.out;obtain ⟨hcz11_0,hcz11_1,hfz11_0,hfz11_1⟩:=zk2 BK139.out;obtain ⟨Ao12,co12,eo12⟩:=Kd.R_slice HO149.out;subst eo12))
 refine bodyPost_ret (results_cell_row rfl _ _ gb139 26 #[.int .i64 t146,.slice Ao12 t147.length co12] (0,0) _ rfl (by refine zb ?_;refine blk_put (cs:=#[.int .i64 t146,.slice none 0 0]) ?_ 1 _ rfl;refine zb ?_;refine blk_put (cs:=#[.int .i64 0,.slice none 0 0]) ?_ 0 _ rfl;refine zb ?_;exact BK139.out) Tryd.underlying26 rfl (by kernel_rfl)) rfl ?_
 exact ⟨_,zh_,by refine zr ?_;exact Kd.R_mono (Kd.R_far (p:=⟨gb139,1,none⟩) (Kd.R_far (p:=⟨gb139,0,none⟩) (Kd.R_types HO149.out BK139.out (by decide)) (fun _ hk=>hk.2) (.int .i64 t146)) (fun _ hk=>hk.2) (.slice Ao12 t147.length co12)) (fun _ hk=>trivial),zfh_,zjf_,zfg_⟩
end Go.Proofs.YtlnhpkjioppbiaaDoor.QFnTables
