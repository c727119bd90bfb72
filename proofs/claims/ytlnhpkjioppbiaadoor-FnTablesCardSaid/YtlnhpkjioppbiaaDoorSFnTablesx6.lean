/- Functions of FnTables, each as a Lean function, with the proof that the Go code comes to its answers. -/
import Derived.Test.YtlnhpkjioppbiaaDoorSFnTablesx0
import Derived.Test.YtlnhpkjioppbiaaDoorSFnTablesx1
import Derived.Test.YtlnhpkjioppbiaaDoorSFnTablesx3
namespace Go.Proofs.YtlnhpkjioppbiaaDoor.QFnTables
open Go.RowKit Go.Proofs.YtlnhpkjioppbiaaDoorW.PrintWords Go.Proofs.YtlnhpkjioppbiaaDoorW.PrintLast Go.Proofs.YtlnhpkjioppbiaaDoorW.PrintMore
open Go.Proofs.YtlnhpkjioppbiaaDoorW.PrintWords renaming pw_below_drewN→pN,below_drew1→p1,below_alloc→pA
open Go.Proofs.YtlnhpkjioppbiaaDoorW.PrintWords.Kd renaming R_alloc→kA,R_drewN→kN,R_drew→kD,Q_alloc→qA,Q_drewN→qN,Q_drew→qD,C_alloc→cA,C_drewN→cN,C_drew→cD
open Go.Proofs.YtlnhpkjioppbiaaDoorW.PrintWords.Aside0 renaming mk→aM
open List renaming setIfInBounds_toArray→sI,set_cons_zero→s0,set_cons_succ→sS,map_toArray→mT,length_take→lT,length_drop→lD,map_cons→mC,map_nil→mN
open Option renaming bind_eq_some_iff→oB,bind_some→oS
attribute [local go_sem] max2_int min2_int max_two min_two max_three min_three max_four min_four
set_option maxHeartbeats 8000000
set_option maxRecDepth 100000
set_option linter.unusedVariables false
set_option linter.unusedSimpArgs false
def spec_ttText.l0:Nat→ByteArray→List Int→Int→Int→Option (ByteArray)
 | 0,_,_,_,_=>none
 | k+1,x3,x11,x12,x13=>if x13<x12 then (if 0≤x13 then (if x13<(x11.length:Int) then ((spec_l1Num.f k (rd x11 x13)).bind fun t225=>(if x3.size+t225.size≤9223372036854775807 then (spec_ttText.l0 k (x3++t225) x11 x12 (wrap64 (x13+1))) else (none))) else (none)) else (none)) else (some x3)
def spec_ttText.f (k:Nat) (a0_0:Int) (l0_1:List Int):Option (ByteArray):=(spec_l1Num.f k a0_0).bind fun t223=>(if t223.size+1≤9223372036854775807 then (spec_ttText.l0 k (t223++(⟨#[58]⟩:ByteArray)) l0_1 (l0_1.length:Int) 0) else (none))
theorem spec_ttText.calls (k:Nat) (a0_0:Int) (A0_1:Option Addr) (c0_1:Nat) (l0_1:List Int) (r:ByteArray) (w:World) (hr0_1:Kd.C (Kd.int .i64) w A0_1 l0_1.length l0_1) (hc0_1:l0_1.length≤c0_1) (h:spec_ttText.f k a0_0 l0_1=some r) :
  Calls Tryd.prog 72 #[.agg #[.int .i64 a0_0,.slice A0_1 l0_1.length c0_1]] w fun e w'=>e = .returned (.string r)∧Below w.heap.size w w':=by
 have hu26:=Tryd.underlying26
 have HR0_1:=aM hr0_1
 have HC0_1:=aM hc0_1
 clear hr0_1 hc0_1
 have HB:=aM (Below.refl w.heap.size w)
 have H:((spec_l1Num.f k a0_0).bind fun t223=>(if t223.size+1≤9223372036854775807 then (spec_ttText.l0 k (t223++(⟨#[58]⟩:ByteArray)) l0_1 (l0_1.length:Int) 0) else (none)))=some r:=h
 clear h
 replace H:=oB.mp H
 obtain ⟨t223,A20,H⟩:=H
 replace H:(if t223.size+1≤9223372036854775807 then (spec_ttText.l0 k (t223++(⟨#[58]⟩:ByteArray)) l0_1 (l0_1.length:Int) 0) else (none))=some r:=H
 have A2:=aM A20
 clear A20
 by_cases c3:t223.size+1≤9223372036854775807
 ·rw [if_pos c3] at H
  have c3b0:=eq_true c3;have c3b1:=decide_eq_true c3;(try have c3b2:(9223372036854775807<t223.size+1)=False:=eq_false (Nat.not_lt.2 c3));have H':=aM H;clear H
  go_enter Tryd.func72,Tryd.ntmps72
  go_wp2_with (first | ((with_reducible refine gate_dst (N:=1) rfl ?_);refine box_event ?hg (N:=1) ?hd (cs:=#[.int .i64 a0_0,.slice A0_1 l0_1.length c0_1]) (t:=26) ?hr ?_;(case hd=>rfl);(case hg=>rfl);(case hr=>exact zb_);intro gb222 hg w4 hbox hb;have n_:=z (below_step za_ hb)<|z (hbox)<|z ((by rw [hg];exact (below_size za_):w.heap.size≤gb222))<|z1 ((by rw [hg];exact (below_size za_):w.heap.size≤gb222));clear HB;obtain ⟨HB,BK222,GW222,GE222⟩:=n_;clear hb hbox hg;obtain ⟨hcz5_0,hcz5_1,hfz5_0,hfz5_1⟩:=zk2 BK222.out)|((with_reducible refine gate_callee (f:=69) rfl ?_);refine goesL_ (some 8) rfl rfl Tryd.func69 (by kernel_rfl) rfl #[.int .i64 a0_0] rfl ze_ ?_;(with_reducible refine (spec_l1Num.calls k a0_0 t223 _ A2.out).mono ?_);rintro e w6 ⟨rfl,hb⟩;refine ⟨_,rfl,?_⟩;have n_:=z (blk_below (zb BK222.out) hb)<|z1 (below_step zhd_ hb);clear BK222 HB;obtain ⟨BK222,HB⟩:=n_;clear hb;obtain ⟨hcz7_0,hcz7_1,hfz7_0,hfz7_1⟩:=zk2 BK222.out))
  go_loopg [3,13] k (fun kq v3 v13 w' => ∃ (x3_1:ByteArray) (x13_1:Int),v3 = .string x3_1∧v13 = .int .i64 x13_1∧Aside0 (spec_ttText.l0 kq x3_1 l0_1 (l0_1.length:Int) x13_1=some r)∧Aside0 (kq≤k)∧Aside0 (w'.heap[gb222]?=some (.cells #[.int .i64 a0_0,(.slice A0_1 l0_1.length c0_1)] 26 (0,0)))∧Aside0 (Below w.heap.size w w'))
  case atStart=>exact ⟨(t223++(⟨#[58]⟩:ByteArray)),(0),zc_,zc_,H',⟨Nat.le_refl _⟩,⟨zb BK222.out⟩,⟨zhd_⟩⟩
  case round =>
   clear H';(try clear c3);(try clear c3b0);(try clear c3b1);(try clear c3b2);(try clear hcz5_0);(try clear hcz5_1);(try clear hcz7_0);(try clear hcz7_1);(try clear hfz5_0);(try clear hfz5_1);(try clear hfz7_0);(try clear hfz7_1);obtain ⟨x3_1,x13_1,rfl,rfl,HA,HK1,BK222,HB⟩:=hrel
   cases gk with
   | zero=>exact absurd HA.out (by simp [spec_ttText.l0])
   | succ k1 =>
    have H:=HA.out;clear HA
    simp only [spec_ttText.l0] at H
    by_cases c8:x13_1<(l0_1.length:Int)
    ·rw [if_pos c8] at H
     have c8b0:=decide_eq_true c8;clear c8
     by_cases c9:0≤x13_1
     ·rw [if_pos c9] at H
      have c9b0:=decide_eq_true c9;clear c9
      by_cases c10:x13_1<(l0_1.length:Int)
      ·rw [if_pos c10] at H
       have c10b0:=decide_eq_true c10;clear c10;replace H:=oB.mp H;obtain ⟨t225,A110,H⟩:=H;replace H:(if x3_1.size+t225.size≤9223372036854775807 then (spec_ttText.l0 k1 (x3_1++t225) l0_1 (l0_1.length:Int) (wrap64 (x13_1+1))) else (none))=some r:=H;have A11:=aM A110;clear A110
       by_cases c12:x3_1.size+t225.size≤9223372036854775807
       ·rw [if_pos c12] at H
        have c12b0:=eq_true c12;have c12b1:=decide_eq_true c12;(try have c12b2:(9223372036854775807<x3_1.size+t225.size)=False:=eq_false (Nat.not_lt.2 c12));have H':=aM H;clear H;have p224:0≤(x13_1:Int):=of_decide_eq_true zd_;have q224:x13_1<(l0_1.length:Int):=of_decide_eq_true zd_;obtain ⟨ad224,e224,hx224_0⟩:=Kd.at_int HR0_1.out x13_1 p224 q224
        cases e224
        (try (replace hx224_0:=q3h_ HB.out hx224_0));replace p224:=eq_true p224;replace q224:=eq_true q224
        go_wp2_with (first | ((with_reducible refine gate_callee (f:=69) rfl ?_);refine goesL_ (some 19) rfl rfl Tryd.func69 (by kernel_rfl) rfl #[.int .i64 (rd l0_1 x13_1)] rfl ze_ ?_;(with_reducible refine (spec_l1Num.calls k1 (rd l0_1 x13_1) t225 _ A11.out).mono ?_);rintro e w13 ⟨rfl,hb⟩;refine ⟨_,rfl,?_⟩;have n_:=z (blk_below (zb BK222.out) hb)<|z1 (below_step zhd_ hb);clear BK222 HB;obtain ⟨BK222,HB⟩:=n_;clear hb))
        go_roundg k1
        case measure=>have:=HK1.out;omega
        case rel=>exact ⟨(x3_1++t225),(wrap64 (x13_1+1)),zc_,zc_,H',⟨zcc_⟩,⟨zb BK222.out⟩,⟨zhd_⟩⟩
       ·rw [if_neg c12] at H
        exact q3n_ H
      ·rw [if_neg c10] at H
       exact q3n_ H
     ·rw [if_neg c9] at H
      exact q3n_ H
    ·rw [if_neg c8] at H
     have c8b0:=decide_eq_false c8;clear c8;obtain rfl:=Option.some.inj H
     go_wp2
     go_ret
     exact ⟨zh_,zhd_⟩
 ·rw [if_neg c3] at H
  exact q3n_ H
def spec_TableText.f (k:Nat) (a0_0:Int) (l0_1:List Int):Option (ByteArray×Bool):=(spec_ttGood.f k a0_0 l0_1).bind fun t227=>(if t227=true then ((spec_ttText.f k a0_0 l0_1).bind fun t228=>(some (t228,true))) else (some ((⟨#[]⟩:ByteArray),false)))
theorem spec_TableText.calls (k:Nat) (a0_0:Int) (A0_1:Option Addr) (c0_1:Nat) (l0_1:List Int) (r1:ByteArray) (r2:Bool) (w:World) (hr0_1:Kd.C (Kd.int .i64) w A0_1 l0_1.length l0_1) (hc0_1:l0_1.length≤c0_1) (h:spec_TableText.f k a0_0 l0_1=some (r1,r2)) :
  Calls Tryd.prog 32 #[.agg #[.int .i64 a0_0,.slice A0_1 l0_1.length c0_1]] w fun e w'=>e = .returned (.tuple #[.string r1,.bool r2])∧Below w.heap.size w w':=by
 have hu26:=Tryd.underlying26
 have HR0_1:=aM hr0_1
 have HC0_1:=aM hc0_1
 clear hr0_1 hc0_1
 have HB:=aM (Below.refl w.heap.size w)
 have H:((spec_ttGood.f k a0_0 l0_1).bind fun t227=>(if t227=true then ((spec_ttText.f k a0_0 l0_1).bind fun t228=>(some (t228,true))) else (some ((⟨#[]⟩:ByteArray),false))))=some (r1,r2):=h
 clear h
 replace H:=oB.mp H
 obtain ⟨t227,A20,H⟩:=H
 replace H:(if t227=true then ((spec_ttText.f k a0_0 l0_1).bind fun t228=>(some (t228,true))) else (some ((⟨#[]⟩:ByteArray),false)))=some (r1,r2):=H
 have A2:=aM A20
 clear A20
 by_cases c3:t227=true
 ·subst c3
  have H1:((spec_ttText.f k a0_0 l0_1).bind fun t228=>(some (t228,true)))=some (r1,r2):=by rw [if_pos rfl] at H;exact H
  clear H;have H:=H1;clear H1;replace H:=oB.mp H;obtain ⟨t228,A40,H⟩:=H;replace H:(some (t228,true))=some (r1,r2):=H;have A4:=aM A40;clear A40
  simp only [Option.some.injEq,Prod.mk.injEq] at H
  obtain ⟨rfl,rfl⟩:=H
  go_enter Tryd.func32,Tryd.ntmps32
  go_wp2_with (first | ((with_reducible refine gate_dst (N:=1) rfl ?_);refine box_event ?hg (N:=1) ?hd (cs:=#[.int .i64 a0_0,.slice A0_1 l0_1.length c0_1]) (t:=26) ?hr ?_;(case hd=>rfl);(case hg=>rfl);(case hr=>exact zb_);intro gb226 hg w5 hbox hb;have n_:=z (below_step za_ hb)<|z (hbox)<|z ((by rw [hg];exact (below_size za_):w.heap.size≤gb226))<|z1 ((by rw [hg];exact (below_size za_):w.heap.size≤gb226));clear HB;obtain ⟨HB,BK226,GW226,GE226⟩:=n_;clear hb hbox hg;obtain ⟨hcz6_0,hcz6_1,hfz6_0,hfz6_1⟩:=zk2 BK226.out)|((with_reducible refine gate_callee (f:=50) rfl ?_);refine goesL_ (some 5) rfl rfl Tryd.func50 (by kernel_rfl) rfl #[.agg #[.int .i64 a0_0,.slice A0_1 l0_1.length c0_1]] rfl ze_ ?_;(with_reducible refine (spec_ttGood.calls k a0_0 _ _ l0_1 true _ ?side1 ?side2 A2.out).mono ?_);(case side1=>exact zbc_);(case side2=>exact HC0_1.out);rintro e w7 ⟨rfl,hb⟩;refine ⟨_,rfl,?_⟩;have n_:=z (blk_below (zb BK226.out) hb)<|z1 (below_step zhe_ hb);clear BK226 HB;obtain ⟨BK226,HB⟩:=n_;clear hb;obtain ⟨hcz8_0,hcz8_1,hfz8_0,hfz8_1⟩:=zk2 BK226.out)|((with_reducible refine gate_callee (f:=72) rfl ?_);refine goesL_ (some 8) rfl rfl Tryd.func72 (by kernel_rfl) rfl #[.agg #[.int .i64 a0_0,.slice A0_1 l0_1.length c0_1]] rfl ze_ ?_;(with_reducible refine (spec_ttText.calls k a0_0 _ _ l0_1 t228 _ ?side1 ?side2 A4.out).mono ?_);(case side1=>exact zbc_);(case side2=>exact HC0_1.out);rintro e w9 ⟨rfl,hb⟩;refine ⟨_,rfl,?_⟩;have n_:=z (blk_below (zb BK226.out) hb)<|z1 (below_step zhe_ hb);clear BK226 HB;obtain ⟨BK226,HB⟩:=n_;clear hb))
  go_ret2
  exact ⟨zh_,zhe_⟩
 ·replace c3:=Bool.eq_false_iff.mpr c3
  subst c3;have H1:(some ((⟨#[]⟩:ByteArray),false))=some (r1,r2):=by rw [if_neg (show ¬ (false=true) by decide)] at H;exact H
  clear H;have H:=H1;clear H1
  simp only [Option.some.injEq,Prod.mk.injEq] at H
  obtain ⟨rfl,rfl⟩:=H
  go_enter Tryd.func32,Tryd.ntmps32
  go_wp2_with (first | ((with_reducible refine gate_dst (N:=1) rfl ?_);refine box_event ?hg (N:=1) ?hd (cs:=#[.int .i64 a0_0,.slice A0_1 l0_1.length c0_1]) (t:=26) ?hr ?_;(case hd=>rfl);(case hg=>rfl);(case hr=>exact zb_);intro gb226 hg w10 hbox hb;have n_:=z (below_step za_ hb)<|z (hbox)<|z ((by rw [hg];exact (below_size za_):w.heap.size≤gb226))<|z1 ((by rw [hg];exact (below_size za_):w.heap.size≤gb226));clear HB;obtain ⟨HB,BK226,GW226,GE226⟩:=n_;clear hb hbox hg;obtain ⟨hcz11_0,hcz11_1,hfz11_0,hfz11_1⟩:=zk2 BK226.out)|((with_reducible refine gate_callee (f:=50) rfl ?_);refine goesL_ (some 5) rfl rfl Tryd.func50 (by kernel_rfl) rfl #[.agg #[.int .i64 a0_0,.slice A0_1 l0_1.length c0_1]] rfl ze_ ?_;(with_reducible refine (spec_ttGood.calls k a0_0 _ _ l0_1 false _ ?side1 ?side2 A2.out).mono ?_);(case side1=>exact zbc_);(case side2=>exact HC0_1.out);rintro e w12 ⟨rfl,hb⟩;refine ⟨_,rfl,?_⟩;have n_:=z (blk_below (zb BK226.out) hb)<|z1 (below_step zhe_ hb);clear BK226 HB;obtain ⟨BK226,HB⟩:=n_;clear hb))
  go_ret2
  exact ⟨zh_,zhe_⟩
def impl_NotTable.l0:Nat→List Int→Int→Int→Int→List Int→Option (Int×List Int×Bool)
 | 0,_,_,_,_,_=>none
 | k+1,x15,x16,x17,x233000,x233001=>if x17<x16 then (if 0≤x17 then (if x17<(x15.length:Int) then (if x233001.length<17592186044416 then (impl_NotTable.l0 k x15 x16 (wrap64 (x17+1)) x233000 (x233001 ++ [wrap64 (1 - (rd x15 x17))])) else (none)) else (none)) else (none)) else (some (x233000,x233001,true))
def impl_NotTable.f (k:Nat) (a0_0:Int) (l0_1:List Int):Option (Int×List Int×Bool):=(impl_IsTable.f k a0_0 l0_1).bind fun t231=>(if t231=true then (impl_NotTable.l0 k l0_1 (l0_1.length:Int) 0 a0_0 ([]:List Int)) else (some (0,([]:List Int),false)))
theorem impl_NotTable.calls (k:Nat) (a0_0:Int) (A0_1:Option Addr) (c0_1:Nat) (l0_1:List Int) (r1:Int) (r2:List Int) (r3:Bool) (w:World) (hr0_1:Kd.C (Kd.int .i64) w A0_1 l0_1.length l0_1) (hc0_1:l0_1.length≤c0_1) (h:impl_NotTable.f k a0_0 l0_1=some (r1,r2,r3)) :
  Calls Tryd.prog 33 #[.agg #[.int .i64 a0_0,.slice A0_1 l0_1.length c0_1]] w fun e w' => ∃ v1_:Value,e = .returned (.tuple #[.agg #[.int .i64 r1,v1_],.bool r3])∧Kd.R (Kd.int .i64) 3 w' w.heap.size (fun _=>True) v1_ r2∧Below w.heap.size w w':=by
 have hu26:=Tryd.underlying26
 have HR0_1:=aM hr0_1
 have HC0_1:=aM hc0_1
 clear hr0_1 hc0_1
 have HB:=aM (Below.refl w.heap.size w)
 have H:((impl_IsTable.f k a0_0 l0_1).bind fun t231=>(if t231=true then (impl_NotTable.l0 k l0_1 (l0_1.length:Int) 0 a0_0 ([]:List Int)) else (some (0,([]:List Int),false))))=some (r1,r2,r3):=h
 clear h
 replace H:=oB.mp H
 obtain ⟨t231,A20,H⟩:=H
 replace H:(if t231=true then (impl_NotTable.l0 k l0_1 (l0_1.length:Int) 0 a0_0 ([]:List Int)) else (some (0,([]:List Int),false)))=some (r1,r2,r3):=H
 have A2:=aM A20
 clear A20
 by_cases c3:t231=true
 ·subst c3
  have H1:(impl_NotTable.l0 k l0_1 (l0_1.length:Int) 0 a0_0 ([]:List Int))=some (r1,r2,r3):=by rw [if_pos rfl] at H;exact H
  clear H;have H:=H1;clear H1;have H':=aM H;clear H
  go_enter Tryd.func33,Tryd.ntmps33
  go_wp2_with (first | ((with_reducible refine gate_dst (N:=1) rfl ?_);refine box_event ?hg (N:=1) ?hd (cs:=#[.int .i64 a0_0,.slice A0_1 l0_1.length c0_1]) (t:=26) ?hr ?_;(case hd=>rfl);(case hg=>rfl);(case hr=>exact zb_);intro gb229 hg w4 hbox hb;have n_:=z (below_step za_ hb)<|z (hbox)<|z ((by rw [hg];exact (below_size za_):w.heap.size≤gb229))<|z1 ((by rw [hg];exact (below_size za_):w.heap.size≤gb229));clear HB;obtain ⟨HB,BK229,GW229,GE229⟩:=n_;clear hb hbox hg)|((with_reducible refine gate_dst (N:=2) rfl ?_);refine box_event ?hg (N:=2) ?hd (cs:=#[.int .i64 0,.slice none 0 0]) (t:=26) ?hr ?_;(case hd=>rfl);(case hg=>rfl);(case hr=>exact zb_);intro gb230 hg w5 hbox hb;have n_:=z (blk_below (zb BK229.out) hb)<|z (below_step zfj_ hb)<|z (hbox)<|z ((by rw [hg];exact (below_size zfj_):w.heap.size≤gb230))<|z ((by rw [hg];exact (below_size zfj_):w.heap.size≤gb230))<|z ((by rw [hg];exact Nat.ne_of_lt (blk_lt (zb BK229.out)):gb229≠gb230))<|z1 ((by rw [hg];exact Nat.ne_of_gt (blk_lt (zb BK229.out)):gb230≠gb229));clear BK229 HB;obtain ⟨BK229,HB,BK230,GW230,GE230,NB229_230,NB230_229⟩:=n_;clear hb hbox hg;have hnb6:=NB229_230.out;have hnc6:=NB230_229.out;obtain ⟨hcz7_0,hcz7_1,hfz7_0,hfz7_1⟩:=zk2 BK229.out)|((with_reducible refine gate_callee (f:=10) rfl ?_);refine goesL_ (some 8) rfl rfl Tryd.func10 (by kernel_rfl) rfl #[.agg #[.int .i64 a0_0,.slice A0_1 l0_1.length c0_1]] rfl ze_ ?_;(with_reducible refine (impl_IsTable.calls k a0_0 _ _ l0_1 true _ ?side1 ?side2 A2.out).mono ?_);(case side1=>exact zbc_);(case side2=>exact HC0_1.out);rintro e w8 ⟨rfl,hb⟩;refine ⟨_,rfl,?_⟩;have n_:=z (blk_below (zb BK229.out) hb)<|z (blk_below (zb BK230.out) hb)<|z1 (below_step zga_ hb);clear BK229 BK230 HB;obtain ⟨BK229,BK230,HB⟩:=n_;clear hb;obtain ⟨hcz9_0,hcz9_1,hfz9_0,hfz9_1⟩:=zk2 BK229.out)|((with_reducible refine gate_dst (N:=4) rfl ?_);refine box_event ?hg (N:=4) ?hd (cs:=#[.int .i64 0,.slice none 0 0]) (t:=26) ?hr ?_;(case hd=>rfl);(case hg=>rfl);(case hr=>exact zb_);intro gb232 hg w10 hbox hb;have n_:=z (blk_below (zb BK229.out) hb)<|z (blk_below (zb BK230.out) hb)<|z (below_step zga_ hb)<|z (hbox)<|z ((by rw [hg];exact (below_size zga_):w.heap.size≤gb232))<|z ((by rw [hg];exact (below_size zga_):w.heap.size≤gb232))<|z ((by rw [hg];exact Nat.ne_of_lt (blk_lt (zb BK229.out)):gb229≠gb232))<|z ((by rw [hg];exact Nat.ne_of_gt (blk_lt (zb BK229.out)):gb232≠gb229))<|z ((by rw [hg];exact Nat.ne_of_lt (blk_lt (zb BK230.out)):gb230≠gb232))<|z1 ((by rw [hg];exact Nat.ne_of_gt (blk_lt (zb BK230.out)):gb232≠gb230));clear BK229 BK230 HB;obtain ⟨BK229,BK230,HB,BK232,GW232,GE232,NB229_232,NB232_229,NB230_232,NB232_230⟩:=n_;clear hb hbox hg;have hnb11:=NB232_229.out;have hnc11:=NB229_232.out;have hnb12:=NB232_230.out;have hnc12:=NB230_232.out;obtain ⟨hcz13_0,hcz13_1,hfz13_0,hfz13_1⟩:=zk2 BK232.out;obtain ⟨hcz14_0,hcz14_1,hfz14_0,hfz14_1⟩:=zk2 BK229.out))
  go_loopg [17] k (fun kq v17 w' => ∃ (x17_1:Int) (x233001_1:List Int) (u233001:Value),v17 = .int .i64 x17_1∧Aside0 (impl_NotTable.l0 kq l0_1 (l0_1.length:Int) x17_1 a0_0 x233001_1=some (r1,r2,r3))∧Aside0 (kq≤k)∧Aside0 (Kd.R (Kd.int .i64) 3 w' w.heap.size (fun _=>True) u233001 x233001_1)∧Aside0 (w'.heap[gb229]?=some (.cells #[.int .i64 a0_0,(.slice A0_1 l0_1.length c0_1)] 26 (0,0)))∧Aside0 (w'.heap[gb230]?=some (.cells #[.int .i64 0,(.slice none 0 0)] 26 (0,0)))∧Aside0 (w'.heap[gb232]?=some (.cells #[.int .i64 a0_0,u233001] 26 (0,0)))∧Aside0 (Below w.heap.size w w'))
  case atStart=>exact ⟨(0),(([]:List Int)),(.slice none 0 0),zc_,H',⟨Nat.le_refl _⟩,⟨zca_⟩,⟨by refine zb ?_;refine blk_far ?_ NB229_232.out _;refine zb ?_;refine blk_far ?_ NB229_232.out _;refine zb ?_;exact BK229.out⟩,⟨by refine zb ?_;refine blk_far ?_ NB230_232.out _;refine zb ?_;refine blk_far ?_ NB230_232.out _;refine zb ?_;exact BK230.out⟩,⟨by refine zb ?_;refine blk_put (cs:=#[.int .i64 a0_0,.slice none 0 0]) ?_ 1 _ rfl;refine zb ?_;refine blk_put (cs:=#[.int .i64 0,.slice none 0 0]) ?_ 0 _ rfl;refine zb ?_;exact BK232.out⟩,⟨zhf_⟩⟩
  case round =>
   clear H';(try clear hcz13_0);(try clear hcz13_1);(try clear hcz14_0);(try clear hcz14_1);(try clear hcz7_0);(try clear hcz7_1);(try clear hcz9_0);(try clear hcz9_1);(try clear hfz13_0);(try clear hfz13_1);(try clear hfz14_0);(try clear hfz14_1);(try clear hfz7_0);(try clear hfz7_1);(try clear hfz9_0);(try clear hfz9_1);obtain ⟨x17_1,x233001_1,u233001,rfl,HA,HK1,HO_233001,BK229,BK230,BK232,HB⟩:=hrel
   cases gk with
   | zero=>exact absurd HA.out (by simp [impl_NotTable.l0])
   | succ k1 =>
    have H:=HA.out;clear HA
    simp only [impl_NotTable.l0] at H
    by_cases c15:x17_1<(l0_1.length:Int)
    ·rw [if_pos c15] at H
     have c15b0:=decide_eq_true c15;clear c15
     by_cases c16:0≤x17_1
     ·rw [if_pos c16] at H
      have c16b0:=decide_eq_true c16;clear c16
      by_cases c17:x17_1<(l0_1.length:Int)
      ·rw [if_pos c17] at H
       have c17b0:=decide_eq_true c17;clear c17
       by_cases c18:x233001_1.length<17592186044416
       ·rw [if_pos c18] at H
        have LMc18:=aM c18;clear c18;obtain ⟨y234,hy234⟩:∃ y_:List Int,y_=(x233001_1 ++ [wrap64 (1 - (rd l0_1 x17_1))]):=⟨_,rfl⟩;replace H:(impl_NotTable.l0 k1 l0_1 (l0_1.length:Int) (wrap64 (x17_1+1)) a0_0 y234)=some (r1,r2,r3):=q3y_ hy234 H
        have Ny234:=aM hy234;clear hy234;have H':=aM H;clear H;have p233:0≤(x17_1:Int):=of_decide_eq_true zd_;have q233:x17_1<(l0_1.length:Int):=of_decide_eq_true zd_;obtain ⟨ad233,e233,hx233_0⟩:=Kd.at_int HR0_1.out x17_1 p233 q233
        cases e233
        (try (replace hx233_0:=q3h_ HB.out hx233_0));replace p233:=eq_true p233;replace q233:=eq_true q233;have hnb19:=NB232_229.out;have hnc19:=NB229_232.out;have hnb20:=NB232_230.out;have hnc20:=NB230_232.out;obtain ⟨hcz21_0,hcz21_1,hfz21_0,hfz21_1⟩:=zk2 BK232.out
        go_wp2_with (first | ((with_reducible refine gate_builtin (b := .append) (xs:=#[.tmp 22,.tmp 25]) rfl ?_);at_builtin;refine Kd.R_append (Kd.int .i64) (w0:=w) w.heap.size rfl (.tmp 22) (.tmp 25) 24 3 (.int .i64 0) 8 rfl Tryd.underlying24 info3 rfl (by decide) (by omega) u233001 x233001_1 (wrap64 (1 - (rd l0_1 x17_1))) [.int .i64 (wrap64 (1 - (rd l0_1 x17_1)))] (fun _=>True) (fun _=>False) rfl rfl ?aP (fun _ hk=>hk.elim) ?aF ?aO ?aB ?aS ?aL ?_;(case aP=>exact rfl);(case aB=>exact zhf_);(case aF=>exact zdc_);(case aO=>exact (zr HO_233001.out));(case aS=>exact (below_size zhf_));(case aL=>have:=LMc18.out;omega);intro v235 w22 ho hb hg hat;rw [← Ny234.out] at ho;have n_:=z (blk_grown (g:=gb229) (o := .cells #[.int .i64 a0_0,.slice (some ad233) l0_1.length c0_1] 26 (0,0)) (zb BK229.out) hg (Kd.R_ne HO_233001.out BK229.out (by decide)))<|z (blk_grown (g:=gb230) (o := .cells #[.int .i64 0,.slice none 0 0] 26 (0,0)) (zb BK230.out) hg (Kd.R_ne HO_233001.out BK230.out (by decide)))<|z (blk_grown (g:=gb232) (o := .cells #[.int .i64 a0_0,u233001] 26 (0,0)) (zb BK232.out) hg (Kd.R_ne HO_233001.out BK232.out (by decide)))<|z (hb)<|z1 (ho);clear BK229 BK230 BK232 HB HO_233001;obtain ⟨BK229,BK230,BK232,HB,HO236⟩:=n_;clear ho hb hg hat;obtain ⟨Ao23,co23,eo23⟩:=Kd.R_slice HO236.out;subst eo23;obtain ⟨hcz24_0,hcz24_1,hfz24_0,hfz24_1⟩:=zk2 BK232.out))
        go_roundg k1
        case measure=>have:=HK1.out;omega
        case rel=>exact ⟨(wrap64 (x17_1+1)),(y234),(.slice Ao23 y234.length co23),zc_,H',⟨zcc_⟩,⟨by refine zr ?_;exact Kd.R_mono (Kd.R_far (p:=⟨gb232,1,none⟩) (Kd.R_types HO236.out BK232.out (by decide)) (fun _ hk=>hk.2) (.slice Ao23 y234.length co23)) (fun _ hk=>trivial)⟩,⟨by refine zb ?_;refine blk_far ?_ NB229_232.out _;refine zb ?_;exact BK229.out⟩,⟨by refine zb ?_;refine blk_far ?_ NB230_232.out _;refine zb ?_;exact BK230.out⟩,⟨by refine zb ?_;refine blk_put (cs:=#[.int .i64 a0_0,u233001]) ?_ 1 _ rfl;refine zb ?_;exact BK232.out⟩,⟨zhf_⟩⟩
       ·rw [if_neg c18] at H
        exact q3n_ H
      ·rw [if_neg c17] at H
       exact q3n_ H
     ·rw [if_neg c16] at H
      exact q3n_ H
    ·rw [if_neg c15] at H
     have c15b0:=decide_eq_false c15;clear c15
     simp only [Option.some.injEq,Prod.mk.injEq] at H
     obtain ⟨rfl,rfl,rfl⟩:=H;have hnb25:=NB232_229.out;have hnc25:=NB229_232.out;have hnb26:=NB232_230.out;have hnc26:=NB230_232.out;obtain ⟨hcz27_0,hcz27_1,hfz27_0,hfz27_1⟩:=zk2 BK232.out;have hnb28:=NB230_229.out;have hnc28:=NB229_230.out;obtain ⟨hcz29_0,hcz29_1,hfz29_0,hfz29_1⟩:=zk2 BK230.out;obtain ⟨Ao30,co30,eo30⟩:=Kd.R_slice HO_233001.out;subst eo30
     go_wp2
     refine bodyPost_ret (results_ct rfl _ _ gb230 26 #[.int .i64 a0_0,.slice Ao30 x233001_1.length co30] (0,0) _ rfl (by refine zb ?_;refine blk_put (cs:=#[.int .i64 a0_0,.slice none 0 0]) ?_ 1 _ rfl;refine zb ?_;refine blk_put (cs:=#[.int .i64 0,.slice none 0 0]) ?_ 0 _ rfl;refine zb ?_;exact BK230.out) Tryd.underlying26 rfl (by kernel_rfl)) rfl ?_
     exact ⟨_,zh_,by refine zr ?_;exact Kd.R_mono (Kd.R_far (p:=⟨gb230,1,none⟩) (Kd.R_far (p:=⟨gb230,0,none⟩) (Kd.R_types HO_233001.out BK230.out (by decide)) (fun _ hk=>hk.2) (.int .i64 a0_0)) (fun _ hk=>hk.2) (.slice Ao30 x233001_1.length co30)) (fun _ hk=>trivial),zhf_⟩
 ·replace c3:=Bool.eq_false_iff.mpr c3
  subst c3;have H1:(some (0,([]:List Int),false))=some (r1,r2,r3):=by rw [if_neg (show ¬ (false=true) by decide)] at H;exact H
  clear H;have H:=H1;clear H1
  simp only [Option.some.injEq,Prod.mk.injEq] at H
  obtain ⟨rfl,rfl,rfl⟩:=H
  go_enter Tryd.func33,Tryd.ntmps33
  go_wp2_with (first | ((with_reducible refine gate_dst (N:=1) rfl ?_);refine box_event ?hg (N:=1) ?hd (cs:=#[.int .i64 a0_0,.slice A0_1 l0_1.length c0_1]) (t:=26) ?hr ?_;(case hd=>rfl);(case hg=>rfl);(case hr=>exact zb_);intro gb229 hg w31 hbox hb;have n_:=z (below_step za_ hb)<|z (hbox)<|z ((by rw [hg];exact (below_size za_):w.heap.size≤gb229))<|z1 ((by rw [hg];exact (below_size za_):w.heap.size≤gb229));clear HB;obtain ⟨HB,BK229,GW229,GE229⟩:=n_;clear hb hbox hg)|((with_reducible refine gate_dst (N:=2) rfl ?_);refine box_event ?hg (N:=2) ?hd (cs:=#[.int .i64 0,.slice none 0 0]) (t:=26) ?hr ?_;(case hd=>rfl);(case hg=>rfl);(case hr=>exact zb_);intro gb230 hg w32 hbox hb;have n_:=z (blk_below (zb BK229.out) hb)<|z (below_step zfj_ hb)<|z (hbox)<|z ((by rw [hg];exact (below_size zfj_):w.heap.size≤gb230))<|z ((by rw [hg];exact (below_size zfj_):w.heap.size≤gb230))<|z ((by rw [hg];exact Nat.ne_of_lt (blk_lt (zb BK229.out)):gb229≠gb230))<|z1 ((by rw [hg];exact Nat.ne_of_gt (blk_lt (zb BK229.out)):gb230≠gb229));clear BK229 HB;obtain ⟨BK229,HB,BK230,GW230,GE230,NB229_230,NB230_229⟩:=n_;clear hb hbox hg;have hnb33:=NB229_230.out;have hnc33:=NB230_229.out;obtain ⟨hcz34_0,hcz34_1,hfz34_0,hfz34_1⟩:=zk2 BK229.out)|((with_reducible refine gate_callee (f:=10) rfl ?_);refine goesL_ (some 8) rfl rfl Tryd.func10 (by kernel_rfl) rfl #[.agg #[.int .i64 a0_0,.slice A0_1 l0_1.length c0_1]] rfl ze_ ?_;(with_reducible refine (impl_IsTable.calls k a0_0 _ _ l0_1 false _ ?side1 ?side2 A2.out).mono ?_);(case side1=>exact zbc_);(case side2=>exact HC0_1.out);rintro e w35 ⟨rfl,hb⟩;refine ⟨_,rfl,?_⟩;have n_:=z (blk_below (zb BK229.out) hb)<|z (blk_below (zb BK230.out) hb)<|z1 (below_step zga_ hb);clear BK229 BK230 HB;obtain ⟨BK229,BK230,HB⟩:=n_;clear hb;obtain ⟨hcz36_0,hcz36_1,hfz36_0,hfz36_1⟩:=zk2 BK230.out))
  refine bodyPost_ret (results_ct rfl _ _ gb230 26 #[.int .i64 0,.slice none 0 0] (0,0) _ rfl (by refine zb ?_;refine blk_put (cs:=#[.int .i64 0,.slice none 0 0]) ?_ 1 _ rfl;refine zb ?_;refine blk_put (cs:=#[.int .i64 0,.slice none 0 0]) ?_ 0 _ rfl;refine zb ?_;exact BK230.out) Tryd.underlying26 rfl (by kernel_rfl)) rfl ?_
  exact ⟨_,zh_,zca_,zga_⟩
def spec_NotTable.l0:Nat→List Int→Int→Int→Int→List Int→Option (Int×List Int×Bool)
 | 0,_,_,_,_,_=>none
 | k+1,x15,x16,x17,x241000,x241001=>if x17<x16 then (if 0≤x17 then (if x17<(x15.length:Int) then (if x241001.length<17592186044416 then (spec_NotTable.l0 k x15 x16 (wrap64 (x17+1)) x241000 (x241001 ++ [wrap64 (1 - (rd x15 x17))])) else (none)) else (none)) else (none)) else (some (x241000,x241001,true))
def spec_NotTable.f (k:Nat) (a0_0:Int) (l0_1:List Int):Option (Int×List Int×Bool):=(spec_ttGood.f k a0_0 l0_1).bind fun t239=>(if t239=true then (spec_NotTable.l0 k l0_1 (l0_1.length:Int) 0 a0_0 ([]:List Int)) else (some (0,([]:List Int),false)))
theorem spec_NotTable.calls (k:Nat) (a0_0:Int) (A0_1:Option Addr) (c0_1:Nat) (l0_1:List Int) (r1:Int) (r2:List Int) (r3:Bool) (w:World) (hr0_1:Kd.C (Kd.int .i64) w A0_1 l0_1.length l0_1) (hc0_1:l0_1.length≤c0_1) (h:spec_NotTable.f k a0_0 l0_1=some (r1,r2,r3)) :
  Calls Tryd.prog 34 #[.agg #[.int .i64 a0_0,.slice A0_1 l0_1.length c0_1]] w fun e w' => ∃ v1_:Value,e = .returned (.tuple #[.agg #[.int .i64 r1,v1_],.bool r3])∧Kd.R (Kd.int .i64) 3 w' w.heap.size (fun _=>True) v1_ r2∧Below w.heap.size w w':=by
 have hu26:=Tryd.underlying26
 have HR0_1:=aM hr0_1
 have HC0_1:=aM hc0_1
 clear hr0_1 hc0_1
 have HB:=aM (Below.refl w.heap.size w)
 have H:((spec_ttGood.f k a0_0 l0_1).bind fun t239=>(if t239=true then (spec_NotTable.l0 k l0_1 (l0_1.length:Int) 0 a0_0 ([]:List Int)) else (some (0,([]:List Int),false))))=some (r1,r2,r3):=h
 clear h
 replace H:=oB.mp H
 obtain ⟨t239,A20,H⟩:=H
 replace H:(if t239=true then (spec_NotTable.l0 k l0_1 (l0_1.length:Int) 0 a0_0 ([]:List Int)) else (some (0,([]:List Int),false)))=some (r1,r2,r3):=H
 have A2:=aM A20
 clear A20
 by_cases c3:t239=true
 ·subst c3
  have H1:(spec_NotTable.l0 k l0_1 (l0_1.length:Int) 0 a0_0 ([]:List Int))=some (r1,r2,r3):=by rw [if_pos rfl] at H;exact H
  clear H;have H:=H1;clear H1;have H':=aM H;clear H
  go_enter Tryd.func34,Tryd.ntmps34
  go_wp2_with (first | ((with_reducible refine gate_dst (N:=1) rfl ?_);refine box_event ?hg (N:=1) ?hd (cs:=#[.int .i64 a0_0,.slice A0_1 l0_1.length c0_1]) (t:=26) ?hr ?_;(case hd=>rfl);(case hg=>rfl);(case hr=>exact zb_);intro gb237 hg w4 hbox hb;have n_:=z (below_step za_ hb)<|z (hbox)<|z ((by rw [hg];exact (below_size za_):w.heap.size≤gb237))<|z1 ((by rw [hg];exact (below_size za_):w.heap.size≤gb237));clear HB;obtain ⟨HB,BK237,GW237,GE237⟩:=n_;clear hb hbox hg)|((with_reducible refine gate_dst (N:=2) rfl ?_);refine box_event ?hg (N:=2) ?hd (cs:=#[.int .i64 0,.slice none 0 0]) (t:=26) ?hr ?_;(case hd=>rfl);(case hg=>rfl);(case hr=>exact zb_);intro gb238 hg w5 hbox hb;have n_:=z (blk_below (zb BK237.out) hb)<|z (below_step zgb_ hb)<|z (hbox)<|z ((by rw [hg];exact (below_size zgb_):w.heap.size≤gb238))<|z ((by rw [hg];exact (below_size zgb_):w.heap.size≤gb238))<|z ((by rw [hg];exact Nat.ne_of_lt (blk_lt (zb BK237.out)):gb237≠gb238))<|z1 ((by rw [hg];exact Nat.ne_of_gt (blk_lt (zb BK237.out)):gb238≠gb237));clear BK237 HB;obtain ⟨BK237,HB,BK238,GW238,GE238,NB237_238,NB238_237⟩:=n_;clear hb hbox hg;have hnb6:=NB237_238.out;have hnc6:=NB238_237.out;obtain ⟨hcz7_0,hcz7_1,hfz7_0,hfz7_1⟩:=zk2 BK237.out)|((with_reducible refine gate_callee (f:=50) rfl ?_);refine goesL_ (some 8) rfl rfl Tryd.func50 (by kernel_rfl) rfl #[.agg #[.int .i64 a0_0,.slice A0_1 l0_1.length c0_1]] rfl ze_ ?_;(with_reducible refine (spec_ttGood.calls k a0_0 _ _ l0_1 true _ ?side1 ?side2 A2.out).mono ?_);(case side1=>exact zbc_);(case side2=>exact HC0_1.out);rintro e w8 ⟨rfl,hb⟩;refine ⟨_,rfl,?_⟩;have n_:=z (blk_below (zb BK237.out) hb)<|z (blk_below (zb BK238.out) hb)<|z1 (below_step zgc_ hb);clear BK237 BK238 HB;obtain ⟨BK237,BK238,HB⟩:=n_;clear hb;obtain ⟨hcz9_0,hcz9_1,hfz9_0,hfz9_1⟩:=zk2 BK237.out)|((with_reducible refine gate_dst (N:=4) rfl ?_);refine box_event ?hg (N:=4) ?hd (cs:=#[.int .i64 0,.slice none 0 0]) (t:=26) ?hr ?_;(case hd=>rfl);(case hg=>rfl);(case hr=>exact zb_);intro gb240 hg w10 hbox hb;have n_:=z (blk_below (zb BK237.out) hb)<|z (blk_below (zb BK238.out) hb)<|z (below_step zgc_ hb)<|z (hbox)<|z ((by rw [hg];exact (below_size zgc_):w.heap.size≤gb240))<|z ((by rw [hg];exact (below_size zgc_):w.heap.size≤gb240))<|z ((by rw [hg];exact Nat.ne_of_lt (blk_lt (zb BK237.out)):gb237≠gb240))<|z ((by rw [hg];exact Nat.ne_of_gt (blk_lt (zb BK237.out)):gb240≠gb237))<|z ((by rw [hg];exact Nat.ne_of_lt (blk_lt (zb BK238.out)):gb238≠gb240))<|z1 ((by rw [hg];exact Nat.ne_of_gt (blk_lt (zb BK238.out)):gb240≠gb238));clear BK237 BK238 HB;obtain ⟨BK237,BK238,HB,BK240,GW240,GE240,NB237_240,NB240_237,NB238_240,NB240_238⟩:=n_;clear hb hbox hg;have hnb11:=NB240_237.out;have hnc11:=NB237_240.out;have hnb12:=NB240_238.out;have hnc12:=NB238_240.out;obtain ⟨hcz13_0,hcz13_1,hfz13_0,hfz13_1⟩:=zk2 BK240.out;obtain ⟨hcz14_0,hcz14_1,hfz14_0,hfz14_1⟩:=zk2 BK237.out))
  go_loopg [17] k (fun kq v17 w' => ∃ (x17_1:Int) (x241001_1:List Int) (u241001:Value),v17 = .int .i64 x17_1∧Aside0 (spec_NotTable.l0 kq l0_1 (l0_1.length:Int) x17_1 a0_0 x241001_1=some (r1,r2,r3))∧Aside0 (kq≤k)∧Aside0 (Kd.R (Kd.int .i64) 3 w' w.heap.size (fun _=>True) u241001 x241001_1)∧Aside0 (w'.heap[gb237]?=some (.cells #[.int .i64 a0_0,(.slice A0_1 l0_1.length c0_1)] 26 (0,0)))∧Aside0 (w'.heap[gb238]?=some (.cells #[.int .i64 0,(.slice none 0 0)] 26 (0,0)))∧Aside0 (w'.heap[gb240]?=some (.cells #[.int .i64 a0_0,u241001] 26 (0,0)))∧Aside0 (Below w.heap.size w w'))
  case atStart=>exact ⟨(0),(([]:List Int)),(.slice none 0 0),zc_,H',⟨Nat.le_refl _⟩,⟨zca_⟩,⟨by refine zb ?_;refine blk_far ?_ NB237_240.out _;refine zb ?_;refine blk_far ?_ NB237_240.out _;refine zb ?_;exact BK237.out⟩,⟨by refine zb ?_;refine blk_far ?_ NB238_240.out _;refine zb ?_;refine blk_far ?_ NB238_240.out _;refine zb ?_;exact BK238.out⟩,⟨by refine zb ?_;refine blk_put (cs:=#[.int .i64 a0_0,.slice none 0 0]) ?_ 1 _ rfl;refine zb ?_;refine blk_put (cs:=#[.int .i64 0,.slice none 0 0]) ?_ 0 _ rfl;refine zb ?_;exact BK240.out⟩,⟨zhg_⟩⟩
  case round =>
   clear H';(try clear hcz13_0);(try clear hcz13_1);(try clear hcz14_0);(try clear hcz14_1);(try clear hcz7_0);(try clear hcz7_1);(try clear hcz9_0);(try clear hcz9_1);(try clear hfz13_0);(try clear hfz13_1);(try clear hfz14_0);(try clear hfz14_1);(try clear hfz7_0);(try clear hfz7_1);(try clear hfz9_0);(try clear hfz9_1);obtain ⟨x17_1,x241001_1,u241001,rfl,HA,HK1,HO_241001,BK237,BK238,BK240,HB⟩:=hrel
   cases gk with
   | zero=>exact absurd HA.out (by simp [spec_NotTable.l0])
   | succ k1 =>
    have H:=HA.out;clear HA
    simp only [spec_NotTable.l0] at H
    by_cases c15:x17_1<(l0_1.length:Int)
    ·rw [if_pos c15] at H
     have c15b0:=decide_eq_true c15;clear c15
     by_cases c16:0≤x17_1
     ·rw [if_pos c16] at H
      have c16b0:=decide_eq_true c16;clear c16
      by_cases c17:x17_1<(l0_1.length:Int)
      ·rw [if_pos c17] at H
       have c17b0:=decide_eq_true c17;clear c17
       by_cases c18:x241001_1.length<17592186044416
       ·rw [if_pos c18] at H
        have LMc18:=aM c18;clear c18;obtain ⟨y242,hy242⟩:∃ y_:List Int,y_=(x241001_1 ++ [wrap64 (1 - (rd l0_1 x17_1))]):=⟨_,rfl⟩;replace H:(spec_NotTable.l0 k1 l0_1 (l0_1.length:Int) (wrap64 (x17_1+1)) a0_0 y242)=some (r1,r2,r3):=q3y_ hy242 H
        have Ny242:=aM hy242;clear hy242;have H':=aM H;clear H;have p241:0≤(x17_1:Int):=of_decide_eq_true zd_;have q241:x17_1<(l0_1.length:Int):=of_decide_eq_true zd_;obtain ⟨ad241,e241,hx241_0⟩:=Kd.at_int HR0_1.out x17_1 p241 q241
        cases e241
        (try (replace hx241_0:=q3h_ HB.out hx241_0));replace p241:=eq_true p241;replace q241:=eq_true q241;have hnb19:=NB240_237.out;have hnc19:=NB237_240.out;have hnb20:=NB240_238.out;have hnc20:=NB238_240.out;obtain ⟨hcz21_0,hcz21_1,hfz21_0,hfz21_1⟩:=zk2 BK240.out
        go_wp2_with (first | ((with_reducible refine gate_builtin (b := .append) (xs:=#[.tmp 22,.tmp 25]) rfl ?_);at_builtin;refine Kd.R_append (Kd.int .i64) (w0:=w) w.heap.size rfl (.tmp 22) (.tmp 25) 24 3 (.int .i64 0) 8 rfl Tryd.underlying24 info3 rfl (by decide) (by omega) u241001 x241001_1 (wrap64 (1 - (rd l0_1 x17_1))) [.int .i64 (wrap64 (1 - (rd l0_1 x17_1)))] (fun _=>True) (fun _=>False) rfl rfl ?aP (fun _ hk=>hk.elim) ?aF ?aO ?aB ?aS ?aL ?_;(case aP=>exact rfl);(case aB=>exact zhg_);(case aF=>exact zdc_);(case aO=>exact (zr HO_241001.out));(case aS=>exact (below_size zhg_));(case aL=>have:=LMc18.out;omega);intro v243 w22 ho hb hg hat;rw [← Ny242.out] at ho;have n_:=z (blk_grown (g:=gb237) (o := .cells #[.int .i64 a0_0,.slice (some ad241) l0_1.length c0_1] 26 (0,0)) (zb BK237.out) hg (Kd.R_ne HO_241001.out BK237.out (by decide)))<|z (blk_grown (g:=gb238) (o := .cells #[.int .i64 0,.slice none 0 0] 26 (0,0)) (zb BK238.out) hg (Kd.R_ne HO_241001.out BK238.out (by decide)))<|z (blk_grown (g:=gb240) (o := .cells #[.int .i64 a0_0,u241001] 26 (0,0)) (zb BK240.out) hg (Kd.R_ne HO_241001.out BK240.out (by decide)))<|z (hb)<|z1 (ho);clear BK237 BK238 BK240 HB HO_241001;obtain ⟨BK237,BK238,BK240,HB,HO244⟩:=n_;clear ho hb hg hat;obtain ⟨Ao23,co23,eo23⟩:=Kd.R_slice HO244.out;subst eo23;obtain ⟨hcz24_0,hcz24_1,hfz24_0,hfz24_1⟩:=zk2 BK240.out))
        go_roundg k1
        case measure=>have:=HK1.out;omega
        case rel=>exact ⟨(wrap64 (x17_1+1)),(y242),(.slice Ao23 y242.length co23),zc_,H',⟨zcc_⟩,⟨by refine zr ?_;exact Kd.R_mono (Kd.R_far (p:=⟨gb240,1,none⟩) (Kd.R_types HO244.out BK240.out (by decide)) (fun _ hk=>hk.2) (.slice Ao23 y242.length co23)) (fun _ hk=>trivial)⟩,⟨by refine zb ?_;refine blk_far ?_ NB237_240.out _;refine zb ?_;exact BK237.out⟩,⟨by refine zb ?_;refine blk_far ?_ NB238_240.out _;refine zb ?_;exact BK238.out⟩,⟨by refine zb ?_;refine blk_put (cs:=#[.int .i64 a0_0,u241001]) ?_ 1 _ rfl;refine zb ?_;exact BK240.out⟩,⟨zhg_⟩⟩
       ·rw [if_neg c18] at H
        exact q3n_ H
      ·rw [if_neg c17] at H
       exact q3n_ H
     ·rw [if_neg c16] at H
      exact q3n_ H
    ·rw [if_neg c15] at H
     have c15b0:=decide_eq_false c15;clear c15
     simp only [Option.some.injEq,Prod.mk.injEq] at H
     obtain ⟨rfl,rfl,rfl⟩:=H;have hnb25:=NB240_237.out;have hnc25:=NB237_240.out;have hnb26:=NB240_238.out;have hnc26:=NB238_240.out;obtain ⟨hcz27_0,hcz27_1,hfz27_0,hfz27_1⟩:=zk2 BK240.out;have hnb28:=NB238_237.out;have hnc28:=NB237_238.out;obtain ⟨hcz29_0,hcz29_1,hfz29_0,hfz29_1⟩:=zk2 BK238.out;obtain ⟨Ao30,co30,eo30⟩:=Kd.R_slice HO_241001.out;subst eo30
     go_wp2
     refine bodyPost_ret (results_ct rfl _ _ gb238 26 #[.int .i64 a0_0,.slice Ao30 x241001_1.length co30] (0,0) _ rfl (by refine zb ?_;refine blk_put (cs:=#[.int .i64 a0_0,.slice none 0 0]) ?_ 1 _ rfl;refine zb ?_;refine blk_put (cs:=#[.int .i64 0,.slice none 0 0]) ?_ 0 _ rfl;refine zb ?_;exact BK238.out) Tryd.underlying26 rfl (by kernel_rfl)) rfl ?_
     exact ⟨_,zh_,by refine zr ?_;exact Kd.R_mono (Kd.R_far (p:=⟨gb238,1,none⟩) (Kd.R_far (p:=⟨gb238,0,none⟩) (Kd.R_types HO_241001.out BK238.out (by decide)) (fun _ hk=>hk.2) (.int .i64 a0_0)) (fun _ hk=>hk.2) (.slice Ao30 x241001_1.length co30)) (fun _ hk=>trivial),zhg_⟩
 ·replace c3:=Bool.eq_false_iff.mpr c3
  subst c3;have H1:(some (0,([]:List Int),false))=some (r1,r2,r3):=by rw [if_neg (show ¬ (false=true) by decide)] at H;exact H
  clear H;have H:=H1;clear H1
  simp only [Option.some.injEq,Prod.mk.injEq] at H
  obtain ⟨rfl,rfl,rfl⟩:=H
  go_enter Tryd.func34,Tryd.ntmps34
  go_wp2_with (first | ((with_reducible refine gate_dst (N:=1) rfl ?_);refine box_event ?hg (N:=1) ?hd (cs:=#[.int .i64 a0_0,.slice A0_1 l0_1.length c0_1]) (t:=26) ?hr ?_;(case hd=>rfl);(case hg=>rfl);(case hr=>exact zb_);intro gb237 hg w31 hbox hb;have n_:=z (below_step za_ hb)<|z (hbox)<|z ((by rw [hg];exact (below_size za_):w.heap.size≤gb237))<|z1 ((by rw [hg];exact (below_size za_):w.heap.size≤gb237));clear HB;obtain ⟨HB,BK237,GW237,GE237⟩:=n_;clear hb hbox hg)|((with_reducible refine gate_dst (N:=2) rfl ?_);refine box_event ?hg (N:=2) ?hd (cs:=#[.int .i64 0,.slice none 0 0]) (t:=26) ?hr ?_;(case hd=>rfl);(case hg=>rfl);(case hr=>exact zb_);intro gb238 hg w32 hbox hb;have n_:=z (blk_below (zb BK237.out) hb)<|z (below_step zgb_ hb)<|z (hbox)<|z ((by rw [hg];exact (below_size zgb_):w.heap.size≤gb238))<|z ((by rw [hg];exact (below_size zgb_):w.heap.size≤gb238))<|z ((by rw [hg];exact Nat.ne_of_lt (blk_lt (zb BK237.out)):gb237≠gb238))<|z1 ((by rw [hg];exact Nat.ne_of_gt (blk_lt (zb BK237.out)):gb238≠gb237));clear BK237 HB;obtain ⟨BK237,HB,BK238,GW238,GE238,NB237_238,NB238_237⟩:=n_;clear hb hbox hg;have hnb33:=NB237_238.out;have hnc33:=NB238_237.out;obtain ⟨hcz34_0,hcz34_1,hfz34_0,hfz34_1⟩:=zk2 BK237.out)|((with_reducible refine gate_callee (f:=50) rfl ?_);refine goesL_ (some 8) rfl rfl Tryd.func50 (by kernel_rfl) rfl #[.agg #[.int .i64 a0_0,.slice A0_1 l0_1.length c0_1]] rfl ze_ ?_;(with_reducible refine (spec_ttGood.calls k a0_0 _ _ l0_1 false _ ?side1 ?side2 A2.out).mono ?_);(case side1=>exact zbc_);(case side2=>exact HC0_1.out);rintro e w35 ⟨rfl,hb⟩;refine ⟨_,rfl,?_⟩;have n_:=z (blk_below (zb BK237.out) hb)<|z (blk_below (zb BK238.out) hb)<|z1 (below_step zgc_ hb);clear BK237 BK238 HB;obtain ⟨BK237,BK238,HB⟩:=n_;clear hb;obtain ⟨hcz36_0,hcz36_1,hfz36_0,hfz36_1⟩:=zk2 BK238.out))
  refine bodyPost_ret (results_ct rfl _ _ gb238 26 #[.int .i64 0,.slice none 0 0] (0,0) _ rfl (by refine zb ?_;refine blk_put (cs:=#[.int .i64 0,.slice none 0 0]) ?_ 1 _ rfl;refine zb ?_;refine blk_put (cs:=#[.int .i64 0,.slice none 0 0]) ?_ 0 _ rfl;refine zb ?_;exact BK238.out) Tryd.underlying26 rfl (by kernel_rfl)) rfl ?_
  exact ⟨_,zh_,zca_,zgc_⟩
def impl_DualTable.l0:Nat→Int→Int→Int→List Int→Int→List Int→Option (Int×List Int×Bool)
 | 0,_,_,_,_,_,_=>none
 | k+1,x19,x20,x246000,x246001,x252000,x252001=>if x20<x19 then (if 0≤(wrap64 ((wrap64 ((x246001.length:Int) - 1)) - x20)) then (if (wrap64 ((wrap64 ((x246001.length:Int) - 1)) - x20))<(x246001.length:Int) then (if 0≤x20 then (if x20<(x252001.length:Int) then (impl_DualTable.l0 k x19 (wrap64 (x20+1)) x246000 x246001 x252000 (x252001.set (x20:Int).toNat (wrap64 (1 - (rd x246001 (wrap64 ((wrap64 ((x246001.length:Int) - 1)) - x20))))))) else (none)) else (none)) else (none)) else (none)) else (some (x252000,x252001,true))
def impl_DualTable.f (k:Nat) (a0_0:Int) (l0_1:List Int):Option (Int×List Int×Bool):=(impl_IsTable.f k a0_0 l0_1).bind fun t247=>(if t247=true then (if 0≤(l0_1.length:Int) then (if ((l0_1.length:Int):Int).toNat≤35184372088832 then ((some (List.replicate ((l0_1.length:Int):Int).toNat 0:List Int)).bind fun y248=>(impl_DualTable.l0 k (y248.length:Int) 0 a0_0 l0_1 a0_0 y248)) else (none)) else (none)) else (some (0,([]:List Int),false)))
def impl_DualTable.T3:Bool×List (List Nat×List Nat):=(true,[([],[]),([0],[0]),([],[]),([2],[2]),([3],[3]),([4,4],[4]),([1,5],[1,5]),([],[]),([7,6,0,1,2,3,4,5,6,7],[6,7])])
def impl_DualTable.B3:List Nat:=[0,1,0,4,12,28,63,0,255]
theorem impl_DualTable.tab3:rtab .any (opsOf Tryd.f35 3)=impl_DualTable.T3:=by kernel_rfl
theorem impl_DualTable.bits3:waitsOk impl_DualTable.T3.2 impl_DualTable.B3=true:=by kernel_rfl
def impl_DualTable.T7:Bool×List (List Nat×List Nat):=(true,[([],[]),([0],[0]),([],[]),([],[]),([3],[3]),([],[]),([5],[5]),([6],[6]),([7],[7]),([],[]),([8,9],[8,9]),([4,10],[4,10]),([11],[11]),([12],[12]),([1,2,0,1,2,3,4,5,6,7,8,9,10,11,12,13],[1,2]),([14,13,0,1,2,3,4,5,6,7,8,9,10,11,12,13],[13,14])])
def impl_DualTable.B7:List Nat:=[0,1,0,0,8,0,32,96,224,0,992,2040,4088,8184,16383,32767]
theorem impl_DualTable.tab7:rtab .any (opsOf Tryd.f35 7)=impl_DualTable.T7:=by kernel_rfl
theorem impl_DualTable.bits7:waitsOk impl_DualTable.T7.2 impl_DualTable.B7=true:=by kernel_rfl
theorem impl_DualTable.calls (k:Nat) (a0_0:Int) (A0_1:Option Addr) (c0_1:Nat) (l0_1:List Int) (r1:Int) (r2:List Int) (r3:Bool) (w:World) (hr0_1:Kd.C (Kd.int .i64) w A0_1 l0_1.length l0_1) (hc0_1:l0_1.length≤c0_1) (h:impl_DualTable.f k a0_0 l0_1=some (r1,r2,r3)) :
  Calls Tryd.prog 35 #[.agg #[.int .i64 a0_0,.slice A0_1 l0_1.length c0_1]] w fun e w' => ∃ v1_:Value,e = .returned (.tuple #[.agg #[.int .i64 r1,v1_],.bool r3])∧Kd.R (Kd.int .i64) 3 w' w.heap.size (fun _=>True) v1_ r2∧Below w.heap.size w w':=by
 have hu26:=Tryd.underlying26
 have HR0_1:=aM hr0_1
 have HC0_1:=aM hc0_1
 clear hr0_1 hc0_1
 have HB:=aM (Below.refl w.heap.size w)
 have H:((impl_IsTable.f k a0_0 l0_1).bind fun t247=>(if t247=true then (if 0≤(l0_1.length:Int) then (if ((l0_1.length:Int):Int).toNat≤35184372088832 then ((some (List.replicate ((l0_1.length:Int):Int).toNat 0:List Int)).bind fun y248=>(impl_DualTable.l0 k (y248.length:Int) 0 a0_0 l0_1 a0_0 y248)) else (none)) else (none)) else (some (0,([]:List Int),false))))=some (r1,r2,r3):=h
 clear h
 replace H:=oB.mp H
 obtain ⟨t247,A20,H⟩:=H
 replace H:(if t247=true then (if 0≤(l0_1.length:Int) then (if ((l0_1.length:Int):Int).toNat≤35184372088832 then ((some (List.replicate ((l0_1.length:Int):Int).toNat 0:List Int)).bind fun y248=>(impl_DualTable.l0 k (y248.length:Int) 0 a0_0 l0_1 a0_0 y248)) else (none)) else (none)) else (some (0,([]:List Int),false)))=some (r1,r2,r3):=H
 have A2:=aM A20
 clear A20
 by_cases c3:t247=true
 ·subst c3
  have H1:(if 0≤(l0_1.length:Int) then (if ((l0_1.length:Int):Int).toNat≤35184372088832 then ((some (List.replicate ((l0_1.length:Int):Int).toNat 0:List Int)).bind fun y248=>(impl_DualTable.l0 k (y248.length:Int) 0 a0_0 l0_1 a0_0 y248)) else (none)) else (none))=some (r1,r2,r3):=by rw [if_pos rfl] at H;exact H
  clear H;have H:=H1;clear H1
  by_cases c4:0≤(l0_1.length:Int)
  ·rw [if_pos c4] at H
   have c4b0:=eq_true c4;have c4b1:=decide_eq_true c4;clear c4
   by_cases c5:((l0_1.length:Int):Int).toNat≤35184372088832
   ·rw [if_pos c5] at H
    have c5b0:=eq_true c5;have c5b1:=decide_eq_true c5;clear c5;obtain ⟨y248,hy248⟩:∃ y_:List Int,y_=(List.replicate ((l0_1.length:Int):Int).toNat 0):=⟨_,rfl⟩;replace H:(impl_DualTable.l0 k (y248.length:Int) 0 a0_0 l0_1 a0_0 y248)=some (r1,r2,r3):=q3y_ hy248 H
    have Ny248:=aM hy248;clear hy248;have H':=aM H;clear H
    go_enter Tryd.func35,Tryd.ntmps35
    (try go_wp2_with (first | ((with_reducible refine gate_dst (N:=1) rfl ?_);refine box_event ?hg (N:=1) ?hd (cs:=#[.int .i64 a0_0,.slice A0_1 l0_1.length c0_1]) (t:=26) ?hr ?_;(case hd=>rfl);(case hg=>rfl);(case hr=>exact zb_);intro gb245 hg w6 hbox hb;have n_:=z (below_step za_ hb)<|z (hbox)<|z ((by rw [hg];exact (below_size za_):w.heap.size≤gb245))<|z1 ((by rw [hg];exact (below_size za_):w.heap.size≤gb245));clear HB;obtain ⟨HB,BK245,GW245,GE245⟩:=n_;clear hb hbox hg)|((with_reducible refine gate_dst (N:=2) rfl ?_);refine box_event ?hg (N:=2) ?hd (cs:=#[.int .i64 0,.slice none 0 0]) (t:=26) ?hr ?_;(case hd=>rfl);(case hg=>rfl);(case hr=>exact zb_);intro gb246 hg w7 hbox hb;have n_:=z (blk_below (zb BK245.out) hb)<|z (below_step zgd_ hb)<|z (hbox)<|z ((by rw [hg];exact (below_size zgd_):w.heap.size≤gb246))<|z ((by rw [hg];exact (below_size zgd_):w.heap.size≤gb246))<|z ((by rw [hg];exact Nat.ne_of_lt (blk_lt (zb BK245.out)):gb245≠gb246))<|z1 ((by rw [hg];exact Nat.ne_of_gt (blk_lt (zb BK245.out)):gb246≠gb245));clear BK245 HB;obtain ⟨BK245,HB,BK246,GW246,GE246,NB245_246,NB246_245⟩:=n_;clear hb hbox hg;have hnb8:=NB245_246.out;have hnc8:=NB246_245.out;obtain ⟨hcz9_0,hcz9_1,hfz9_0,hfz9_1⟩:=zk2 BK245.out)|((with_reducible refine gate_callee (f:=10) rfl ?_);refine goesL_ (some 7) rfl rfl Tryd.func10 (by kernel_rfl) rfl #[.agg #[.int .i64 a0_0,.slice A0_1 l0_1.length c0_1]] rfl ze_ ?_;(with_reducible refine (impl_IsTable.calls k a0_0 _ _ l0_1 true _ ?side1 ?side2 A2.out).mono ?_);(case side1=>exact zbc_);(case side2=>exact HC0_1.out);rintro e w10 ⟨rfl,hb⟩;refine ⟨_,rfl,?_⟩;have n_:=z (blk_below (zb BK245.out) hb)<|z (blk_below (zb BK246.out) hb)<|z1 (below_step zdf_ hb);clear BK245 BK246 HB;obtain ⟨BK245,BK246,HB⟩:=n_;clear hb)));have n_:=z (blk_drew BK245.out)<|z (blk_drew BK246.out)<|z1 (p1 HB.out)
    clear BK245 BK246 HB;obtain ⟨BK245,BK246,HB⟩:=n_
    refine start_ (n:=9) (S:=fun w'=>w'.cell? ⟨gb245,0,none⟩=some (.int .i64 a0_0)∧w'.cell? ⟨gb245,1,none⟩=some (.slice A0_1 l0_1.length c0_1)) (ds:=[]) #[fi,fi,fi,fi,fi,fi,fi,fi,fi] (by kernel_rfl) rfl rfl ⟨(blk_cell BK245.out 0).trans rfl,(blk_cell BK245.out 1).trans rfl⟩ (fun hHeld=>?_);refine with_tabW impl_DualTable.tab3 impl_DualTable.bits3 (fun HT_ HW_=>?_)
    generalize w10.drew=w11 at BK245 BK246 HB hHeld ⊢;refine py_ 0 10 HT_.out ?_;refine py_ 2 12 HT_.out ?_
    refine tw2_ 1 11 HT_.out HW_.out hHeld ?_
    refine tw2_ 3 13 HT_.out HW_.out hHeld ?_
    refine py_ 4 14 HT_.out ?_
    refine join_ (σ:=Value×Nat) 1 #[ti,ti,ti,ti,ti,ti,ti,ti,fi] (fun s_ => [(15,s_.1),(4,.pointer (some ⟨s_.2,0,none⟩)),(16,.agg #[.int .i64 a0_0,s_.1])]) (fun s_ w'=>(w'.cell? ⟨gb245,0,none⟩=some (.int .i64 a0_0)∧w'.cell? ⟨gb245,1,none⟩=some (.slice A0_1 l0_1.length c0_1))∧(Kd.R (Kd.int .i64) 3 w' w.heap.size (fun _=>True) s_.1 y248)∧(w'.heap[gb245]?=some (.cells #[.int .i64 a0_0,.slice A0_1 l0_1.length c0_1] 26 (0,0)))∧(w'.heap[gb246]?=some (.cells #[.int .i64 0,.slice none 0 0] 26 (0,0)))∧(w'.heap[s_.2]?=some (.cells #[.int .i64 0,.slice none 0 0] 26 (0,0)))∧(w.heap.size≤s_.2)∧(w.heap.size≤s_.2)∧(gb245≠s_.2)∧(s_.2≠gb245)∧(gb246≠s_.2)∧(s_.2≠gb246)∧(Below w.heap.size w w')) ?_ ?_
    rotate_left
    ·intro hCont
     refine two_ (i:=5) (j:=7) (Ni:=some 15) (Nj:=some 4) #[ti,ti,ti,ti,ti,ti,fi,fi,fi] #[ti,ti,ti,ti,ti,fi,fi,ti,fi] rfl rfl rfl rfl (two_of HT_.out (by kernel_rfl)) (by decide) (by decide) (fun K hK=>?_) (fun K hK=>?_)
     ·skip
      refine Kd.R_make_step (Kd.int .i64) _ 3 (by rfl) (N:=15) rfl 24 _ _ rfl (l0_1.length:Int) rfl rfl Tryd.underlying24 (.int .i64 0) 8 info3 rfl (by decide) (by omega) 0 (ok:=fun _=>True) (okp:=fun _=>True) rfl (fun _ hk=>hk) trivial (of_decide_eq_true zd_) (Nat.le_trans (Nat.mul_le_mul_right _ (of_decide_eq_true zd_:(l0_1.length:Int).toNat≤35184372088832)) (by omega)) (Below.refl _ _) (Nat.le_refl _) ?_
      intro v249 w12 ho13 hb hg_ hnew_
      clear hg_ hnew_;(first | rw [← Ny248.out] at ho13 | (simp only [Int.reduceToNat] at ho13;rw [← Ny248.out] at ho13));have n_:=z (Kd.R_lower ho13 (below_size zdf_))<|z (blk_below (zb BK245.out) hb)<|z (blk_below (zb BK246.out) hb)<|z1 (below_step zdf_ hb)
      clear BK245 BK246 HB;obtain ⟨HO250,BK245,BK246,HB⟩:=n_;clear hb ho13;obtain ⟨Ao14,co14,eo14⟩:=Kd.R_slice HO250.out;(first | subst eo14 | (injection eo14 with f1_ f2_ f3_;have f4_:=f1_.symm;have f5_:=f3_.symm;clear f1_ f2_ f3_;subst f4_;subst f5_))
      refine hK.out _ _ ⟨(blk_cell BK245.out 0).trans rfl,(blk_cell BK245.out 1).trans rfl⟩ (fun hHeld=>?_)
      clear hK K
      refine nz_ 15 ?_
      refine py_ 6 16 HT_.out ?_
      refine one_ (i:=7) (N:=some 4) #[ti,ti,ti,ti,ti,ti,ti,ti,fi] rfl rfl (one_of HT_.out (by kernel_rfl)) (by decide) (fun K hK=>?_)
      refine box_step ?hg (N:=4) ?hd (cs:=#[.int .i64 0,.slice none 0 0]) (t:=26) ?hr ?_;(case hd=>rfl);(case hg=>rfl);(case hr=>exact zb_)
      intro gb251 hg w15 hbox hb
      have n_:=z (Kd.R_below (zr HO250.out) hb)<|z (blk_below (zb BK245.out) hb)<|z (blk_below (zb BK246.out) hb)<|z (below_step zdf_ hb)<|z (hbox)<|z ((by rw [hg];exact (below_size zdf_):w.heap.size≤gb251))<|z ((by rw [hg];exact (below_size zdf_):w.heap.size≤gb251))<|z ((by rw [hg];exact Nat.ne_of_lt (blk_lt (zb BK245.out)):gb245≠gb251))<|z ((by rw [hg];exact Nat.ne_of_gt (blk_lt (zb BK245.out)):gb251≠gb245))<|z ((by rw [hg];exact Nat.ne_of_lt (blk_lt (zb BK246.out)):gb246≠gb251))<|z1 ((by rw [hg];exact Nat.ne_of_gt (blk_lt (zb BK246.out)):gb251≠gb246))
      clear HO250 BK245 BK246 HB;obtain ⟨HO250,BK245,BK246,HB,BK251,GW251,GE251,NB245_251,NB251_245,NB246_251,NB251_246⟩:=n_;clear hb hbox hg
      refine hK.out _ _ ⟨(blk_cell BK245.out 0).trans rfl,(blk_cell BK245.out 1).trans rfl⟩ (fun hHeld=>?_)
      clear hK K
      refine nz_ 4 ?_
      exact norm_ (by simp only [putAll,Act.put,sI,s0,sS]) (hCont (.slice Ao14 y248.length co14,gb251) _ ⟨hHeld,(zr HO250.out),(zb BK245.out),(zb BK246.out),(zb BK251.out),GW251.out,GE251.out,NB245_251.out,NB251_245.out,NB246_251.out,NB251_246.out,zge_⟩)
     ·skip
      refine box_step ?hg (N:=4) ?hd (cs:=#[.int .i64 0,.slice none 0 0]) (t:=26) ?hr ?_;(case hd=>rfl);(case hg=>rfl);(case hr=>exact zb_)
      intro gb251 hg w12 hbox hb
      have n_:=z (blk_below (zb BK245.out) hb)<|z (blk_below (zb BK246.out) hb)<|z (below_step zdf_ hb)<|z (hbox)<|z ((by rw [hg];exact (below_size zdf_):w.heap.size≤gb251))<|z ((by rw [hg];exact (below_size zdf_):w.heap.size≤gb251))<|z ((by rw [hg];exact Nat.ne_of_lt (blk_lt (zb BK245.out)):gb245≠gb251))<|z ((by rw [hg];exact Nat.ne_of_gt (blk_lt (zb BK245.out)):gb251≠gb245))<|z ((by rw [hg];exact Nat.ne_of_lt (blk_lt (zb BK246.out)):gb246≠gb251))<|z1 ((by rw [hg];exact Nat.ne_of_gt (blk_lt (zb BK246.out)):gb251≠gb246))
      clear BK245 BK246 HB;obtain ⟨BK245,BK246,HB,BK251,GW251,GE251,NB245_251,NB251_245,NB246_251,NB251_246⟩:=n_;clear hb hbox hg
      refine hK.out _ _ ⟨(blk_cell BK245.out 0).trans rfl,(blk_cell BK245.out 1).trans rfl⟩ (fun hHeld=>?_)
      clear hK K
      refine nz_ 4 ?_
      refine one_ (i:=5) (N:=some 15) #[ti,ti,ti,ti,ti,ti,fi,ti,fi] rfl rfl (one_of HT_.out (by kernel_rfl)) (by decide) (fun K hK=>?_)
      refine Kd.R_make_step (Kd.int .i64) _ 3 (by rfl) (N:=15) rfl 24 _ _ rfl (l0_1.length:Int) rfl rfl Tryd.underlying24 (.int .i64 0) 8 info3 rfl (by decide) (by omega) 0 (ok:=fun _=>True) (okp:=fun _=>True) rfl (fun _ hk=>hk) trivial (of_decide_eq_true zd_) (Nat.le_trans (Nat.mul_le_mul_right _ (of_decide_eq_true zd_:(l0_1.length:Int).toNat≤35184372088832)) (by omega)) (Below.refl _ _) (Nat.le_refl _) ?_
      intro v249 w13 ho14 hb hg_ hnew_
      clear hg_ hnew_;(first | rw [← Ny248.out] at ho14 | (simp only [Int.reduceToNat] at ho14;rw [← Ny248.out] at ho14));have n_:=z (Kd.R_lower ho14 (below_size zge_))<|z (blk_below (zb BK245.out) hb)<|z (blk_below (zb BK246.out) hb)<|z (blk_below (zb BK251.out) hb)<|z1 (below_step zge_ hb)
      clear BK245 BK246 BK251 HB;obtain ⟨HO250,BK245,BK246,BK251,HB⟩:=n_;clear hb ho14;obtain ⟨Ao15,co15,eo15⟩:=Kd.R_slice HO250.out;(first | subst eo15 | (injection eo15 with f1_ f2_ f3_;have f4_:=f1_.symm;have f5_:=f3_.symm;clear f1_ f2_ f3_;subst f4_;subst f5_))
      refine hK.out _ _ ⟨(blk_cell BK245.out 0).trans rfl,(blk_cell BK245.out 1).trans rfl⟩ (fun hHeld=>?_)
      clear hK K
      refine nz_ 15 ?_
      refine py_ 6 16 HT_.out ?_
      exact norm_ (by simp only [putAll,Act.put,sI,s0,sS]) (hCont (.slice Ao15 y248.length co15,gb251) _ ⟨hHeld,(zr HO250.out),(zb BK245.out),(zb BK246.out),(zb BK251.out),GW251.out,GE251.out,NB245_251.out,NB251_245.out,NB246_251.out,NB251_246.out,zge_⟩)
    rintro ⟨v249,gb251⟩ w16 ⟨hS_,h0_,h1_,h2_,h3_,h4_,h5_,h6_,h7_,h8_,h9_,h10_⟩
    have n0_:Aside0 (Kd.R (Kd.int .i64) 3 w16 w.heap.size (fun _=>True) v249 y248):=⟨h0_⟩;have n1_:Aside0 (w16.heap[gb245]?=some (.cells #[.int .i64 a0_0,.slice A0_1 l0_1.length c0_1] 26 (0,0))):=⟨h1_⟩;have n2_:Aside0 (w16.heap[gb246]?=some (.cells #[.int .i64 0,.slice none 0 0] 26 (0,0))):=⟨h2_⟩;have n3_:Aside0 (w16.heap[gb251]?=some (.cells #[.int .i64 0,.slice none 0 0] 26 (0,0))):=⟨h3_⟩;have n4_:Aside0 (w.heap.size≤gb251):=⟨h4_⟩;have n5_:Aside0 (w.heap.size≤gb251):=⟨h5_⟩;have n6_:Aside0 (gb245≠gb251):=⟨h6_⟩;have n7_:Aside0 (gb251≠gb245):=⟨h7_⟩;have n8_:Aside0 (gb246≠gb251):=⟨h8_⟩;have n9_:Aside0 (gb251≠gb246):=⟨h9_⟩;have n10_:Aside0 (Below w.heap.size w w16):=⟨h10_⟩;clear BK245 BK246 HB h0_ h1_ h2_ h3_ h4_ h5_ h6_ h7_ h8_ h9_ h10_;have HO250:=n0_;have BK245:=n1_;have BK246:=n2_;have BK251:=n3_;have GW251:=n4_;have GE251:=n5_;have NB245_251:=n6_;have NB251_245:=n7_;have NB246_251:=n8_;have NB251_246:=n9_;have HB:=n10_;clear n0_ n1_ n2_ n3_ n4_ n5_ n6_ n7_ n8_ n9_ n10_;have hHeld:w16.cell? ⟨gb245,0,none⟩=some (.int .i64 a0_0)∧w16.cell? ⟨gb245,1,none⟩=some (.slice A0_1 l0_1.length c0_1):=hS_;obtain ⟨Ao17,co17,eo17⟩:=Kd.R_slice HO250.out;(first | subst eo17 | (injection eo17 with f1_ f2_ f3_;have f4_:=f1_.symm;have f5_:=f3_.symm;clear f1_ f2_ f3_;subst f4_;subst f5_))
    refine norm_ (a':=?_) ?_ ?_
    rotate_left
    ·simp only [putAll,Act.put,sI,s0,sS]
     rfl
    refine one_ (i:=8) (N:=none) #[ti,ti,ti,ti,ti,ti,ti,ti,ti] rfl rfl (one_of HT_.out (by kernel_rfl)) (by decide) (fun K hK=>?_)
    have hs18:w16.cell? ⟨gb251,0,none⟩=some (.int .i64 0):=(blk_cell BK251.out 0).trans rfl;have hfs18:=blk_frozen BK251.out 0;have hns18_0:=NB245_251.out;have hns18_1:=NB246_251.out;have hms18_0:=NB251_245.out;have hms18_1:=NB251_246.out;have hs19:w16.cell? ⟨gb251,1,none⟩=some (.slice none 0 0):=(blk_cell BK251.out 1).trans rfl;have hfs19:=blk_frozen BK251.out 1;have hns19_0:=NB245_251.out;have hns19_1:=NB246_251.out;have hms19_0:=NB251_245.out;have hms19_1:=NB251_246.out
    refine skip_ (w1:=?_) (by rfl) rfl ?_ ?_
    rotate_left
    ·go_simp
     rfl
    refine hK.out _ _ ⟨((cell_far (p:=⟨gb251,_,none⟩) NB245_251.out _).trans (((cell_far (p:=⟨gb251,_,none⟩) NB245_251.out _).trans (hHeld.1)))),((cell_far (p:=⟨gb251,_,none⟩) NB245_251.out _).trans (((cell_far (p:=⟨gb251,_,none⟩) NB245_251.out _).trans (hHeld.2))))⟩ (fun hHeld=>?_)
    clear hK K
    refine done_ (done_of HT_.out (by kernel_rfl)) ?_
    have hnb20:=NB251_245.out;have hnc20:=NB245_251.out;have hnb21:=NB251_246.out;have hnc21:=NB246_251.out;obtain ⟨hcz22_0,hcz22_1,hfz22_0,hfz22_1⟩:=zk2 BK251.out;(try go_wp2)
    go_loopg [20] k (fun kq v20 w' => ∃ (x20_1:Int) (x252001_1:List Int) (u252001:Value),v20 = .int .i64 x20_1∧Aside0 (impl_DualTable.l0 kq (y248.length:Int) x20_1 a0_0 l0_1 a0_0 x252001_1=some (r1,r2,r3))∧Aside0 (kq≤k)∧Aside0 (Kd.R (Kd.int .i64) 3 w' w.heap.size (fun _=>True) u252001 x252001_1)∧Aside0 (w'.heap[gb245]?=some (.cells #[.int .i64 a0_0,(.slice A0_1 l0_1.length c0_1)] 26 (0,0)))∧Aside0 (w'.heap[gb246]?=some (.cells #[.int .i64 0,(.slice none 0 0)] 26 (0,0)))∧Aside0 (w'.heap[gb251]?=some (.cells #[.int .i64 a0_0,u252001] 26 (0,0)))∧Aside0 (Below w.heap.size w w'))
    case atStart=>exact ⟨(0),(y248),(.slice Ao17 y248.length co17),zc_,H',⟨Nat.le_refl _⟩,⟨by refine zr ?_;exact Kd.R_mono (Kd.R_far (p:=⟨gb251,1,none⟩) (Kd.R_far (p:=⟨gb251,0,none⟩) (Kd.R_types HO250.out BK251.out (by decide)) (fun _ hk=>hk.2) (.int .i64 a0_0)) (fun _ hk=>hk.2) (.slice Ao17 y248.length co17)) (fun _ hk=>trivial)⟩,⟨by refine zb ?_;refine blk_far ?_ NB245_251.out _;refine zb ?_;refine blk_far ?_ NB245_251.out _;refine zb ?_;exact BK245.out⟩,⟨by refine zb ?_;refine blk_far ?_ NB246_251.out _;refine zb ?_;refine blk_far ?_ NB246_251.out _;refine zb ?_;exact BK246.out⟩,⟨by refine zb ?_;refine blk_put (cs:=#[.int .i64 a0_0,.slice none 0 0]) ?_ 1 _ rfl;refine zb ?_;refine blk_put (cs:=#[.int .i64 0,.slice none 0 0]) ?_ 0 _ rfl;refine zb ?_;exact BK251.out⟩,⟨zge_⟩⟩
    case round =>
     clear H';(try clear c4b0);(try clear c4b1);(try clear c5b0);(try clear c5b1);(try clear hcz22_0);(try clear hcz22_1);(try clear hcz9_0);(try clear hcz9_1);(try clear hfz22_0);(try clear hfz22_1);(try clear hfz9_0);(try clear hfz9_1);obtain ⟨x20_1,x252001_1,u252001,rfl,HA,HK1,HO_252001,BK245,BK246,BK251,HB⟩:=hrel
     cases gk with
     | zero=>exact absurd HA.out (by simp [impl_DualTable.l0])
     | succ k1 =>
      have H:=HA.out;clear HA
      simp only [impl_DualTable.l0] at H
      by_cases c23:x20_1<(y248.length:Int)
      ·rw [if_pos c23] at H
       have c23b0:=decide_eq_true c23;clear c23;obtain ⟨ji24,hji24⟩:∃ j_:Int,(wrap64 ((wrap64 ((l0_1.length:Int) - 1)) - x20_1))=j_:=⟨_,rfl⟩;replace H:(if 0≤(ji24) then (if (ji24)<(l0_1.length:Int) then (if 0≤x20_1 then (if x20_1<(x252001_1.length:Int) then (impl_DualTable.l0 k1 (y248.length:Int) (wrap64 (x20_1+1)) a0_0 l0_1 a0_0 (x252001_1.set (x20_1:Int).toNat (wrap64 (1 - (rd l0_1 (ji24)))))) else (none)) else (none)) else (none)) else (none))=some (r1,r2,r3):=by first | (rw [hji24] at H;exact H)|(simp only [hji24] at H ⊢;exact H)
       have hji24w:(IntKind.i64.wrap ((wrap64 ((l0_1.length:Int) - 1)) - x20_1))=ji24:=(i64_w _).trans hji24
       by_cases c25:0≤(ji24)
       ·rw [if_pos c25] at H
        have c25b0:=decide_eq_true c25;clear c25
        by_cases c26:(ji24)<(l0_1.length:Int)
        ·rw [if_pos c26] at H
         have c26b0:=decide_eq_true c26;clear c26
         by_cases c27:0≤x20_1
         ·rw [if_pos c27] at H
          have c27b0:=decide_eq_true c27;clear c27
          by_cases c28:x20_1<(x252001_1.length:Int)
          ·rw [if_pos c28] at H
           have c28b0:=decide_eq_true c28;clear c28;obtain ⟨y253,hy253⟩:∃ y_:List Int,y_=(x252001_1.set (x20_1:Int).toNat (wrap64 (1 - (rd l0_1 (ji24))))):=⟨_,rfl⟩;replace H:(impl_DualTable.l0 k1 (y248.length:Int) (wrap64 (x20_1+1)) a0_0 l0_1 a0_0 y253)=some (r1,r2,r3):=q3y_ hy253 H
           have Ny253:=aM hy253;clear hy253;have H':=aM H;clear H;(try go_wp2);have n_:=z (kD HO_252001.out)<|z (blk_drew BK245.out)<|z (blk_drew BK246.out)<|z (blk_drew BK251.out)<|z1 (p1 HB.out)
           clear HO_252001 BK245 BK246 BK251 HB;obtain ⟨HO_252001,BK245,BK246,BK251,HB⟩:=n_;have p252:0≤((ji24):Int):=of_decide_eq_true zd_;have q252:(ji24)<(l0_1.length:Int):=of_decide_eq_true zd_;obtain ⟨ad252,e252,hx252_0⟩:=Kd.at_int HR0_1.out (ji24) p252 q252;have hw252_0:=hx252_0
           cases e252
           (try (replace hx252_0:=q3h_ HB.out hx252_0));replace p252:=eq_true p252;replace q252:=eq_true q252;have p29:0≤(x20_1:Int):=of_decide_eq_true zd_;have q29:(x20_1:Int)<((x252001_1.length:Int):Int):=of_decide_eq_true zd_;obtain ⟨go29,co29,eo29,gb29,gl29,cl29,HG29⟩:=Kd.R_form HO_252001.out (by omega);(first | cases eo29 | (injection eo29 with ea_ en_ ec_;(first | subst ea_ | (injection ea_ with ea_;subst ea_));subst ec_;clear en_));have GB29:=aM gb29;have GG29:=aM HG29;clear gb29 gl29 HG29;obtain ⟨hx29_0,hf29_0⟩:=Kd.R_celln 0 HO_252001.out (x20_1:Int) p29 q29;replace p29:=eq_true p29;replace q29:=eq_true q29;have HP31:=Kd.R_putn HO_252001.out (x20_1:Int) (wrap64 (1 - (rd l0_1 (ji24))));rw [← Ny253.out] at HP31;have HQ31:=aM HP31;clear HP31
           refine start_ (n:=16) (S:=fun w'=>w'.cell? ⟨gb251,0,none⟩=some (.int .i64 a0_0)∧w'.cell? ⟨gb251,1,none⟩=some (.slice (some ⟨go29,0,none⟩) x252001_1.length co29)∧w'.cell? ⟨gb245,0,none⟩=some (.int .i64 a0_0)∧w'.cell? ⟨gb245,1,none⟩=some (.slice (some ad252) l0_1.length c0_1)∧w'.cell? (ad252.add ((ji24)).toNat)=some (.int .i64 (rd l0_1 (ji24)))) (ds:=[15]) #[fi,fi,fi,fi,fi,fi,fi,fi,fi,fi,fi,fi,fi,fi,fi,fi] (by kernel_rfl) rfl rfl ⟨(blk_cell BK251.out 0).trans rfl,(blk_cell BK251.out 1).trans rfl,(blk_cell BK245.out 0).trans rfl,(blk_cell BK245.out 1).trans rfl,((HB.out.cell (World.block_lt_of_cell? w _ hw252_0)).trans hw252_0)⟩ (fun hHeld=>?_);refine with_tabW impl_DualTable.tab7 impl_DualTable.bits7 (fun HT_ HW_=>?_)
           generalize wr.drew=w30 at HO_252001 BK245 BK246 BK251 HB GG29 HQ31 hf29_0 hx252_0 hx29_0 hHeld ⊢;refine py_ 0 23 HT_.out ?_;refine py_ 2 25 HT_.out ?_;refine py_ 3 26 HT_.out ?_;refine py_ 5 28 HT_.out ?_;refine py_ 9 32 HT_.out ?_
           refine tw5_ 1 24 HT_.out HW_.out hHeld ?_
           refine tw5_ 4 27 HT_.out HW_.out hHeld ?_
           refine tw5_ 6 29 HT_.out HW_.out hHeld ?_
           refine py_ 7 30 HT_.out ?_;refine py_ 8 31 HT_.out ?_;refine py_ 10 33 HT_.out ?_;refine py_ 11 34 HT_.out ?_
           refine tw5_ 12 35 HT_.out HW_.out hHeld ?_
           refine py_ 13 36 HT_.out ?_;refine py_ 14 37 HT_.out ?_
           refine last_ (i:=15) (N:=none) #[ti,ti,ti,ti,ti,ti,ti,ti,ti,ti,ti,ti,ti,ti,ti,ti] rfl rfl (one_of HT_.out (by kernel_rfl)) (by decide) (fun K hK=>?_)
           refine skip_ (w1:=?_) (by rfl) rfl ?_ ?_
           rotate_left
           ·go_simp
            rfl
           refine hK.out _ _ ?_
           clear hK K
           refine done_ (done_of HT_.out (by kernel_rfl)) ?_
           (try go_wp2)
           go_roundg k1
           case measure=>have:=HK1.out;omega
           case rel=>exact ⟨(wrap64 (x20_1+1)),(y253),(.slice (some ⟨go29,0,none⟩) x252001_1.length co29),zc_,H',⟨zcc_⟩,⟨zr HQ31.out⟩,⟨by refine zb ?_;refine blk_far ?_ (by have h_:=Kd.R_ne HO_252001.out BK245.out (by decide);intro e_;exact h_ (by rw [e_];rfl)) _;refine zb ?_;exact BK245.out⟩,⟨by refine zb ?_;refine blk_far ?_ (by have h_:=Kd.R_ne HO_252001.out BK246.out (by decide);intro e_;exact h_ (by rw [e_];rfl)) _;refine zb ?_;exact BK246.out⟩,⟨by refine zb ?_;refine blk_far ?_ (by have h_:=Kd.R_ne HO_252001.out BK251.out (by decide);intro e_;exact h_ (by rw [e_];rfl)) _;refine zb ?_;exact BK251.out⟩,⟨by repeat (first | (with_reducible first | exact HB.out | apply pA | apply pN | apply p1 | refine below_set ?_ GB29.out | refine below_set ?_ GE245.out | refine below_set ?_ GE246.out | refine below_set ?_ GE251.out) | exact HB.out)⟩⟩
          ·rw [if_neg c28] at H
           exact q3n_ H
         ·rw [if_neg c27] at H
          exact q3n_ H
        ·rw [if_neg c26] at H
         exact q3n_ H
       ·rw [if_neg c25] at H
        exact q3n_ H
      ·rw [if_neg c23] at H
       have c23b0:=decide_eq_false c23;clear c23
       simp only [Option.some.injEq,Prod.mk.injEq] at H
       obtain ⟨rfl,rfl,rfl⟩:=H;have hnb32:=NB251_245.out;have hnc32:=NB245_251.out;have hnb33:=NB251_246.out;have hnc33:=NB246_251.out;obtain ⟨hcz34_0,hcz34_1,hfz34_0,hfz34_1⟩:=zk2 BK251.out;have hnb35:=NB246_245.out;have hnc35:=NB245_246.out;obtain ⟨hcz36_0,hcz36_1,hfz36_0,hfz36_1⟩:=zk2 BK246.out;obtain ⟨Ao37,co37,eo37⟩:=Kd.R_slice HO_252001.out;subst eo37
       go_wp2
       refine bodyPost_ret (results_ct rfl _ _ gb246 26 #[.int .i64 a0_0,.slice Ao37 x252001_1.length co37] (0,0) _ rfl (by refine zb ?_;refine blk_put (cs:=#[.int .i64 a0_0,.slice none 0 0]) ?_ 1 _ rfl;refine zb ?_;refine blk_put (cs:=#[.int .i64 0,.slice none 0 0]) ?_ 0 _ rfl;refine zb ?_;exact BK246.out) Tryd.underlying26 rfl (by kernel_rfl)) rfl ?_
       exact ⟨_,zh_,by refine zr ?_;exact Kd.R_mono (Kd.R_far (p:=⟨gb246,1,none⟩) (Kd.R_far (p:=⟨gb246,0,none⟩) (Kd.R_types HO_252001.out BK246.out (by decide)) (fun _ hk=>hk.2) (.int .i64 a0_0)) (fun _ hk=>hk.2) (.slice Ao37 x252001_1.length co37)) (fun _ hk=>trivial),zge_⟩
   ·rw [if_neg c5] at H
    exact q3n_ H
  ·rw [if_neg c4] at H
   exact q3n_ H
 ·replace c3:=Bool.eq_false_iff.mpr c3
  subst c3;have H1:(some (0,([]:List Int),false))=some (r1,r2,r3):=by rw [if_neg (show ¬ (false=true) by decide)] at H;exact H
  clear H;have H:=H1;clear H1
  simp only [Option.some.injEq,Prod.mk.injEq] at H
  obtain ⟨rfl,rfl,rfl⟩:=H
  go_enter Tryd.func35,Tryd.ntmps35
  go_wp2_with (first | ((with_reducible refine gate_dst (N:=1) rfl ?_);refine box_event ?hg (N:=1) ?hd (cs:=#[.int .i64 a0_0,.slice A0_1 l0_1.length c0_1]) (t:=26) ?hr ?_;(case hd=>rfl);(case hg=>rfl);(case hr=>exact zb_);intro gb245 hg w38 hbox hb;have n_:=z (below_step za_ hb)<|z (hbox)<|z ((by rw [hg];exact (below_size za_):w.heap.size≤gb245))<|z1 ((by rw [hg];exact (below_size za_):w.heap.size≤gb245));clear HB;obtain ⟨HB,BK245,GW245,GE245⟩:=n_;clear hb hbox hg)|((with_reducible refine gate_dst (N:=2) rfl ?_);refine box_event ?hg (N:=2) ?hd (cs:=#[.int .i64 0,.slice none 0 0]) (t:=26) ?hr ?_;(case hd=>rfl);(case hg=>rfl);(case hr=>exact zb_);intro gb246 hg w39 hbox hb;have n_:=z (blk_below (zb BK245.out) hb)<|z (below_step zgd_ hb)<|z (hbox)<|z ((by rw [hg];exact (below_size zgd_):w.heap.size≤gb246))<|z ((by rw [hg];exact (below_size zgd_):w.heap.size≤gb246))<|z ((by rw [hg];exact Nat.ne_of_lt (blk_lt (zb BK245.out)):gb245≠gb246))<|z1 ((by rw [hg];exact Nat.ne_of_gt (blk_lt (zb BK245.out)):gb246≠gb245));clear BK245 HB;obtain ⟨BK245,HB,BK246,GW246,GE246,NB245_246,NB246_245⟩:=n_;clear hb hbox hg;have hnb40:=NB245_246.out;have hnc40:=NB246_245.out;obtain ⟨hcz41_0,hcz41_1,hfz41_0,hfz41_1⟩:=zk2 BK245.out)|((with_reducible refine gate_callee (f:=10) rfl ?_);refine goesL_ (some 7) rfl rfl Tryd.func10 (by kernel_rfl) rfl #[.agg #[.int .i64 a0_0,.slice A0_1 l0_1.length c0_1]] rfl ze_ ?_;(with_reducible refine (impl_IsTable.calls k a0_0 _ _ l0_1 false _ ?side1 ?side2 A2.out).mono ?_);(case side1=>exact zbc_);(case side2=>exact HC0_1.out);rintro e w42 ⟨rfl,hb⟩;refine ⟨_,rfl,?_⟩;have n_:=z (blk_below (zb BK245.out) hb)<|z (blk_below (zb BK246.out) hb)<|z1 (below_step zdf_ hb);clear BK245 BK246 HB;obtain ⟨BK245,BK246,HB⟩:=n_;clear hb;obtain ⟨hcz43_0,hcz43_1,hfz43_0,hfz43_1⟩:=zk2 BK246.out))
  refine bodyPost_ret (results_ct rfl _ _ gb246 26 #[.int .i64 0,.slice none 0 0] (0,0) _ rfl (by refine zb ?_;refine blk_put (cs:=#[.int .i64 0,.slice none 0 0]) ?_ 1 _ rfl;refine zb ?_;refine blk_put (cs:=#[.int .i64 0,.slice none 0 0]) ?_ 0 _ rfl;refine zb ?_;exact BK246.out) Tryd.underlying26 rfl (by kernel_rfl)) rfl ?_
  exact ⟨_,zh_,zca_,zdf_⟩
def spec_DualTable.l0:Nat→Int→Int→List Int→Int→List Int→Option (Int×List Int×Bool)
 | 0,_,_,_,_,_=>none
 | k+1,x5,x255000,x255001,x258000,x258001=>if x5≥0 then (if 0≤x5 then (if x5<(x255001.length:Int) then (if x258001.length<17592186044416 then (spec_DualTable.l0 k (wrap64 (x5 - 1)) x255000 x255001 x258000 (x258001 ++ [wrap64 (1 - (rd x255001 x5))])) else (none)) else (none)) else (none)) else (some (x258000,x258001,true))
def spec_DualTable.f (k:Nat) (a0_0:Int) (l0_1:List Int):Option (Int×List Int×Bool):=(spec_ttGood.f k a0_0 l0_1).bind fun t256=>(if t256=true then (spec_DualTable.l0 k (wrap64 ((l0_1.length:Int) - 1)) a0_0 l0_1 a0_0 ([]:List Int)) else (some (0,([]:List Int),false)))
def spec_DualTable.T7:Bool×List (List Nat×List Nat):=(true,[([],[]),([0],[0]),([],[]),([2],[2]),([],[]),([3,4],[3,4]),([5],[5]),([6],[6]),([7],[7]),([1,8],[1,8]),([0,1,2,3,4,5,6,7,8,9],[]),([10,9,9,0,1,2,3,4,5,6,7,8,9],[9,10])])
def spec_DualTable.B7:List Nat:=[0,1,0,4,0,28,60,124,252,511,1023,2047]
theorem spec_DualTable.tab7:rtab .any (opsOf Tryd.f36 7)=spec_DualTable.T7:=by kernel_rfl
theorem spec_DualTable.bits7:waitsOk spec_DualTable.T7.2 spec_DualTable.B7=true:=by kernel_rfl
theorem spec_DualTable.calls (k:Nat) (a0_0:Int) (A0_1:Option Addr) (c0_1:Nat) (l0_1:List Int) (r1:Int) (r2:List Int) (r3:Bool) (w:World) (hr0_1:Kd.C (Kd.int .i64) w A0_1 l0_1.length l0_1) (hc0_1:l0_1.length≤c0_1) (h:spec_DualTable.f k a0_0 l0_1=some (r1,r2,r3)) :
  Calls Tryd.prog 36 #[.agg #[.int .i64 a0_0,.slice A0_1 l0_1.length c0_1]] w fun e w' => ∃ v1_:Value,e = .returned (.tuple #[.agg #[.int .i64 r1,v1_],.bool r3])∧Kd.R (Kd.int .i64) 3 w' w.heap.size (fun _=>True) v1_ r2∧Below w.heap.size w w':=by
 have hu26:=Tryd.underlying26
 have HR0_1:=aM hr0_1
 have HC0_1:=aM hc0_1
 clear hr0_1 hc0_1
 have HB:=aM (Below.refl w.heap.size w)
 have H:((spec_ttGood.f k a0_0 l0_1).bind fun t256=>(if t256=true then (spec_DualTable.l0 k (wrap64 ((l0_1.length:Int) - 1)) a0_0 l0_1 a0_0 ([]:List Int)) else (some (0,([]:List Int),false))))=some (r1,r2,r3):=h
 clear h
 replace H:=oB.mp H
 obtain ⟨t256,A20,H⟩:=H
 replace H:(if t256=true then (spec_DualTable.l0 k (wrap64 ((l0_1.length:Int) - 1)) a0_0 l0_1 a0_0 ([]:List Int)) else (some (0,([]:List Int),false)))=some (r1,r2,r3):=H
 have A2:=aM A20
 clear A20
 by_cases c3:t256=true
 ·subst c3
  have H1:(spec_DualTable.l0 k (wrap64 ((l0_1.length:Int) - 1)) a0_0 l0_1 a0_0 ([]:List Int))=some (r1,r2,r3):=by rw [if_pos rfl] at H;exact H
  clear H;have H:=H1;clear H1;have H':=aM H;clear H
  go_enter Tryd.func36,Tryd.ntmps36
  go_wp2_with (first | ((with_reducible refine gate_dst (N:=1) rfl ?_);refine box_event ?hg (N:=1) ?hd (cs:=#[.int .i64 a0_0,.slice A0_1 l0_1.length c0_1]) (t:=26) ?hr ?_;(case hd=>rfl);(case hg=>rfl);(case hr=>exact zb_);intro gb254 hg w4 hbox hb;have n_:=z (below_step za_ hb)<|z (hbox)<|z ((by rw [hg];exact (below_size za_):w.heap.size≤gb254))<|z1 ((by rw [hg];exact (below_size za_):w.heap.size≤gb254));clear HB;obtain ⟨HB,BK254,GW254,GE254⟩:=n_;clear hb hbox hg)|((with_reducible refine gate_dst (N:=2) rfl ?_);refine box_event ?hg (N:=2) ?hd (cs:=#[.int .i64 0,.slice none 0 0]) (t:=26) ?hr ?_;(case hd=>rfl);(case hg=>rfl);(case hr=>exact zb_);intro gb255 hg w5 hbox hb;have n_:=z (blk_below (zb BK254.out) hb)<|z (below_step zgf_ hb)<|z (hbox)<|z ((by rw [hg];exact (below_size zgf_):w.heap.size≤gb255))<|z ((by rw [hg];exact (below_size zgf_):w.heap.size≤gb255))<|z ((by rw [hg];exact Nat.ne_of_lt (blk_lt (zb BK254.out)):gb254≠gb255))<|z1 ((by rw [hg];exact Nat.ne_of_gt (blk_lt (zb BK254.out)):gb255≠gb254));clear BK254 HB;obtain ⟨BK254,HB,BK255,GW255,GE255,NB254_255,NB255_254⟩:=n_;clear hb hbox hg;have hnb6:=NB254_255.out;have hnc6:=NB255_254.out;obtain ⟨hcz7_0,hcz7_1,hfz7_0,hfz7_1⟩:=zk2 BK254.out)|((with_reducible refine gate_callee (f:=50) rfl ?_);refine goesL_ (some 7) rfl rfl Tryd.func50 (by kernel_rfl) rfl #[.agg #[.int .i64 a0_0,.slice A0_1 l0_1.length c0_1]] rfl ze_ ?_;(with_reducible refine (spec_ttGood.calls k a0_0 _ _ l0_1 true _ ?side1 ?side2 A2.out).mono ?_);(case side1=>exact zbc_);(case side2=>exact HC0_1.out);rintro e w8 ⟨rfl,hb⟩;refine ⟨_,rfl,?_⟩;have n_:=z (blk_below (zb BK254.out) hb)<|z (blk_below (zb BK255.out) hb)<|z1 (below_step zgg_ hb);clear BK254 BK255 HB;obtain ⟨BK254,BK255,HB⟩:=n_;clear hb;obtain ⟨hcz9_0,hcz9_1,hfz9_0,hfz9_1⟩:=zk2 BK254.out)|((with_reducible refine gate_dst (N:=4) rfl ?_);refine box_event ?hg (N:=4) ?hd (cs:=#[.int .i64 0,.slice none 0 0]) (t:=26) ?hr ?_;(case hd=>rfl);(case hg=>rfl);(case hr=>exact zb_);intro gb257 hg w10 hbox hb;have n_:=z (blk_below (zb BK254.out) hb)<|z (blk_below (zb BK255.out) hb)<|z (below_step zgg_ hb)<|z (hbox)<|z ((by rw [hg];exact (below_size zgg_):w.heap.size≤gb257))<|z ((by rw [hg];exact (below_size zgg_):w.heap.size≤gb257))<|z ((by rw [hg];exact Nat.ne_of_lt (blk_lt (zb BK254.out)):gb254≠gb257))<|z ((by rw [hg];exact Nat.ne_of_gt (blk_lt (zb BK254.out)):gb257≠gb254))<|z ((by rw [hg];exact Nat.ne_of_lt (blk_lt (zb BK255.out)):gb255≠gb257))<|z1 ((by rw [hg];exact Nat.ne_of_gt (blk_lt (zb BK255.out)):gb257≠gb255));clear BK254 BK255 HB;obtain ⟨BK254,BK255,HB,BK257,GW257,GE257,NB254_257,NB257_254,NB255_257,NB257_255⟩:=n_;clear hb hbox hg;have hnb11:=NB257_254.out;have hnc11:=NB254_257.out;have hnb12:=NB257_255.out;have hnc12:=NB255_257.out;obtain ⟨hcz13_0,hcz13_1,hfz13_0,hfz13_1⟩:=zk2 BK257.out;obtain ⟨hcz14_0,hcz14_1,hfz14_0,hfz14_1⟩:=zk2 BK254.out))
  go_loopg [5] k (fun kq v5 w' => ∃ (x5_1:Int) (x258001_1:List Int) (u258001:Value),v5 = .int .i64 x5_1∧Aside0 (spec_DualTable.l0 kq x5_1 a0_0 l0_1 a0_0 x258001_1=some (r1,r2,r3))∧Aside0 (kq≤k)∧Aside0 (Kd.R (Kd.int .i64) 3 w' w.heap.size (fun _=>True) u258001 x258001_1)∧Aside0 (w'.heap[gb254]?=some (.cells #[.int .i64 a0_0,(.slice A0_1 l0_1.length c0_1)] 26 (0,0)))∧Aside0 (w'.heap[gb255]?=some (.cells #[.int .i64 0,(.slice none 0 0)] 26 (0,0)))∧Aside0 (w'.heap[gb257]?=some (.cells #[.int .i64 a0_0,u258001] 26 (0,0)))∧Aside0 (Below w.heap.size w w'))
  case atStart=>exact ⟨(wrap64 ((l0_1.length:Int) - 1)),(([]:List Int)),(.slice none 0 0),zc_,H',⟨Nat.le_refl _⟩,⟨zca_⟩,⟨by refine zb ?_;refine blk_far ?_ NB254_257.out _;refine zb ?_;refine blk_far ?_ NB254_257.out _;refine zb ?_;exact BK254.out⟩,⟨by refine zb ?_;refine blk_far ?_ NB255_257.out _;refine zb ?_;refine blk_far ?_ NB255_257.out _;refine zb ?_;exact BK255.out⟩,⟨by refine zb ?_;refine blk_put (cs:=#[.int .i64 a0_0,.slice none 0 0]) ?_ 1 _ rfl;refine zb ?_;refine blk_put (cs:=#[.int .i64 0,.slice none 0 0]) ?_ 0 _ rfl;refine zb ?_;exact BK257.out⟩,⟨zhh_⟩⟩
  case round =>
   clear H';(try clear hcz13_0);(try clear hcz13_1);(try clear hcz14_0);(try clear hcz14_1);(try clear hcz7_0);(try clear hcz7_1);(try clear hcz9_0);(try clear hcz9_1);(try clear hfz13_0);(try clear hfz13_1);(try clear hfz14_0);(try clear hfz14_1);(try clear hfz7_0);(try clear hfz7_1);(try clear hfz9_0);(try clear hfz9_1);obtain ⟨x5_1,x258001_1,u258001,rfl,HA,HK1,HO_258001,BK254,BK255,BK257,HB⟩:=hrel
   cases gk with
   | zero=>exact absurd HA.out (by simp [spec_DualTable.l0])
   | succ k1 =>
    have H:=HA.out;clear HA
    simp only [spec_DualTable.l0] at H
    by_cases c15:x5_1≥0
    ·rw [if_pos c15] at H
     have c15b0:decide (0≤x5_1)=true:=decide_eq_true c15;clear c15
     by_cases c16:0≤x5_1
     ·rw [if_pos c16] at H
      have c16b0:=decide_eq_true c16;clear c16
      by_cases c17:x5_1<(l0_1.length:Int)
      ·rw [if_pos c17] at H
       have c17b0:=decide_eq_true c17;clear c17
       by_cases c18:x258001_1.length<17592186044416
       ·rw [if_pos c18] at H
        have LMc18:=aM c18;clear c18;obtain ⟨y259,hy259⟩:∃ y_:List Int,y_=(x258001_1 ++ [wrap64 (1 - (rd l0_1 x5_1))]):=⟨_,rfl⟩;replace H:(spec_DualTable.l0 k1 (wrap64 (x5_1 - 1)) a0_0 l0_1 a0_0 y259)=some (r1,r2,r3):=q3y_ hy259 H
        have Ny259:=aM hy259;clear hy259;have H':=aM H;clear H;(try go_wp2);have n_:=z (kD HO_258001.out)<|z (blk_drew BK254.out)<|z (blk_drew BK255.out)<|z (blk_drew BK257.out)<|z1 (p1 HB.out)
        clear HO_258001 BK254 BK255 BK257 HB;obtain ⟨HO_258001,BK254,BK255,BK257,HB⟩:=n_;have p258:0≤(x5_1:Int):=of_decide_eq_true zd_;have q258:x5_1<(l0_1.length:Int):=of_decide_eq_true zd_;obtain ⟨ad258,e258,hx258_0⟩:=Kd.at_int HR0_1.out x5_1 p258 q258;have hw258_0:=hx258_0
        cases e258
        (try (replace hx258_0:=q3h_ HB.out hx258_0));replace p258:=eq_true p258;replace q258:=eq_true q258
        refine start_ (n:=12) (S:=fun w'=>w'.cell? ⟨gb257,0,none⟩=some (.int .i64 a0_0)∧w'.cell? ⟨gb257,1,none⟩=some (u258001)∧w'.cell? ⟨gb254,0,none⟩=some (.int .i64 a0_0)∧w'.cell? ⟨gb254,1,none⟩=some (.slice (some ad258) l0_1.length c0_1)∧w'.cell? (ad258.add (x5_1).toNat)=some (.int .i64 (rd l0_1 x5_1))) (ds:=[11]) #[fi,fi,fi,fi,fi,fi,fi,fi,fi,fi,fi,fi] (by kernel_rfl) rfl rfl ⟨(blk_cell BK257.out 0).trans rfl,(blk_cell BK257.out 1).trans rfl,(blk_cell BK254.out 0).trans rfl,(blk_cell BK254.out 1).trans rfl,((HB.out.cell (World.block_lt_of_cell? w _ hw258_0)).trans hw258_0)⟩ (fun hHeld=>?_);refine with_tabW spec_DualTable.tab7 spec_DualTable.bits7 (fun HT_ HW_=>?_)
        generalize wr.drew=w19 at HO_258001 BK254 BK255 BK257 HB hx258_0 hHeld ⊢;refine py_ 0 21 HT_.out ?_;refine py_ 2 23 HT_.out ?_;refine py_ 4 25 HT_.out ?_
        refine tw5_ 1 22 HT_.out HW_.out hHeld ?_
        refine tw5_ 3 24 HT_.out HW_.out hHeld ?_
        refine py_ 5 26 HT_.out ?_
        refine tw5_ 6 27 HT_.out HW_.out hHeld ?_
        refine py_ 7 28 HT_.out ?_
        refine one_ (i:=8) (N:=some 29) #[ti,ti,ti,ti,ti,ti,ti,ti,ti,fi,fi,fi] rfl rfl (one_of HT_.out (by kernel_rfl)) (by decide) (fun K hK=>?_)
        refine value_ (w1:=?_) (v:=?_) (by rfl) rfl ?_ ?_
        rotate_left 2
        ·go_simp
         constructor
         ·rfl
         ·rfl
        refine hK.out _ _ ⟨(blk_cell (blk_alloc BK257.out _) 0).trans rfl,(blk_cell (blk_alloc BK257.out _) 1).trans rfl,(blk_cell (blk_alloc BK254.out _) 0).trans rfl,(blk_cell (blk_alloc BK254.out _) 1).trans rfl,(World.cell?_alloc_lt _ _ _ (World.block_lt_of_cell? _ _ (((HB.out.cell (World.block_lt_of_cell? w _ hw258_0)).trans hw258_0)))).trans (((HB.out.cell (World.block_lt_of_cell? w _ hw258_0)).trans hw258_0))⟩ (fun hHeld=>?_)
        clear hK K
        refine nz_ 29 ?_
        refine one_ (i:=9) (N:=some 30) #[ti,ti,ti,ti,ti,ti,ti,ti,ti,ti,fi,fi] rfl rfl (one_of HT_.out (by kernel_rfl)) (by decide) (fun K hK=>?_)
        refine Kd.R_append_step (Kd.int .i64) (w0:=w) w.heap.size (by rfl) (.tmp 22) (.tmp 29) 24 3 (.int .i64 0) 8 rfl Tryd.underlying24 info3 rfl (by decide) (by omega) u258001 x258001_1 (wrap64 (1 - (rd l0_1 x5_1))) [.int .i64 (wrap64 (1 - (rd l0_1 x5_1)))] (fun _=>True) (fun _=>False) rfl rfl ?aP (fun _ hk=>hk.elim) ?aF ?aO ?aB ?aS ?aL ?_
        (case aP=>exact rfl)
        (case aB=>exact zhh_)
        (case aF=>exact zdc_)
        (case aO=>exact (zr HO_258001.out))
        (case aS=>exact (below_size zhh_))
        (case aL=>have:=LMc18.out;omega)
        intro v260 w20 ho hb hg hat
        rw [← Ny259.out] at ho;have n_:=z (blk_grown (g:=gb254) (o := .cells #[.int .i64 a0_0,.slice (some ad258) l0_1.length c0_1] 26 (0,0)) (zb BK254.out) hg (Kd.R_ne HO_258001.out BK254.out (by decide)))<|z (blk_grown (g:=gb255) (o := .cells #[.int .i64 0,.slice none 0 0] 26 (0,0)) (zb BK255.out) hg (Kd.R_ne HO_258001.out BK255.out (by decide)))<|z (blk_grown (g:=gb257) (o := .cells #[.int .i64 a0_0,u258001] 26 (0,0)) (zb BK257.out) hg (Kd.R_ne HO_258001.out BK257.out (by decide)))<|z (hb)<|z1 (ho)
        clear BK254 BK255 BK257 HB HO_258001;obtain ⟨BK254,BK255,BK257,HB,HO261⟩:=n_;clear ho hb hg hat;obtain ⟨Ao21,co21,eo21⟩:=Kd.R_slice HO261.out;(first | subst eo21 | (injection eo21 with f1_ f2_ f3_;have f4_:=f1_.symm;have f5_:=f3_.symm;clear f1_ f2_ f3_;subst f4_;subst f5_))
        refine hK.out _ _ ⟨(blk_cell BK257.out 0).trans rfl,(blk_cell BK257.out 1).trans rfl,(blk_cell BK254.out 0).trans rfl,(blk_cell BK254.out 1).trans rfl,((HB.out.cell (World.block_lt_of_cell? w _ hw258_0)).trans hw258_0)⟩ (fun hHeld=>?_)
        clear hK K
        refine nz_ 30 ?_
        refine py_ 10 31 HT_.out ?_
        refine last_ (i:=11) (N:=none) #[ti,ti,ti,ti,ti,ti,ti,ti,ti,ti,ti,ti] rfl rfl (one_of HT_.out (by kernel_rfl)) (by decide) (fun K hK=>?_)
        have hs22:w20.cell? ⟨gb257,1,none⟩=some (u258001):=(blk_cell BK257.out 1).trans rfl;have hfs22:=blk_frozen BK257.out 1;have hns22_0:=NB254_257.out;have hns22_1:=NB255_257.out;have hms22_0:=NB257_254.out;have hms22_1:=NB257_255.out
        refine skip_ (w1:=?_) (by rfl) rfl ?_ ?_
        rotate_left
        ·go_simp
         rfl
        refine hK.out _ _ ?_
        clear hK K
        refine done_ (done_of HT_.out (by kernel_rfl)) ?_
        (try go_wp2)
        go_roundg k1
        case measure=>have:=HK1.out;omega
        case rel=>exact ⟨(wrap64 (x5_1 - 1)),(y259),(.slice Ao21 y259.length co21),zc_,H',⟨zcc_⟩,⟨by refine zr ?_;exact Kd.R_mono (Kd.R_far (p:=⟨gb257,1,none⟩) (Kd.R_types HO261.out BK257.out (by decide)) (fun _ hk=>hk.2) (.slice Ao21 y259.length co21)) (fun _ hk=>trivial)⟩,⟨by refine zb ?_;refine blk_far ?_ NB254_257.out _;refine zb ?_;exact BK254.out⟩,⟨by refine zb ?_;refine blk_far ?_ NB255_257.out _;refine zb ?_;exact BK255.out⟩,⟨by refine zb ?_;refine blk_put (cs:=#[.int .i64 a0_0,u258001]) ?_ 1 _ rfl;refine zb ?_;exact BK257.out⟩,⟨zhh_⟩⟩
       ·rw [if_neg c18] at H
        exact q3n_ H
      ·rw [if_neg c17] at H
       exact q3n_ H
     ·rw [if_neg c16] at H
      exact q3n_ H
    ·rw [if_neg c15] at H
     have c15b0:decide (0≤x5_1)=false:=decide_eq_false c15;clear c15
     simp only [Option.some.injEq,Prod.mk.injEq] at H
     obtain ⟨rfl,rfl,rfl⟩:=H;have hnb23:=NB257_254.out;have hnc23:=NB254_257.out;have hnb24:=NB257_255.out;have hnc24:=NB255_257.out;obtain ⟨hcz25_0,hcz25_1,hfz25_0,hfz25_1⟩:=zk2 BK257.out;have hnb26:=NB255_254.out;have hnc26:=NB254_255.out;obtain ⟨hcz27_0,hcz27_1,hfz27_0,hfz27_1⟩:=zk2 BK255.out;obtain ⟨Ao28,co28,eo28⟩:=Kd.R_slice HO_258001.out;subst eo28
     go_wp2
     refine bodyPost_ret (results_ct rfl _ _ gb255 26 #[.int .i64 a0_0,.slice Ao28 x258001_1.length co28] (0,0) _ rfl (by refine zb ?_;refine blk_put (cs:=#[.int .i64 a0_0,.slice none 0 0]) ?_ 1 _ rfl;refine zb ?_;refine blk_put (cs:=#[.int .i64 0,.slice none 0 0]) ?_ 0 _ rfl;refine zb ?_;exact BK255.out) Tryd.underlying26 rfl (by kernel_rfl)) rfl ?_
     exact ⟨_,zh_,by refine zr ?_;exact Kd.R_mono (Kd.R_far (p:=⟨gb255,1,none⟩) (Kd.R_far (p:=⟨gb255,0,none⟩) (Kd.R_types HO_258001.out BK255.out (by decide)) (fun _ hk=>hk.2) (.int .i64 a0_0)) (fun _ hk=>hk.2) (.slice Ao28 x258001_1.length co28)) (fun _ hk=>trivial),zhh_⟩
 ·replace c3:=Bool.eq_false_iff.mpr c3
  subst c3;have H1:(some (0,([]:List Int),false))=some (r1,r2,r3):=by rw [if_neg (show ¬ (false=true) by decide)] at H;exact H
  clear H;have H:=H1;clear H1
  simp only [Option.some.injEq,Prod.mk.injEq] at H
  obtain ⟨rfl,rfl,rfl⟩:=H
  go_enter Tryd.func36,Tryd.ntmps36
  go_wp2_with (first | ((with_reducible refine gate_dst (N:=1) rfl ?_);refine box_event ?hg (N:=1) ?hd (cs:=#[.int .i64 a0_0,.slice A0_1 l0_1.length c0_1]) (t:=26) ?hr ?_;(case hd=>rfl);(case hg=>rfl);(case hr=>exact zb_);intro gb254 hg w29 hbox hb;have n_:=z (below_step za_ hb)<|z (hbox)<|z ((by rw [hg];exact (below_size za_):w.heap.size≤gb254))<|z1 ((by rw [hg];exact (below_size za_):w.heap.size≤gb254));clear HB;obtain ⟨HB,BK254,GW254,GE254⟩:=n_;clear hb hbox hg)|((with_reducible refine gate_dst (N:=2) rfl ?_);refine box_event ?hg (N:=2) ?hd (cs:=#[.int .i64 0,.slice none 0 0]) (t:=26) ?hr ?_;(case hd=>rfl);(case hg=>rfl);(case hr=>exact zb_);intro gb255 hg w30 hbox hb;have n_:=z (blk_below (zb BK254.out) hb)<|z (below_step zgf_ hb)<|z (hbox)<|z ((by rw [hg];exact (below_size zgf_):w.heap.size≤gb255))<|z ((by rw [hg];exact (below_size zgf_):w.heap.size≤gb255))<|z ((by rw [hg];exact Nat.ne_of_lt (blk_lt (zb BK254.out)):gb254≠gb255))<|z1 ((by rw [hg];exact Nat.ne_of_gt (blk_lt (zb BK254.out)):gb255≠gb254));clear BK254 HB;obtain ⟨BK254,HB,BK255,GW255,GE255,NB254_255,NB255_254⟩:=n_;clear hb hbox hg;have hnb31:=NB254_255.out;have hnc31:=NB255_254.out;obtain ⟨hcz32_0,hcz32_1,hfz32_0,hfz32_1⟩:=zk2 BK254.out)|((with_reducible refine gate_callee (f:=50) rfl ?_);refine goesL_ (some 7) rfl rfl Tryd.func50 (by kernel_rfl) rfl #[.agg #[.int .i64 a0_0,.slice A0_1 l0_1.length c0_1]] rfl ze_ ?_;(with_reducible refine (spec_ttGood.calls k a0_0 _ _ l0_1 false _ ?side1 ?side2 A2.out).mono ?_);(case side1=>exact zbc_);(case side2=>exact HC0_1.out);rintro e w33 ⟨rfl,hb⟩;refine ⟨_,rfl,?_⟩;have n_:=z (blk_below (zb BK254.out) hb)<|z (blk_below (zb BK255.out) hb)<|z1 (below_step zgg_ hb);clear BK254 BK255 HB;obtain ⟨BK254,BK255,HB⟩:=n_;clear hb;obtain ⟨hcz34_0,hcz34_1,hfz34_0,hfz34_1⟩:=zk2 BK255.out))
  refine bodyPost_ret (results_ct rfl _ _ gb255 26 #[.int .i64 0,.slice none 0 0] (0,0) _ rfl (by refine zb ?_;refine blk_put (cs:=#[.int .i64 0,.slice none 0 0]) ?_ 1 _ rfl;refine zb ?_;refine blk_put (cs:=#[.int .i64 0,.slice none 0 0]) ?_ 0 _ rfl;refine zb ?_;exact BK255.out) Tryd.underlying26 rfl (by kernel_rfl)) rfl ?_
  exact ⟨_,zh_,zca_,zgg_⟩
def spec_l1Most.f (a0:Int) (a1:Int):Option (Int):=if a0>a1 then (some a0) else (some a1)
theorem spec_l1Most.calls (a0:Int) (a1:Int) (r:Int) (w:World) (h:spec_l1Most.f a0 a1=some r) :
  Calls Tryd.prog 74 #[.int .i64 a0,.int .i64 a1] w fun e w'=>e = .returned (.int .i64 r)∧Drawn0 w w':=by
 have H:(if a0>a1 then (some a0) else (some a1))=some r:=h
 clear h
 by_cases c3:a0>a1
 ·rw [if_pos c3] at H
  have c3b0:decide (a1<a0)=true:=decide_eq_true c3;clear c3;obtain rfl:=Option.some.inj H
  go_enter Tryd.func74,Tryd.ntmps74
  go_wp2
  go_ret
  exact ⟨zc_,zj_⟩
 ·rw [if_neg c3] at H
  have c3b0:decide (a1<a0)=false:=decide_eq_false c3;clear c3;obtain rfl:=Option.some.inj H
  go_enter Tryd.func74,Tryd.ntmps74
  go_wp2
  go_ret
  exact ⟨zc_,zj_⟩
def spec_l1Least.f (a0:Int) (a1:Int):Option (Int):=if a0<a1 then (some a0) else (some a1)
theorem spec_l1Least.calls (a0:Int) (a1:Int) (r:Int) (w:World) (h:spec_l1Least.f a0 a1=some r) :
  Calls Tryd.prog 75 #[.int .i64 a0,.int .i64 a1] w fun e w'=>e = .returned (.int .i64 r)∧Drawn0 w w':=by
 have H:(if a0<a1 then (some a0) else (some a1))=some r:=h
 clear h
 by_cases c3:a0<a1
 ·rw [if_pos c3] at H
  have c3b0:=decide_eq_true c3;clear c3;obtain rfl:=Option.some.inj H
  go_enter Tryd.func75,Tryd.ntmps75
  go_wp2
  go_ret
  exact ⟨zc_,zj_⟩
 ·rw [if_neg c3] at H
  have c3b0:=decide_eq_false c3;clear c3;obtain rfl:=Option.some.inj H
  go_enter Tryd.func75,Tryd.ntmps75
  go_wp2
  go_ret
  exact ⟨zc_,zj_⟩
end Go.Proofs.YtlnhpkjioppbiaaDoor.QFnTables
