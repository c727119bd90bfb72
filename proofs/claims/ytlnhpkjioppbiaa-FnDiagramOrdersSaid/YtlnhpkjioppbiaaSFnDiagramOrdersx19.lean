/- Functions of FnDiagramOrders, each as a Lean function, with the proof that the Go code comes to its answers. -/
import Derived.Test.YtlnhpkjioppbiaaSFnDiagramOrdersx3
import Derived.Test.YtlnhpkjioppbiaaSFnDiagramOrdersx6
import Derived.Test.YtlnhpkjioppbiaaSFnDiagramOrdersx8
import Derived.Test.YtlnhpkjioppbiaaSFnDiagramOrdersx12
import Derived.Test.YtlnhpkjioppbiaaSFnDiagramOrdersx14
import Derived.Test.YtlnhpkjioppbiaaSFnDiagramOrdersx16
namespace Go.Proofs.Ytlnhpkjioppbiaa.QFnDiagramOrders
open Go.RowKit Go.Proofs.YtlnhpkjioppbiaaW.PrintWords Go.Proofs.YtlnhpkjioppbiaaW.PrintLast Go.Proofs.YtlnhpkjioppbiaaW.PrintMore
open Go.Proofs.YtlnhpkjioppbiaaW.PrintWords renaming pw_below_drewN→pN,below_drew1→p1,below_alloc→pA
open Go.Proofs.YtlnhpkjioppbiaaW.PrintWords.Kd renaming R_alloc→kA,R_drewN→kN,R_drew→kD,Q_alloc→qA,Q_drewN→qN,Q_drew→qD,C_alloc→cA,C_drewN→cN,C_drew→cD
open Go.Proofs.YtlnhpkjioppbiaaW.PrintWords.Aside0 renaming mk→aM
open List renaming setIfInBounds_toArray→sI,set_cons_zero→s0,set_cons_succ→sS,map_toArray→mT,length_take→lT,length_drop→lD,map_cons→mC,map_nil→mN
open Option renaming bind_eq_some_iff→oB
attribute [local go_sem] max2_int min2_int max_two min_two max_three min_three max_four min_four
set_option maxHeartbeats 8000000
set_option maxRecDepth 100000
set_option linter.unusedVariables false
set_option linter.unusedSimpArgs false
open Option renaming bind_eq_some_iff→oB,bind_some→oS
def impl_TableOf.f (k:Nat) (a0_0:Int) (l0_1:List (S93)) (a0_2:Int):Option (Int×List Int×Bool):=(impl_IsDiagram.f k a0_0 l0_1 a0_2).bind fun t245=>(if t245=true then ((impl_tableOfDiagram.f k a0_0 l0_1 a0_2).bind fun bt246=>(some (bt246.1,bt246.2,true))) else (some (0,([]:List Int),false)))
theorem impl_TableOf.calls (k:Nat) (a0_0:Int) (A0_1:Option Addr) (c0_1:Nat) (l0_1:List (S93)) (a0_2:Int) (r1:Int) (r2:List Int) (r3:Bool) (w:World) (hr0_1:Kd.C k93 w A0_1 l0_1.length l0_1) (hc0_1:l0_1.length≤c0_1) (h:impl_TableOf.f k a0_0 l0_1 a0_2=some (r1,r2,r3)) :
  Calls Try.prog 16 #[.agg #[.int .i64 a0_0,.slice A0_1 l0_1.length c0_1,.int .i64 a0_2]] w fun e w' => ∃ v1_:Value,e = .returned (.tuple #[.agg #[.int .i64 r1,v1_],.bool r3])∧Kd.R (Kd.int .i64) 3 w' w.heap.size (fun _=>True) v1_ r2∧Below w.heap.size w w':=by
 have hu28:=Try.underlying28
 have hu41:=Try.underlying41
 have HR0_1:=aM hr0_1
 have HC0_1:=aM hc0_1
 clear hr0_1 hc0_1
 have HB:=aM (Below.refl w.heap.size w)
 have H:((impl_IsDiagram.f k a0_0 l0_1 a0_2).bind fun t245=>(if t245=true then ((impl_tableOfDiagram.f k a0_0 l0_1 a0_2).bind fun bt246=>(some (bt246.1,bt246.2,true))) else (some (0,([]:List Int),false))))=some (r1,r2,r3):=h
 clear h
 replace H:=oB.mp H
 obtain ⟨t245,A20,H⟩:=H
 replace H:(if t245=true then ((impl_tableOfDiagram.f k a0_0 l0_1 a0_2).bind fun bt246=>(some (bt246.1,bt246.2,true))) else (some (0,([]:List Int),false)))=some (r1,r2,r3):=H
 have A2:=aM A20
 clear A20
 by_cases c3:t245=true
 ·subst c3
  have H1:((impl_tableOfDiagram.f k a0_0 l0_1 a0_2).bind fun bt246=>(some (bt246.1,bt246.2,true)))=some (r1,r2,r3):=by rw [if_pos rfl] at H;exact H
  clear H;have H:=H1;clear H1;replace H:=oB.mp H;obtain ⟨⟨t246,t247⟩,A40,H⟩:=H;replace H:(some (t246,t247,true))=some (r1,r2,r3):=H;have A4:=aM A40;clear A40
  simp only [Option.some.injEq,Prod.mk.injEq] at H
  obtain ⟨rfl,rfl,rfl⟩:=H
  go_enter Try.func16,Try.ntmps16
  go_wp2_with (first | ((with_reducible refine gate_dst (N:=1) rfl ?_);refine box_event ?hg (N:=1) ?hd (cs:=#[.int .i64 a0_0,.slice A0_1 l0_1.length c0_1,.int .i64 a0_2]) (t:=28) ?hr ?_;(case hd=>rfl);(case hg=>rfl);(case hr=>exact za_);intro gb243 hg w5 hbox hb;have n_:=z (below_step zb_ hb)<|z (hbox)<|z ((by rw [hg];exact (below_size zb_):w.heap.size≤gb243))<|z1 ((by rw [hg];exact (below_size zb_):w.heap.size≤gb243));clear HB;obtain ⟨HB,BK243,GW243,GE243⟩:=n_;clear hb hbox hg)|((with_reducible refine gate_dst (N:=2) rfl ?_);refine box_event ?hg (N:=2) ?hd (cs:=#[.int .i64 0,.slice none 0 0]) (t:=41) ?hr ?_;(case hd=>rfl);(case hg=>rfl);(case hr=>exact za_);intro gb244 hg w6 hbox hb;have n_:=z (blk_below (zb BK243.out) hb)<|z (below_step zgi_ hb)<|z (hbox)<|z ((by rw [hg];exact (below_size zgi_):w.heap.size≤gb244))<|z ((by rw [hg];exact (below_size zgi_):w.heap.size≤gb244))<|z ((by rw [hg];exact Nat.ne_of_lt (blk_lt (zb BK243.out)):gb243≠gb244))<|z1 ((by rw [hg];exact Nat.ne_of_gt (blk_lt (zb BK243.out)):gb244≠gb243));clear BK243 HB;obtain ⟨BK243,HB,BK244,GW244,GE244,NB243_244,NB244_243⟩:=n_;clear hb hbox hg;have hnb7:=NB243_244.out;have hnc7:=NB244_243.out;obtain ⟨hcz8_0,hcz8_1,hcz8_2,hfz8_0,hfz8_1,hfz8_2⟩:=zk3 BK243.out)|((with_reducible refine gate_callee (f:=22) rfl ?_);refine goesL_ (some 5) rfl rfl Try.func22 (by kernel_rfl) rfl #[.agg #[.int .i64 a0_0,.slice A0_1 l0_1.length c0_1,.int .i64 a0_2]] rfl zf_ ?_;(with_reducible refine (impl_IsDiagram.calls k a0_0 _ _ l0_1 a0_2 true _ ?side1 ?side2 A2.out).mono ?_);(case side1=>exact zj_);(case side2=>exact HC0_1.out);rintro e w9 ⟨rfl,hb⟩;refine ⟨_,rfl,?_⟩;have n_:=z (blk_below (zb BK243.out) hb)<|z (blk_below (zb BK244.out) hb)<|z1 (below_step zgj_ hb);clear BK243 BK244 HB;obtain ⟨BK243,BK244,HB⟩:=n_;clear hb;obtain ⟨hcz10_0,hcz10_1,hcz10_2,hfz10_0,hfz10_1,hfz10_2⟩:=zk3 BK243.out)|((with_reducible refine gate_callee (f:=56) rfl ?_);refine goesL_ (some 9) rfl rfl Try.func56 (by kernel_rfl) rfl #[.agg #[.int .i64 a0_0,.slice A0_1 l0_1.length c0_1,.int .i64 a0_2]] rfl zf_ ?_;(with_reducible refine (impl_tableOfDiagram.calls k a0_0 _ _ l0_1 a0_2 t246 t247 _ ?side1 ?side2 A4.out).mono ?_);(case side1=>exact zj_);(case side2=>exact HC0_1.out);rintro e w11 ⟨v248,rfl,ho0,hb⟩;refine ⟨_,rfl,?_⟩;have n_:=z (Kd.R_lower ho0 (below_size zgj_))<|z (blk_below (zb BK243.out) hb)<|z (blk_below (zb BK244.out) hb)<|z1 (below_step zgj_ hb);clear BK243 BK244 HB;obtain ⟨HO249,BK243,BK244,HB⟩:=n_;clear hb;(try clear ho0);obtain ⟨hcz12_0,hcz12_1,hfz12_0,hfz12_1⟩:=zk2 BK244.out;obtain ⟨Ao13,co13,eo13⟩:=Kd.R_slice HO249.out;subst eo13))
  refine bodyPost_ret (results_ct rfl _ _ gb244 41 #[.int .i64 t246,.slice Ao13 t247.length co13] (0,0) _ rfl (by refine zb ?_;refine blk_put (cs:=#[.int .i64 t246,.slice none 0 0]) ?_ 1 _ rfl;refine zb ?_;refine blk_put (cs:=#[.int .i64 0,.slice none 0 0]) ?_ 0 _ rfl;refine zb ?_;exact BK244.out) Try.underlying41 rfl (by kernel_rfl)) rfl ?_
  exact ⟨_,zg_,by refine zr ?_;exact Kd.R_mono (Kd.R_far (p:=⟨gb244,1,none⟩) (Kd.R_far (p:=⟨gb244,0,none⟩) (Kd.R_types HO249.out BK244.out (by decide)) (fun _ hk=>hk.2) (.int .i64 t246)) (fun _ hk=>hk.2) (.slice Ao13 t247.length co13)) (fun _ hk=>trivial),zgj_⟩
 ·replace c3:=Bool.eq_false_iff.mpr c3
  subst c3;have H1:(some (0,([]:List Int),false))=some (r1,r2,r3):=by rw [if_neg (show ¬ (false=true) by decide)] at H;exact H
  clear H;have H:=H1;clear H1
  simp only [Option.some.injEq,Prod.mk.injEq] at H
  obtain ⟨rfl,rfl,rfl⟩:=H
  go_enter Try.func16,Try.ntmps16
  go_wp2_with (first | ((with_reducible refine gate_dst (N:=1) rfl ?_);refine box_event ?hg (N:=1) ?hd (cs:=#[.int .i64 a0_0,.slice A0_1 l0_1.length c0_1,.int .i64 a0_2]) (t:=28) ?hr ?_;(case hd=>rfl);(case hg=>rfl);(case hr=>exact za_);intro gb243 hg w14 hbox hb;have n_:=z (below_step zb_ hb)<|z (hbox)<|z ((by rw [hg];exact (below_size zb_):w.heap.size≤gb243))<|z1 ((by rw [hg];exact (below_size zb_):w.heap.size≤gb243));clear HB;obtain ⟨HB,BK243,GW243,GE243⟩:=n_;clear hb hbox hg)|((with_reducible refine gate_dst (N:=2) rfl ?_);refine box_event ?hg (N:=2) ?hd (cs:=#[.int .i64 0,.slice none 0 0]) (t:=41) ?hr ?_;(case hd=>rfl);(case hg=>rfl);(case hr=>exact za_);intro gb244 hg w15 hbox hb;have n_:=z (blk_below (zb BK243.out) hb)<|z (below_step zgi_ hb)<|z (hbox)<|z ((by rw [hg];exact (below_size zgi_):w.heap.size≤gb244))<|z ((by rw [hg];exact (below_size zgi_):w.heap.size≤gb244))<|z ((by rw [hg];exact Nat.ne_of_lt (blk_lt (zb BK243.out)):gb243≠gb244))<|z1 ((by rw [hg];exact Nat.ne_of_gt (blk_lt (zb BK243.out)):gb244≠gb243));clear BK243 HB;obtain ⟨BK243,HB,BK244,GW244,GE244,NB243_244,NB244_243⟩:=n_;clear hb hbox hg;have hnb16:=NB243_244.out;have hnc16:=NB244_243.out;obtain ⟨hcz17_0,hcz17_1,hcz17_2,hfz17_0,hfz17_1,hfz17_2⟩:=zk3 BK243.out)|((with_reducible refine gate_callee (f:=22) rfl ?_);refine goesL_ (some 5) rfl rfl Try.func22 (by kernel_rfl) rfl #[.agg #[.int .i64 a0_0,.slice A0_1 l0_1.length c0_1,.int .i64 a0_2]] rfl zf_ ?_;(with_reducible refine (impl_IsDiagram.calls k a0_0 _ _ l0_1 a0_2 false _ ?side1 ?side2 A2.out).mono ?_);(case side1=>exact zj_);(case side2=>exact HC0_1.out);rintro e w18 ⟨rfl,hb⟩;refine ⟨_,rfl,?_⟩;have n_:=z (blk_below (zb BK243.out) hb)<|z (blk_below (zb BK244.out) hb)<|z1 (below_step zgj_ hb);clear BK243 BK244 HB;obtain ⟨BK243,BK244,HB⟩:=n_;clear hb;obtain ⟨hcz19_0,hcz19_1,hfz19_0,hfz19_1⟩:=zk2 BK244.out))
  refine bodyPost_ret (results_ct rfl _ _ gb244 41 #[.int .i64 0,.slice none 0 0] (0,0) _ rfl (by refine zb ?_;refine blk_put (cs:=#[.int .i64 0,.slice none 0 0]) ?_ 1 _ rfl;refine zb ?_;refine blk_put (cs:=#[.int .i64 0,.slice none 0 0]) ?_ 0 _ rfl;refine zb ?_;exact BK244.out) Try.underlying41 rfl (by kernel_rfl)) rfl ?_
  exact ⟨_,zg_,zdd_,zgj_⟩
def impl_DiagramOf.f (k:Nat) (a0_0:Int) (l0_1:List Int):Option (Int×(List (S93))×Int×Bool):=(impl_IsTable.f k a0_0 l0_1).bind fun t252=>(if t252=true then ((impl_diagramOf.f k a0_0 l0_1).bind fun bt253=>(some (bt253.1,bt253.2.1,bt253.2.2,true))) else (some (0,([]:List (S93)),0,false)))
theorem impl_DiagramOf.calls (k:Nat) (a0_0:Int) (A0_1:Option Addr) (c0_1:Nat) (l0_1:List Int) (r1:Int) (r2:List (S93)) (r3:Int) (r4:Bool) (w:World) (hr0_1:Kd.C (Kd.int .i64) w A0_1 l0_1.length l0_1) (hc0_1:l0_1.length≤c0_1) (h:impl_DiagramOf.f k a0_0 l0_1=some (r1,r2,r3,r4)) :
  Calls Try.prog 18 #[.agg #[.int .i64 a0_0,.slice A0_1 l0_1.length c0_1]] w fun e w' => ∃ v1_:Value,e = .returned (.tuple #[.agg #[.int .i64 r1,v1_,.int .i64 r3],.bool r4])∧Kd.R k93 93 w' w.heap.size (fun _=>True) v1_ r2∧Below w.heap.size w w':=by
 have hu41:=Try.underlying41
 have hu28:=Try.underlying28
 have HR0_1:=aM hr0_1
 have HC0_1:=aM hc0_1
 clear hr0_1 hc0_1
 have HB:=aM (Below.refl w.heap.size w)
 have H:((impl_IsTable.f k a0_0 l0_1).bind fun t252=>(if t252=true then ((impl_diagramOf.f k a0_0 l0_1).bind fun bt253=>(some (bt253.1,bt253.2.1,bt253.2.2,true))) else (some (0,([]:List (S93)),0,false))))=some (r1,r2,r3,r4):=h
 clear h
 replace H:=oB.mp H
 obtain ⟨t252,A20,H⟩:=H
 replace H:(if t252=true then ((impl_diagramOf.f k a0_0 l0_1).bind fun bt253=>(some (bt253.1,bt253.2.1,bt253.2.2,true))) else (some (0,([]:List (S93)),0,false)))=some (r1,r2,r3,r4):=H
 have A2:=aM A20
 clear A20
 by_cases c3:t252=true
 ·subst c3
  have H1:((impl_diagramOf.f k a0_0 l0_1).bind fun bt253=>(some (bt253.1,bt253.2.1,bt253.2.2,true)))=some (r1,r2,r3,r4):=by rw [if_pos rfl] at H;exact H
  clear H;have H:=H1;clear H1;replace H:=oB.mp H;obtain ⟨⟨t253,t254,t257⟩,A40,H⟩:=H;replace H:(some (t253,t254,t257,true))=some (r1,r2,r3,r4):=H;have A4:=aM A40;clear A40
  simp only [Option.some.injEq,Prod.mk.injEq] at H
  obtain ⟨rfl,rfl,rfl,rfl⟩:=H
  go_enter Try.func18,Try.ntmps18
  go_wp2_with (first | ((with_reducible refine gate_dst (N:=1) rfl ?_);refine box_event ?hg (N:=1) ?hd (cs:=#[.int .i64 a0_0,.slice A0_1 l0_1.length c0_1]) (t:=41) ?hr ?_;(case hd=>rfl);(case hg=>rfl);(case hr=>exact za_);intro gb250 hg w5 hbox hb;have n_:=z (below_step zb_ hb)<|z (hbox)<|z ((by rw [hg];exact (below_size zb_):w.heap.size≤gb250))<|z1 ((by rw [hg];exact (below_size zb_):w.heap.size≤gb250));clear HB;obtain ⟨HB,BK250,GW250,GE250⟩:=n_;clear hb hbox hg)|((with_reducible refine gate_dst (N:=2) rfl ?_);refine box_event ?hg (N:=2) ?hd (cs:=#[.int .i64 0,.slice none 0 0,.int .i64 0]) (t:=28) ?hr ?_;(case hd=>rfl);(case hg=>rfl);(case hr=>exact za_);intro gb251 hg w6 hbox hb;have n_:=z (blk_below (zb BK250.out) hb)<|z (below_step zha_ hb)<|z (hbox)<|z ((by rw [hg];exact (below_size zha_):w.heap.size≤gb251))<|z ((by rw [hg];exact (below_size zha_):w.heap.size≤gb251))<|z ((by rw [hg];exact Nat.ne_of_lt (blk_lt (zb BK250.out)):gb250≠gb251))<|z1 ((by rw [hg];exact Nat.ne_of_gt (blk_lt (zb BK250.out)):gb251≠gb250));clear BK250 HB;obtain ⟨BK250,HB,BK251,GW251,GE251,NB250_251,NB251_250⟩:=n_;clear hb hbox hg;have hnb7:=NB250_251.out;have hnc7:=NB251_250.out;obtain ⟨hcz8_0,hcz8_1,hfz8_0,hfz8_1⟩:=zk2 BK250.out)|((with_reducible refine gate_callee (f:=67) rfl ?_);refine goesL_ (some 5) rfl rfl Try.func67 (by kernel_rfl) rfl #[.agg #[.int .i64 a0_0,.slice A0_1 l0_1.length c0_1]] rfl zf_ ?_;(with_reducible refine (impl_IsTable.calls k a0_0 _ _ l0_1 true _ ?side1 ?side2 A2.out).mono ?_);(case side1=>exact zj_);(case side2=>exact HC0_1.out);rintro e w9 ⟨rfl,hb⟩;refine ⟨_,rfl,?_⟩;have n_:=z (blk_below (zb BK250.out) hb)<|z (blk_below (zb BK251.out) hb)<|z1 (below_step zhb_ hb);clear BK250 BK251 HB;obtain ⟨BK250,BK251,HB⟩:=n_;clear hb;obtain ⟨hcz10_0,hcz10_1,hfz10_0,hfz10_1⟩:=zk2 BK250.out)|((with_reducible refine gate_callee (f:=57) rfl ?_);refine goesL_ (some 9) rfl rfl Try.func57 (by kernel_rfl) rfl #[.agg #[.int .i64 a0_0,.slice A0_1 l0_1.length c0_1]] rfl zf_ ?_;(with_reducible refine (impl_diagramOf.calls k a0_0 _ _ l0_1 t253 t254 t257 _ ?side1 ?side2 A4.out).mono ?_);(case side1=>exact zj_);(case side2=>exact HC0_1.out);rintro e w11 ⟨v255,rfl,ho0,hb⟩;refine ⟨_,rfl,?_⟩;have n_:=z (Kd.R_lower ho0 (below_size zhb_))<|z (blk_below (zb BK250.out) hb)<|z (blk_below (zb BK251.out) hb)<|z1 (below_step zhb_ hb);clear BK250 BK251 HB;obtain ⟨HO256,BK250,BK251,HB⟩:=n_;clear hb;(try clear ho0);obtain ⟨hcz12_0,hcz12_1,hcz12_2,hfz12_0,hfz12_1,hfz12_2⟩:=zk3 BK251.out;obtain ⟨Ao13,co13,eo13⟩:=Kd.R_slice HO256.out;subst eo13))
  refine bodyPost_ret (results_ct rfl _ _ gb251 28 #[.int .i64 t253,.slice Ao13 t254.length co13,.int .i64 t257] (0,0) _ rfl (by refine zb ?_;refine blk_put (cs:=#[.int .i64 t253,.slice Ao13 t254.length co13,.int .i64 0]) ?_ 2 _ rfl;refine zb ?_;refine blk_put (cs:=#[.int .i64 t253,.slice none 0 0,.int .i64 0]) ?_ 1 _ rfl;refine zb ?_;refine blk_put (cs:=#[.int .i64 0,.slice none 0 0,.int .i64 0]) ?_ 0 _ rfl;refine zb ?_;exact BK251.out) Try.underlying28 rfl (by kernel_rfl)) rfl ?_
  exact ⟨_,zg_,by refine zr ?_;exact Kd.R_mono (Kd.R_far (p:=⟨gb251,2,none⟩) (Kd.R_far (p:=⟨gb251,1,none⟩) (Kd.R_far (p:=⟨gb251,0,none⟩) (Kd.R_types HO256.out BK251.out (by decide)) (fun _ hk=>hk.2) (.int .i64 t253)) (fun _ hk=>hk.2) (.slice Ao13 t254.length co13)) (fun _ hk=>hk.2) (.int .i64 t257)) (fun _ hk=>trivial),zhb_⟩
 ·replace c3:=Bool.eq_false_iff.mpr c3
  subst c3;have H1:(some (0,([]:List (S93)),0,false))=some (r1,r2,r3,r4):=by rw [if_neg (show ¬ (false=true) by decide)] at H;exact H
  clear H;have H:=H1;clear H1
  simp only [Option.some.injEq,Prod.mk.injEq] at H
  obtain ⟨rfl,rfl,rfl,rfl⟩:=H
  go_enter Try.func18,Try.ntmps18
  go_wp2_with (first | ((with_reducible refine gate_dst (N:=1) rfl ?_);refine box_event ?hg (N:=1) ?hd (cs:=#[.int .i64 a0_0,.slice A0_1 l0_1.length c0_1]) (t:=41) ?hr ?_;(case hd=>rfl);(case hg=>rfl);(case hr=>exact za_);intro gb250 hg w14 hbox hb;have n_:=z (below_step zb_ hb)<|z (hbox)<|z ((by rw [hg];exact (below_size zb_):w.heap.size≤gb250))<|z1 ((by rw [hg];exact (below_size zb_):w.heap.size≤gb250));clear HB;obtain ⟨HB,BK250,GW250,GE250⟩:=n_;clear hb hbox hg)|((with_reducible refine gate_dst (N:=2) rfl ?_);refine box_event ?hg (N:=2) ?hd (cs:=#[.int .i64 0,.slice none 0 0,.int .i64 0]) (t:=28) ?hr ?_;(case hd=>rfl);(case hg=>rfl);(case hr=>exact za_);intro gb251 hg w15 hbox hb;have n_:=z (blk_below (zb BK250.out) hb)<|z (below_step zha_ hb)<|z (hbox)<|z ((by rw [hg];exact (below_size zha_):w.heap.size≤gb251))<|z ((by rw [hg];exact (below_size zha_):w.heap.size≤gb251))<|z ((by rw [hg];exact Nat.ne_of_lt (blk_lt (zb BK250.out)):gb250≠gb251))<|z1 ((by rw [hg];exact Nat.ne_of_gt (blk_lt (zb BK250.out)):gb251≠gb250));clear BK250 HB;obtain ⟨BK250,HB,BK251,GW251,GE251,NB250_251,NB251_250⟩:=n_;clear hb hbox hg;have hnb16:=NB250_251.out;have hnc16:=NB251_250.out;obtain ⟨hcz17_0,hcz17_1,hfz17_0,hfz17_1⟩:=zk2 BK250.out)|((with_reducible refine gate_callee (f:=67) rfl ?_);refine goesL_ (some 5) rfl rfl Try.func67 (by kernel_rfl) rfl #[.agg #[.int .i64 a0_0,.slice A0_1 l0_1.length c0_1]] rfl zf_ ?_;(with_reducible refine (impl_IsTable.calls k a0_0 _ _ l0_1 false _ ?side1 ?side2 A2.out).mono ?_);(case side1=>exact zj_);(case side2=>exact HC0_1.out);rintro e w18 ⟨rfl,hb⟩;refine ⟨_,rfl,?_⟩;have n_:=z (blk_below (zb BK250.out) hb)<|z (blk_below (zb BK251.out) hb)<|z1 (below_step zhb_ hb);clear BK250 BK251 HB;obtain ⟨BK250,BK251,HB⟩:=n_;clear hb;obtain ⟨hcz19_0,hcz19_1,hcz19_2,hfz19_0,hfz19_1,hfz19_2⟩:=zk3 BK251.out))
  refine bodyPost_ret (results_ct rfl _ _ gb251 28 #[.int .i64 0,.slice none 0 0,.int .i64 0] (0,0) _ rfl (by refine zb ?_;refine blk_put (cs:=#[.int .i64 0,.slice none 0 0,.int .i64 0]) ?_ 2 _ rfl;refine zb ?_;refine blk_put (cs:=#[.int .i64 0,.slice none 0 0,.int .i64 0]) ?_ 1 _ rfl;refine zb ?_;refine blk_put (cs:=#[.int .i64 0,.slice none 0 0,.int .i64 0]) ?_ 0 _ rfl;refine zb ?_;exact BK251.out) Try.underlying28 rfl (by kernel_rfl)) rfl ?_
  exact ⟨_,zg_,zdd_,zhb_⟩
theorem ow19_in {w0 w:World} {g:Nat} {vS:Value} {code:List Int} {at_ mix:Int} {L:List Sep.Item} (h:Sep.Own w0 w L) (i:Nat) (hi:L[i]?=some (Sep.Item.box g 86 #[vS,.int .i64 at_,.int .u64 mix])) (hS:∃ A c,vS = .slice A code.length c∧Kd.C (Kd.int .u8) w0 A code.length code):IsS86 w0 w g code at_ mix:=by
 obtain ⟨A,c,rfl,hC⟩:=hS
 obtain ⟨P,h1⟩:=h.get i hi
 exact ⟨A,c,h1.2.2,h1.2.1,hC⟩
theorem ow19_out {w0 w w1:World} {g:Nat} {cs:Array Value} {code:List Int} {at_ mix:Int} {L:List Sep.Item} (h:Sep.Own w0 w L) (i:Nat) (hi:L[i]?=some (Sep.Item.box g 86 cs)) (hI:IsS86 w0 w1 g code at_ mix) (hB:Below w0.heap.size w0 w1) (hK:KeepBut w w1 g none) :
  ∃ vS:Value,(∃ A c,vS = .slice A code.length c∧Kd.C (Kd.int .u8) w0 A code.length code)∧Sep.Own w0 w1 (L.set i (Sep.Item.box g 86 #[vS,.int .i64 at_,.int .u64 mix])):=by
 obtain ⟨A,c,hb,hg,hC⟩:=hI
 exact ⟨_,⟨A,c,rfl,hC⟩,h.put i hi ⟨hB.os.trans h.base.os.symm,hB.tape.trans h.base.tape.symm,hB.output.trans h.base.output.symm,hK.1,fun k hk hn=>hK.2 k hk hn (by simp)⟩ hb⟩
theorem ow19_outI {it:Sep.Item} {w0 w w1:World} {g:Nat} {cs:Array Value} {code:List Int} {at_ mix:Int} {L:List Sep.Item} (h:Sep.Own w0 w L) (i:Nat) (hi:L[i]?=some (Sep.Item.box g 86 cs)) (hI:IsS86 w0 w1 g code at_ mix) (hB:Below w0.heap.size w0 w1) (hK:KeepBut w w1 g none)
  (h1:it.H w1 w0.heap.size (fun k=>w.heap.size≤k)) :
  ∃ vS:Value,(∃ A c,vS = .slice A code.length c∧Kd.C (Kd.int .u8) w0 A code.length code)∧Sep.Own w0 w1 (it :: L.set i (Sep.Item.box g 86 #[vS,.int .i64 at_,.int .u64 mix])):=by
 obtain ⟨A,c,hb,hg,hC⟩:=hI
 refine ⟨.slice A code.length c,⟨A,c,rfl,hC⟩,hB,?_⟩
 obtain ⟨hB0,f,hf⟩:=h
 refine ⟨fun k=>if k<w.heap.size then f k+1 else 0,fun j jt hj=>?_⟩
 match j with
 | 0 =>
  obtain rfl:it=jt:=by simpa using hj
  exact it.mono (fun k hk=>by dsimp only;rw [if_neg (by omega)]) h1
 | j+1 =>
  rw [List.getElem?_cons_succ,List.getElem?_set] at hj;have hgi:=(hf i _ hi).1;have hgs:g<w.heap.size:=blk_lt (hf i _ hi).2.2
  split at hj
  ·rename_i hij
   subst hij
   split at hj
   ·injection hj with hj
    subst hj
    exact ⟨zgg_,hg,hb⟩
   ·cases hj
  ·rename_i hij
   have h0:=jt.bound (hf j jt hj)
   refine jt.mono (fun k hk=>?_) (jt.step h0 (fun k hk hs=>hK.2 k hs (fun e=>?_) (by simp)))
   ·dsimp only
    rw [if_pos hk.2.2,hk.1]
   ·subst e
    exact hij (hgi.symm.trans hk.1)
def spec_DrawFixDiagram.f (k:Nat) (l0:List Int):Option (Int×(List (S93))×Int×Int×Int):=(spec_l1Cur_diagram.f k l0 0 0).bind fun b11=>(spec_l1Most.f 1 b11.1).bind fun b16=>(spec_l1Cur_pick.f l0 b11.2.2.2.1 b11.2.2.2.2 16).bind fun b18=>(spec_l1Cur_pick.f l0 b18.2.1 b18.2.2 (wrap64 (b16+(wrap64 (Int.tdiv b18.1 15))))).bind fun b21=>(spec_l1Cur_pick.f l0 b21.2.1 b21.2.2 24).bind fun b23=>(spec_l1Cur_among.f l0 b23.2.1 b23.2.2 ([-1,2])).bind fun b29=>(spec_l1Cur_among.f l0 b29.2.1 b29.2.2 ([0,1,0,1,b29.1])).bind fun b31=>some (b11.1,b11.2.1,b11.2.2.1,wrap64 (b21.1 - (wrap64 (Int.tdiv b23.1 23))),b31.1)
open Go.Proofs.Ytlnhpkjioppbiaa.Sep in
set_option maxHeartbeats 32000000 in
set_option maxRecDepth 100000 in
theorem spec_DrawFixDiagram.calls (k:Nat) (A0:Option Addr) (c0:Nat) (l0:List Int) (r1:Int) (r2:List (S93)) (r3:Int) (r4:Int) (r5:Int) (w:World) (hr0:Kd.C (Kd.int .u8) w A0 l0.length l0) (hc0:l0.length≤c0) (h:spec_DrawFixDiagram.f k l0=some (r1,r2,r3,r4,r5)) :
  Calls Try.prog 19 #[.slice A0 l0.length c0] w fun e w' => ∃ v1_:Value,e = .returned (.tuple #[.agg #[.int .i64 r1,v1_,.int .i64 r3],.int .i64 r4,.int .i64 r5])∧Kd.R k93 93 w' w.heap.size (fun _=>True) v1_ r2∧Below w.heap.size w w':=by
 have HR0:=aM hr0
 have HC0:=aM hc0
 have HS_0:=aM (show ∃ A c,Value.slice A0 l0.length c0 = .slice A l0.length c∧Kd.C (Kd.int .u8) w A l0.length l0 from ⟨A0,c0,rfl,hr0⟩)
 clear hr0 hc0
 unfold spec_DrawFixDiagram.f at h
 have H:=h
 clear h
 obtain ⟨⟨t11_0,t11_1,t11_2,t11_3,t11_4⟩,A_,H_⟩:=oB.mp H
 clear H
 have H:=H_
 clear H_
 (try dsimp only at H)
 have A11:=aM A_
 clear A_
 obtain ⟨t16,A_,H_⟩:=oB.mp H
 clear H
 have H:=H_
 clear H_
 (try dsimp only at H)
 have A16:=aM A_
 clear A_
 obtain ⟨⟨t18_0,t18_1,t18_2⟩,A_,H_⟩:=oB.mp H
 clear H
 have H:=H_
 clear H_
 (try dsimp only at H)
 have A18:=aM A_
 clear A_
 obtain ⟨⟨t21_0,t21_1,t21_2⟩,A_,H_⟩:=oB.mp H
 clear H
 have H:=H_
 clear H_
 (try dsimp only at H)
 have A21:=aM A_
 clear A_
 obtain ⟨⟨t23_0,t23_1,t23_2⟩,A_,H_⟩:=oB.mp H
 clear H
 have H:=H_
 clear H_
 (try dsimp only at H)
 have A23:=aM A_
 clear A_
 obtain ⟨⟨t29_0,t29_1,t29_2⟩,A_,H_⟩:=oB.mp H
 clear H
 have H:=H_
 clear H_
 (try dsimp only at H)
 have A29:=aM A_
 clear A_
 obtain ⟨⟨t31_0,t31_1,t31_2⟩,A_,H_⟩:=oB.mp H
 clear H
 have H:=H_
 clear H_
 (try dsimp only at H)
 have A31:=aM A_
 clear A_
 injection H with H
 injection H with e_0 H
 injection H with e_1 H
 injection H with e_2 H
 injection H with e_3 H
 subst e_0
 subst e_1
 subst e_2
 subst e_3
 subst H
 go_enter Try.func19,Try.ntmps19
 go_wp2_with (first | ((with_reducible refine gate_dst (N:=2) rfl ?_);refine box_event ?hg (N:=2) ?hd (cs:=#[.int .i64 0,.slice none 0 0,.int .i64 0]) (t:=28) ?hr ?_;(case hd=>rfl);(case hg=>rfl);(case hr=>exact za_);intro g2 hg w_1 hbox hb;have HO_1:=aM ((Sep.Own.nil w).add_box (T:=28) (cs:=#[.int .i64 0,.slice none 0 0,.int .i64 0]) hg hbox hb);clear hg hbox hb)|((with_reducible refine gate_dst (N:=9) rfl ?_);refine box_event ?hg (N:=9) ?hd (cs:=#[.slice A0 l0.length c0,.int .i64 0,.int .u64 0]) (t:=86) ?hr ?_;(case hd=>rfl);(case hg=>rfl);(case hr=>exact za_);intro g hg w_2 hbox hb;have HO_2:=aM (HO_1.out.add_box (T:=86) (cs:=#[.slice A0 l0.length c0,.int .i64 0,.int .u64 0]) hg hbox hb);clear hg hbox hb)|((with_reducible refine gate_callee (f:=61) rfl ?_);refine goesL_ (some 11) rfl rfl Try.func61 (by kernel_rfl) rfl #[.pointer (some ⟨g,0,none⟩)] rfl ze_ ?_;(refine (spec_l1Cur_diagram.calls k g l0 0 0 t11_0 t11_1 t11_2 t11_3 t11_4 w _ (ow19_in HO_2.out 0 rfl HS_0.out) HO_2.out.base A11.out).mono ?_);rintro e w_3 ⟨x_11,rfl,ho1,hI,hB,hK⟩;refine ⟨_,rfl,?_⟩;obtain ⟨vS_11,hS,ho⟩:=ow19_outI HO_2.out 0 rfl hI hB hK (ow_R HO_2.out.size ho1);clear ho1;have HS_11:=aM hS;clear hS hI hB hK;obtain ⟨A_11,c_11,e_11⟩:=ho.row_slice 0 rfl;subst e_11;have HO_3:=aM ho;clear ho)|((with_reducible refine gate_dst (N:=6) rfl ?_);refine box_event ?hg (N:=6) ?hd (cs:=#[.int .i64 0,.slice none 0 0,.int .i64 0]) (t:=28) ?hr ?_;(case hd=>rfl);(case hg=>rfl);(case hr=>exact za_);intro g6 hg w_4 hbox hb;have HO_4:=aM (HO_3.out.add_box (T:=28) (cs:=#[.int .i64 0,.slice none 0 0,.int .i64 0]) hg hbox hb);clear hg hbox hb)|((with_reducible refine gate_store (t:=28) (p:=6) (v := .tmp 11) rfl ?_);refine Sep.own_store HO_4.out 0 g6 28 _ #[.int .i64 t11_0,.slice A_11 t11_1.length c_11,.int .i64 t11_2] rfl rfl rfl 28 (.tmp 6) (.tmp 11) rfl rfl _ rfl rfl rfl (by kernel_rfl) (by simp [Value.oneCell']) ?_;intro w_5 ho;have HO_5:=aM ho;clear ho))
 have HD_3_0:=aM (HO_5.out.drew)
 refine start_ (n:=23) (S:=fun w'=>w'.cell? ⟨g6,0,none⟩=some (.int .i64 t11_0)∧w'.cell? ⟨g6,1,none⟩=some (.slice A_11 t11_1.length c_11)∧w'.cell? ⟨g6,2,none⟩=some (.int .i64 t11_2)) (ds:=[]) #[fi,fi,fi,fi,fi,fi,fi,fi,fi,fi,fi,fi,fi,fi,fi,fi,fi,fi,fi,fi,fi,fi,fi] (by kernel_rfl) rfl rfl ⟨(HD_3_0.out.cell 0 rfl 0 rfl),(HD_3_0.out.cell 0 rfl 1 rfl),(HD_3_0.out.cell 0 rfl 2 rfl)⟩ (fun hHeld=>?_)
 generalize w_5.drew=wd_3_1 at HD_3_0 hHeld ⊢
 refine oz_ 1 13 ?_
 refine oz_ 2 14 ?_
 refine oz_ 5 17 ?_
 refine oz_ 10 22 ?_
 refine oz_ 14 26 ?_
 refine oz_ 15 27 ?_
 refine tz3_ 0 12 hHeld ?_
 refine tz3_ 3 15 hHeld ?_
 refine join_ (σ:=Value×Value) 6 #[ti,ti,ti,ti,ti,ti,ti,ti,ti,ti,ti,ti,ti,ti,ti,ti,ti,fi,fi,fi,fi,fi,fi] (fun s => [(16,.int .i64 t16),(18,.int .i64 t18_0),(21,.int .i64 t21_0),(23,.int .i64 t23_0),(28,s.1),(19,.int .i64 (wrap64 (Int.tdiv t18_0 15))),(20,.int .i64 (wrap64 (t16+(wrap64 (Int.tdiv t18_0 15))))),(24,.int .i64 (wrap64 (Int.tdiv t23_0 23))),(25,.int .i64 (wrap64 (t21_0 - (wrap64 (Int.tdiv t23_0 23)))))]) (fun s w'=>(w'.cell? ⟨g6,0,none⟩=some (.int .i64 t11_0)∧w'.cell? ⟨g6,1,none⟩=some (.slice A_11 t11_1.length c_11)∧w'.cell? ⟨g6,2,none⟩=some (.int .i64 t11_2))∧(∃ A c,s.2 = .slice A l0.length c∧Kd.C (Kd.int .u8) w A l0.length l0)∧Own w w' [Item.row (Kd.int .i64) 3 (s.1) ([-1,2]),Item.box g6 28 #[.int .i64 t11_0,.slice A_11 t11_1.length c_11,.int .i64 t11_2],Item.row k93 93 (.slice A_11 t11_1.length c_11) t11_1,Item.box g 86 #[s.2,.int .i64 t23_1,.int .u64 t23_2],Item.box g2 28 #[.int .i64 0,.slice none 0 0,.int .i64 0]]) ?_ ?_
 rotate_left
 ·intro hCont
  refine two_ (i:=4) (j:=16) (Ni:=some 16) (Nj:=some 28) #[ti,ti,ti,ti,ti,ti,fi,fi,fi,fi,ti,fi,fi,fi,ti,ti,fi,fi,fi,fi,fi,fi,fi] #[ti,ti,ti,ti,fi,ti,fi,fi,fi,fi,ti,fi,fi,fi,ti,ti,ti,fi,fi,fi,fi,fi,fi] rfl rfl rfl rfl (by kernel_rfl) (by decide) (by decide) (fun K hK=>?_) (fun K hK=>?_)
  ·skip
   refine goes_ Try.func63 (by kernel_rfl) rfl #[.int .i64 1,.int .i64 t11_0] (by rfl) rfl rfl zh_ ?_
   (with_reducible refine (spec_l1Most.calls 1 t11_0 t16 _ A16.out).mono ?_)
   rintro e w_6 ⟨rfl,hb⟩
   refine ⟨_,rfl,?_⟩
   have ho:=ow_drawn HD_3_0.out hb.out;clear hb;have HO_6:=aM ho;clear ho
   refine hK.out _ _ ⟨(HO_6.out.cell 0 rfl 0 rfl),(HO_6.out.cell 0 rfl 1 rfl),(HO_6.out.cell 0 rfl 2 rfl)⟩ (fun hHeld=>?_)
   clear hK K
   refine nz_ 16 ?_
   refine two_ (i:=6) (j:=16) (Ni:=some 18) (Nj:=some 28) #[ti,ti,ti,ti,ti,ti,ti,fi,fi,fi,ti,fi,fi,fi,ti,ti,fi,fi,fi,fi,fi,fi,fi] #[ti,ti,ti,ti,ti,ti,fi,fi,fi,fi,ti,fi,fi,fi,ti,ti,ti,fi,fi,fi,fi,fi,fi] rfl rfl rfl rfl (by kernel_rfl) (by decide) (by decide) (fun K hK=>?_) (fun K hK=>?_)
   ·skip
    refine goes_ Try.func68 (by kernel_rfl) rfl #[.pointer (some ⟨g,0,none⟩),.int .i64 16] (by rfl) rfl rfl zh_ ?_
    (refine (spec_l1Cur_pick.calls g l0 t11_3 t11_4 16 t18_0 t18_1 t18_2 w _ (ow19_in HO_6.out 2 rfl HS_11.out) HO_6.out.base A18.out).mono ?_)
    rintro e w_7 ⟨rfl,hI,hB,hK⟩
    refine ⟨_,rfl,?_⟩
    obtain ⟨vS_18,hS,ho⟩:=ow19_out HO_6.out 2 rfl hI hB hK;have HS_18:=aM hS;clear hS hI hB hK;have HO_7:=aM ho;clear ho
    refine hK.out _ _ ⟨(HO_7.out.cell 0 rfl 0 rfl),(HO_7.out.cell 0 rfl 1 rfl),(HO_7.out.cell 0 rfl 2 rfl)⟩ (fun hHeld=>?_)
    clear hK K
    refine nz_ 18 ?_
    refine oz_ 7 19 ?_
    refine oz_ 8 20 ?_
    refine two_ (i:=9) (j:=16) (Ni:=some 21) (Nj:=some 28) #[ti,ti,ti,ti,ti,ti,ti,ti,ti,ti,ti,fi,fi,fi,ti,ti,fi,fi,fi,fi,fi,fi,fi] #[ti,ti,ti,ti,ti,ti,ti,ti,ti,fi,ti,fi,fi,fi,ti,ti,ti,fi,fi,fi,fi,fi,fi] rfl rfl rfl rfl (by kernel_rfl) (by decide) (by decide) (fun K hK=>?_) (fun K hK=>?_)
    ·skip
     refine goes_ Try.func68 (by kernel_rfl) rfl #[.pointer (some ⟨g,0,none⟩),.int .i64 (wrap64 (t16+(wrap64 (Int.tdiv t18_0 15))))] (by rfl) rfl rfl zh_ ?_
     (refine (spec_l1Cur_pick.calls g l0 t18_1 t18_2 (wrap64 (t16+(wrap64 (Int.tdiv t18_0 15)))) t21_0 t21_1 t21_2 w _ (ow19_in HO_7.out 2 rfl HS_18.out) HO_7.out.base A21.out).mono ?_)
     rintro e w_8 ⟨rfl,hI,hB,hK⟩
     refine ⟨_,rfl,?_⟩
     obtain ⟨vS_21,hS,ho⟩:=ow19_out HO_7.out 2 rfl hI hB hK;have HS_21:=aM hS;clear hS hI hB hK;have HO_8:=aM ho;clear ho
     refine hK.out _ _ ⟨(HO_8.out.cell 0 rfl 0 rfl),(HO_8.out.cell 0 rfl 1 rfl),(HO_8.out.cell 0 rfl 2 rfl)⟩ (fun hHeld=>?_)
     clear hK K
     refine nz_ 21 ?_
     refine two_ (i:=11) (j:=16) (Ni:=some 23) (Nj:=some 28) #[ti,ti,ti,ti,ti,ti,ti,ti,ti,ti,ti,ti,fi,fi,ti,ti,fi,fi,fi,fi,fi,fi,fi] #[ti,ti,ti,ti,ti,ti,ti,ti,ti,ti,ti,fi,fi,fi,ti,ti,ti,fi,fi,fi,fi,fi,fi] rfl rfl rfl rfl (by kernel_rfl) (by decide) (by decide) (fun K hK=>?_) (fun K hK=>?_)
     ·skip
      refine goes_ Try.func68 (by kernel_rfl) rfl #[.pointer (some ⟨g,0,none⟩),.int .i64 24] (by rfl) rfl rfl zh_ ?_
      (refine (spec_l1Cur_pick.calls g l0 t21_1 t21_2 24 t23_0 t23_1 t23_2 w _ (ow19_in HO_8.out 2 rfl HS_21.out) HO_8.out.base A23.out).mono ?_)
      rintro e w_9 ⟨rfl,hI,hB,hK⟩
      refine ⟨_,rfl,?_⟩
      obtain ⟨vS_23,hS,ho⟩:=ow19_out HO_8.out 2 rfl hI hB hK;have HS_23:=aM hS;clear hS hI hB hK;have HO_9:=aM ho;clear ho
      refine hK.out _ _ ⟨(HO_9.out.cell 0 rfl 0 rfl),(HO_9.out.cell 0 rfl 1 rfl),(HO_9.out.cell 0 rfl 2 rfl)⟩ (fun hHeld=>?_)
      clear hK K
      refine nz_ 23 ?_
      refine oz_ 12 24 ?_
      refine oz_ 13 25 ?_
      refine oo_ 16 28 (fun K hK=>?_)
      refine Sep.own_litN_step (Value.int .i64) (h1:=fun _=>rfl) HO_9.out 3 [-1,2] 2 rfl [.int .i64 (-1),.int .i64 2] rfl (by decide) (by rfl) (N:=28) rfl za_ ?_
      intro x_28 w_10 ho _
      obtain ⟨g_28,n_28,c_28,hn_,rfl⟩:=Sep.own_row_fseal ho 0 rfl (by simp);obtain rfl:n_28=2:=hn_;have HO_10:=aM ho;clear ho
      refine hK.out _ _ ⟨(HO_10.out.cell 1 rfl 0 rfl),(HO_10.out.cell 1 rfl 1 rfl),(HO_10.out.cell 1 rfl 2 rfl)⟩ (fun hHeld=>?_)
      clear hK K
      refine nz_ 28 ?_
      exact norm_ (by simp only [putAll,Act.put,sI,s0,sS]) (hCont ((.slice ((some ⟨g_28,0,none⟩)) 2 c_28:Value),vS_23) _ ⟨⟨(HO_10.out.cell 1 rfl 0 rfl),(HO_10.out.cell 1 rfl 1 rfl),(HO_10.out.cell 1 rfl 2 rfl)⟩,⟨HS_23.out,(((((HO_10.out.front 4 rfl).front 4 rfl).front 4 rfl).front 4 rfl).front 4 rfl)⟩⟩)
     ·skip
      refine Sep.own_litN_step (Value.int .i64) (h1:=fun _=>rfl) HO_8.out 3 [-1,2] 2 rfl [.int .i64 (-1),.int .i64 2] rfl (by decide) (by rfl) (N:=28) rfl za_ ?_
      intro x_28 w_9 ho _
      obtain ⟨g_28,n_28,c_28,hn_,rfl⟩:=Sep.own_row_fseal ho 0 rfl (by simp);obtain rfl:n_28=2:=hn_;have HO_9:=aM ho;clear ho
      refine hK.out _ _ ⟨(HO_9.out.cell 1 rfl 0 rfl),(HO_9.out.cell 1 rfl 1 rfl),(HO_9.out.cell 1 rfl 2 rfl)⟩ (fun hHeld=>?_)
      clear hK K
      refine nz_ 28 ?_
      refine oo_ 11 23 (fun K hK=>?_)
      refine goes_ Try.func68 (by kernel_rfl) rfl #[.pointer (some ⟨g,0,none⟩),.int .i64 24] (by rfl) rfl rfl zh_ ?_
      (refine (spec_l1Cur_pick.calls g l0 t21_1 t21_2 24 t23_0 t23_1 t23_2 w _ (ow19_in HO_9.out 3 rfl HS_21.out) HO_9.out.base A23.out).mono ?_)
      rintro e w_10 ⟨rfl,hI,hB,hK⟩
      refine ⟨_,rfl,?_⟩
      obtain ⟨vS_23,hS,ho⟩:=ow19_out HO_9.out 3 rfl hI hB hK;have HS_23:=aM hS;clear hS hI hB hK;have HO_10:=aM ho;clear ho
      refine hK.out _ _ ⟨(HO_10.out.cell 1 rfl 0 rfl),(HO_10.out.cell 1 rfl 1 rfl),(HO_10.out.cell 1 rfl 2 rfl)⟩ (fun hHeld=>?_)
      clear hK K
      refine nz_ 23 ?_
      refine oz_ 12 24 ?_
      refine oz_ 13 25 ?_
      exact norm_ (by simp only [putAll,Act.put,sI,s0,sS]) (hCont ((.slice ((some ⟨g_28,0,none⟩)) 2 c_28:Value),vS_23) _ ⟨⟨(HO_10.out.cell 1 rfl 0 rfl),(HO_10.out.cell 1 rfl 1 rfl),(HO_10.out.cell 1 rfl 2 rfl)⟩,⟨HS_23.out,(((((HO_10.out.front 4 rfl).front 4 rfl).front 4 rfl).front 4 rfl).front 4 rfl)⟩⟩)
    ·skip
     refine Sep.own_litN_step (Value.int .i64) (h1:=fun _=>rfl) HO_7.out 3 [-1,2] 2 rfl [.int .i64 (-1),.int .i64 2] rfl (by decide) (by rfl) (N:=28) rfl za_ ?_
     intro x_28 w_8 ho _
     obtain ⟨g_28,n_28,c_28,hn_,rfl⟩:=Sep.own_row_fseal ho 0 rfl (by simp);obtain rfl:n_28=2:=hn_;have HO_8:=aM ho;clear ho
     refine hK.out _ _ ⟨(HO_8.out.cell 1 rfl 0 rfl),(HO_8.out.cell 1 rfl 1 rfl),(HO_8.out.cell 1 rfl 2 rfl)⟩ (fun hHeld=>?_)
     clear hK K
     refine nz_ 28 ?_
     refine oo_ 9 21 (fun K hK=>?_)
     refine goes_ Try.func68 (by kernel_rfl) rfl #[.pointer (some ⟨g,0,none⟩),.int .i64 (wrap64 (t16+(wrap64 (Int.tdiv t18_0 15))))] (by rfl) rfl rfl zh_ ?_
     (refine (spec_l1Cur_pick.calls g l0 t18_1 t18_2 (wrap64 (t16+(wrap64 (Int.tdiv t18_0 15)))) t21_0 t21_1 t21_2 w _ (ow19_in HO_8.out 3 rfl HS_18.out) HO_8.out.base A21.out).mono ?_)
     rintro e w_9 ⟨rfl,hI,hB,hK⟩
     refine ⟨_,rfl,?_⟩
     obtain ⟨vS_21,hS,ho⟩:=ow19_out HO_8.out 3 rfl hI hB hK;have HS_21:=aM hS;clear hS hI hB hK;have HO_9:=aM ho;clear ho
     refine hK.out _ _ ⟨(HO_9.out.cell 1 rfl 0 rfl),(HO_9.out.cell 1 rfl 1 rfl),(HO_9.out.cell 1 rfl 2 rfl)⟩ (fun hHeld=>?_)
     clear hK K
     refine nz_ 21 ?_
     refine oo_ 11 23 (fun K hK=>?_)
     refine goes_ Try.func68 (by kernel_rfl) rfl #[.pointer (some ⟨g,0,none⟩),.int .i64 24] (by rfl) rfl rfl zh_ ?_
     (refine (spec_l1Cur_pick.calls g l0 t21_1 t21_2 24 t23_0 t23_1 t23_2 w _ (ow19_in HO_9.out 3 rfl HS_21.out) HO_9.out.base A23.out).mono ?_)
     rintro e w_10 ⟨rfl,hI,hB,hK⟩
     refine ⟨_,rfl,?_⟩
     obtain ⟨vS_23,hS,ho⟩:=ow19_out HO_9.out 3 rfl hI hB hK;have HS_23:=aM hS;clear hS hI hB hK;have HO_10:=aM ho;clear ho
     refine hK.out _ _ ⟨(HO_10.out.cell 1 rfl 0 rfl),(HO_10.out.cell 1 rfl 1 rfl),(HO_10.out.cell 1 rfl 2 rfl)⟩ (fun hHeld=>?_)
     clear hK K
     refine nz_ 23 ?_
     refine oz_ 12 24 ?_
     refine oz_ 13 25 ?_
     exact norm_ (by simp only [putAll,Act.put,sI,s0,sS]) (hCont ((.slice ((some ⟨g_28,0,none⟩)) 2 c_28:Value),vS_23) _ ⟨⟨(HO_10.out.cell 1 rfl 0 rfl),(HO_10.out.cell 1 rfl 1 rfl),(HO_10.out.cell 1 rfl 2 rfl)⟩,⟨HS_23.out,(((((HO_10.out.front 4 rfl).front 4 rfl).front 4 rfl).front 4 rfl).front 4 rfl)⟩⟩)
   ·skip
    refine Sep.own_litN_step (Value.int .i64) (h1:=fun _=>rfl) HO_6.out 3 [-1,2] 2 rfl [.int .i64 (-1),.int .i64 2] rfl (by decide) (by rfl) (N:=28) rfl za_ ?_
    intro x_28 w_7 ho _
    obtain ⟨g_28,n_28,c_28,hn_,rfl⟩:=Sep.own_row_fseal ho 0 rfl (by simp);obtain rfl:n_28=2:=hn_;have HO_7:=aM ho;clear ho
    refine hK.out _ _ ⟨(HO_7.out.cell 1 rfl 0 rfl),(HO_7.out.cell 1 rfl 1 rfl),(HO_7.out.cell 1 rfl 2 rfl)⟩ (fun hHeld=>?_)
    clear hK K
    refine nz_ 28 ?_
    refine oo_ 6 18 (fun K hK=>?_)
    refine goes_ Try.func68 (by kernel_rfl) rfl #[.pointer (some ⟨g,0,none⟩),.int .i64 16] (by rfl) rfl rfl zh_ ?_
    (refine (spec_l1Cur_pick.calls g l0 t11_3 t11_4 16 t18_0 t18_1 t18_2 w _ (ow19_in HO_7.out 3 rfl HS_11.out) HO_7.out.base A18.out).mono ?_)
    rintro e w_8 ⟨rfl,hI,hB,hK⟩
    refine ⟨_,rfl,?_⟩
    obtain ⟨vS_18,hS,ho⟩:=ow19_out HO_7.out 3 rfl hI hB hK;have HS_18:=aM hS;clear hS hI hB hK;have HO_8:=aM ho;clear ho
    refine hK.out _ _ ⟨(HO_8.out.cell 1 rfl 0 rfl),(HO_8.out.cell 1 rfl 1 rfl),(HO_8.out.cell 1 rfl 2 rfl)⟩ (fun hHeld=>?_)
    clear hK K
    refine nz_ 18 ?_
    refine oz_ 7 19 ?_
    refine oz_ 8 20 ?_
    refine oo_ 9 21 (fun K hK=>?_)
    refine goes_ Try.func68 (by kernel_rfl) rfl #[.pointer (some ⟨g,0,none⟩),.int .i64 (wrap64 (t16+(wrap64 (Int.tdiv t18_0 15))))] (by rfl) rfl rfl zh_ ?_
    (refine (spec_l1Cur_pick.calls g l0 t18_1 t18_2 (wrap64 (t16+(wrap64 (Int.tdiv t18_0 15)))) t21_0 t21_1 t21_2 w _ (ow19_in HO_8.out 3 rfl HS_18.out) HO_8.out.base A21.out).mono ?_)
    rintro e w_9 ⟨rfl,hI,hB,hK⟩
    refine ⟨_,rfl,?_⟩
    obtain ⟨vS_21,hS,ho⟩:=ow19_out HO_8.out 3 rfl hI hB hK;have HS_21:=aM hS;clear hS hI hB hK;have HO_9:=aM ho;clear ho
    refine hK.out _ _ ⟨(HO_9.out.cell 1 rfl 0 rfl),(HO_9.out.cell 1 rfl 1 rfl),(HO_9.out.cell 1 rfl 2 rfl)⟩ (fun hHeld=>?_)
    clear hK K
    refine nz_ 21 ?_
    refine oo_ 11 23 (fun K hK=>?_)
    refine goes_ Try.func68 (by kernel_rfl) rfl #[.pointer (some ⟨g,0,none⟩),.int .i64 24] (by rfl) rfl rfl zh_ ?_
    (refine (spec_l1Cur_pick.calls g l0 t21_1 t21_2 24 t23_0 t23_1 t23_2 w _ (ow19_in HO_9.out 3 rfl HS_21.out) HO_9.out.base A23.out).mono ?_)
    rintro e w_10 ⟨rfl,hI,hB,hK⟩
    refine ⟨_,rfl,?_⟩
    obtain ⟨vS_23,hS,ho⟩:=ow19_out HO_9.out 3 rfl hI hB hK;have HS_23:=aM hS;clear hS hI hB hK;have HO_10:=aM ho;clear ho
    refine hK.out _ _ ⟨(HO_10.out.cell 1 rfl 0 rfl),(HO_10.out.cell 1 rfl 1 rfl),(HO_10.out.cell 1 rfl 2 rfl)⟩ (fun hHeld=>?_)
    clear hK K
    refine nz_ 23 ?_
    refine oz_ 12 24 ?_
    refine oz_ 13 25 ?_
    exact norm_ (by simp only [putAll,Act.put,sI,s0,sS]) (hCont ((.slice ((some ⟨g_28,0,none⟩)) 2 c_28:Value),vS_23) _ ⟨⟨(HO_10.out.cell 1 rfl 0 rfl),(HO_10.out.cell 1 rfl 1 rfl),(HO_10.out.cell 1 rfl 2 rfl)⟩,⟨HS_23.out,(((((HO_10.out.front 4 rfl).front 4 rfl).front 4 rfl).front 4 rfl).front 4 rfl)⟩⟩)
  ·skip
   refine Sep.own_litN_step (Value.int .i64) (h1:=fun _=>rfl) HD_3_0.out 3 [-1,2] 2 rfl [.int .i64 (-1),.int .i64 2] rfl (by decide) (by rfl) (N:=28) rfl za_ ?_
   intro x_28 w_6 ho _
   obtain ⟨g_28,n_28,c_28,hn_,rfl⟩:=Sep.own_row_fseal ho 0 rfl (by simp);obtain rfl:n_28=2:=hn_;have HO_6:=aM ho;clear ho
   refine hK.out _ _ ⟨(HO_6.out.cell 1 rfl 0 rfl),(HO_6.out.cell 1 rfl 1 rfl),(HO_6.out.cell 1 rfl 2 rfl)⟩ (fun hHeld=>?_)
   clear hK K
   refine nz_ 28 ?_
   refine oo_ 4 16 (fun K hK=>?_)
   refine goes_ Try.func63 (by kernel_rfl) rfl #[.int .i64 1,.int .i64 t11_0] (by rfl) rfl rfl zh_ ?_
   (with_reducible refine (spec_l1Most.calls 1 t11_0 t16 _ A16.out).mono ?_)
   rintro e w_7 ⟨rfl,hb⟩
   refine ⟨_,rfl,?_⟩
   have ho:=ow_drawn HO_6.out hb.out;clear hb;have HO_7:=aM ho;clear ho
   refine hK.out _ _ ⟨(HO_7.out.cell 1 rfl 0 rfl),(HO_7.out.cell 1 rfl 1 rfl),(HO_7.out.cell 1 rfl 2 rfl)⟩ (fun hHeld=>?_)
   clear hK K
   refine nz_ 16 ?_
   refine oo_ 6 18 (fun K hK=>?_)
   refine goes_ Try.func68 (by kernel_rfl) rfl #[.pointer (some ⟨g,0,none⟩),.int .i64 16] (by rfl) rfl rfl zh_ ?_
   (refine (spec_l1Cur_pick.calls g l0 t11_3 t11_4 16 t18_0 t18_1 t18_2 w _ (ow19_in HO_7.out 3 rfl HS_11.out) HO_7.out.base A18.out).mono ?_)
   rintro e w_8 ⟨rfl,hI,hB,hK⟩
   refine ⟨_,rfl,?_⟩
   obtain ⟨vS_18,hS,ho⟩:=ow19_out HO_7.out 3 rfl hI hB hK;have HS_18:=aM hS;clear hS hI hB hK;have HO_8:=aM ho;clear ho
   refine hK.out _ _ ⟨(HO_8.out.cell 1 rfl 0 rfl),(HO_8.out.cell 1 rfl 1 rfl),(HO_8.out.cell 1 rfl 2 rfl)⟩ (fun hHeld=>?_)
   clear hK K
   refine nz_ 18 ?_
   refine oz_ 7 19 ?_
   refine oz_ 8 20 ?_
   refine oo_ 9 21 (fun K hK=>?_)
   refine goes_ Try.func68 (by kernel_rfl) rfl #[.pointer (some ⟨g,0,none⟩),.int .i64 (wrap64 (t16+(wrap64 (Int.tdiv t18_0 15))))] (by rfl) rfl rfl zh_ ?_
   (refine (spec_l1Cur_pick.calls g l0 t18_1 t18_2 (wrap64 (t16+(wrap64 (Int.tdiv t18_0 15)))) t21_0 t21_1 t21_2 w _ (ow19_in HO_8.out 3 rfl HS_18.out) HO_8.out.base A21.out).mono ?_)
   rintro e w_9 ⟨rfl,hI,hB,hK⟩
   refine ⟨_,rfl,?_⟩
   obtain ⟨vS_21,hS,ho⟩:=ow19_out HO_8.out 3 rfl hI hB hK;have HS_21:=aM hS;clear hS hI hB hK;have HO_9:=aM ho;clear ho
   refine hK.out _ _ ⟨(HO_9.out.cell 1 rfl 0 rfl),(HO_9.out.cell 1 rfl 1 rfl),(HO_9.out.cell 1 rfl 2 rfl)⟩ (fun hHeld=>?_)
   clear hK K
   refine nz_ 21 ?_
   refine oo_ 11 23 (fun K hK=>?_)
   refine goes_ Try.func68 (by kernel_rfl) rfl #[.pointer (some ⟨g,0,none⟩),.int .i64 24] (by rfl) rfl rfl zh_ ?_
   (refine (spec_l1Cur_pick.calls g l0 t21_1 t21_2 24 t23_0 t23_1 t23_2 w _ (ow19_in HO_9.out 3 rfl HS_21.out) HO_9.out.base A23.out).mono ?_)
   rintro e w_10 ⟨rfl,hI,hB,hK⟩
   refine ⟨_,rfl,?_⟩
   obtain ⟨vS_23,hS,ho⟩:=ow19_out HO_9.out 3 rfl hI hB hK;have HS_23:=aM hS;clear hS hI hB hK;have HO_10:=aM ho;clear ho
   refine hK.out _ _ ⟨(HO_10.out.cell 1 rfl 0 rfl),(HO_10.out.cell 1 rfl 1 rfl),(HO_10.out.cell 1 rfl 2 rfl)⟩ (fun hHeld=>?_)
   clear hK K
   refine nz_ 23 ?_
   refine oz_ 12 24 ?_
   refine oz_ 13 25 ?_
   exact norm_ (by simp only [putAll,Act.put,sI,s0,sS]) (hCont ((.slice ((some ⟨g_28,0,none⟩)) 2 c_28:Value),vS_23) _ ⟨⟨(HO_10.out.cell 1 rfl 0 rfl),(HO_10.out.cell 1 rfl 1 rfl),(HO_10.out.cell 1 rfl 2 rfl)⟩,⟨HS_23.out,(((((HO_10.out.front 4 rfl).front 4 rfl).front 4 rfl).front 4 rfl).front 4 rfl)⟩⟩)
 rintro ⟨xr28,vS_23⟩ wj_2 ⟨hHeld,hS_,ho⟩
 have HS_23:=aM hS_
 clear hS_
 obtain ⟨g_28,n_28,c_28,hn_,rfl⟩:=Sep.own_row_fseal ho 0 rfl (by simp)
 obtain rfl:n_28=2:=hn_
 have HOJ_2:=aM ho
 clear ho
 refine norm_ (a':=?_) ?_ ?_
 rotate_left
 ·simp only [putAll,Act.put,sI,s0,sS]
  rfl
 refine oo_ 17 29 (fun K hK=>?_)
 refine goes_ Try.func66 (by kernel_rfl) rfl #[.pointer (some ⟨g,0,none⟩),.slice ((some ⟨g_28,0,none⟩)) 2 c_28] (by rfl) rfl rfl zh_ ?_
 (refine (spec_l1Cur_among.calls g l0 t23_1 t23_2 ((some ⟨g_28,0,none⟩)) c_28 ([-1,2]) t29_0 t29_1 t29_2 w _ (ow19_in HOJ_2.out 3 rfl HS_23.out) HOJ_2.out.base (HOJ_2.out.row_reads 0 rfl).2.2 (HOJ_2.out.row_reads 0 rfl).2.1 (fun ad he _=>by injection he with he;subst he;exact HOJ_2.out.row_ne_box 0 3 (by decide) rfl rfl) A29.out).mono ?_)
 rintro e w_61 ⟨rfl,hI,hB,hK⟩
 refine ⟨_,rfl,?_⟩
 obtain ⟨vS_29,hS,ho⟩:=ow19_out HOJ_2.out 3 rfl hI hB hK
 have HS_29:=aM hS
 clear hS hI hB hK
 have HO_61:=aM ho
 clear ho
 refine hK.out _ _ ⟨(HO_61.out.cell 1 rfl 0 rfl),(HO_61.out.cell 1 rfl 1 rfl),(HO_61.out.cell 1 rfl 2 rfl)⟩ (fun hHeld=>?_)
 clear hK K
 refine nz_ 29 ?_
 refine oo_ 18 30 (fun K hK=>?_)
 refine Sep.own_litN_step (Value.int .i64) (h1:=fun _=>rfl) HO_61.out 3 [0,1,0,1,t29_0] 5 rfl [.int .i64 0,.int .i64 1,.int .i64 0,.int .i64 1,.int .i64 t29_0] rfl (by decide) (by rfl) (N:=30) rfl za_ ?_
 intro x_30 w_62 ho _
 obtain ⟨g_30,n_30,c_30,hn_,rfl⟩:=Sep.own_row_fseal ho 0 rfl (by simp)
 obtain rfl:n_30=5:=hn_
 have HO_62:=aM ho
 clear ho
 refine hK.out _ _ ⟨(HO_62.out.cell 2 rfl 0 rfl),(HO_62.out.cell 2 rfl 1 rfl),(HO_62.out.cell 2 rfl 2 rfl)⟩ (fun hHeld=>?_)
 clear hK K
 refine nz_ 30 ?_
 refine oo_ 19 31 (fun K hK=>?_)
 refine goes_ Try.func66 (by kernel_rfl) rfl #[.pointer (some ⟨g,0,none⟩),.slice ((some ⟨g_30,0,none⟩)) 5 c_30] (by rfl) rfl rfl zh_ ?_
 (refine (spec_l1Cur_among.calls g l0 t29_1 t29_2 ((some ⟨g_30,0,none⟩)) c_30 ([0,1,0,1,t29_0]) t31_0 t31_1 t31_2 w _ (ow19_in HO_62.out 4 rfl HS_29.out) HO_62.out.base (HO_62.out.row_reads 0 rfl).2.2 (HO_62.out.row_reads 0 rfl).2.1 (fun ad he _=>by injection he with he;subst he;exact HO_62.out.row_ne_box 0 4 (by decide) rfl rfl) A31.out).mono ?_)
 rintro e w_63 ⟨rfl,hI,hB,hK⟩
 refine ⟨_,rfl,?_⟩
 obtain ⟨vS_31,hS,ho⟩:=ow19_out HO_62.out 4 rfl hI hB hK
 have HS_31:=aM hS
 clear hS hI hB hK
 have HO_63:=aM ho
 clear ho
 refine hK.out _ _ ⟨(HO_63.out.cell 2 rfl 0 rfl),(HO_63.out.cell 2 rfl 1 rfl),(HO_63.out.cell 2 rfl 2 rfl)⟩ (fun hHeld=>?_)
 clear hK K
 refine nz_ 31 ?_
 refine one_ (i:=20) (N:=none) #[ti,ti,ti,ti,ti,ti,ti,ti,ti,ti,ti,ti,ti,ti,ti,ti,ti,ti,ti,ti,ti,fi,fi] rfl rfl (by kernel_rfl) (by decide) (fun K hK=>?_)
 refine Sep.own_store_step HO_63.out 5 g2 28 _ #[.int .i64 t11_0,.slice A_11 t11_1.length c_11,.int .i64 t11_2] rfl (by rfl) rfl 28 (.tmp 2) (.tmp 12) rfl rfl _ rfl rfl rfl (by kernel_rfl) (by simp [Value.oneCell']) ?_
 intro w_64 ho
 have HO_64:=aM ho
 clear ho
 refine hK.out _ _ ⟨(HO_64.out.cell 2 rfl 0 rfl),(HO_64.out.cell 2 rfl 1 rfl),(HO_64.out.cell 2 rfl 2 rfl)⟩ (fun hHeld=>?_)
 clear hK K
 refine oz_ 21 3 ?_
 refine oz_ 22 4 ?_
 refine done_ (by kernel_rfl) ?_
 go_wp2
 (try simp only [Act.put,sI,s0,sS])
 obtain ⟨f_,hf_⟩:=HO_64.out.2
 (try simp only [Exit.inBlock,Exit.then])
 refine bodyPost_ret (results_list (rs:=[.cell 2 28,.tmp 3,.tmp 4]) rfl (by simp) (.cell g2 28 #[.int .i64 t11_0,.slice A_11 t11_1.length c_11,.int .i64 t11_2] (0,0) _ rfl (HO_64.out.blk 5 rfl) Try.underlying28 rfl (by kernel_rfl) (.tmp (.tmp .nil)))) rfl ?_
 exact ⟨_,rfl,Kd.R_mono (hf_ 3 _ rfl) (fun k_ hk_=>trivial),HO_64.out.base⟩
mutual
def impl_FixInput.j0:Nat→Int→Int→Bool→Int→List Int→Option (Int×List Int×Bool)
 | 0,_,_,_,_,_=>none
 | k+1,x1,x2,x31,x259000,x259001=>if x31=true then (some (0,([]:List Int),false)) else (impl_FixInput.l0 k x1 x2 x259001 (x259001.length:Int) 0 (wrap64 (x259000 - 1)) ([]:List Int))
def impl_FixInput.l0:Nat→Int→Int→List Int→Int→Int→Int→List Int→Option (Int×List Int×Bool)
 | 0,_,_,_,_,_,_,_=>none
 | k+1,x1,x2,x38,x39,x40,x262000,x262001=>if x40<x39 then (if 0≤x40 then (if x40<(x38.length:Int) then (if 0≤x1 then (if (Go.bits .and .i64 (shr .i64 x40 x1) 1)=x2 then (if x262001.length<17592186044416 then (impl_FixInput.l0 k x1 x2 x38 x39 (wrap64 (x40+1)) x262000 (x262001 ++ [rd x38 x40])) else (none)) else (impl_FixInput.l0 k x1 x2 x38 x39 (wrap64 (x40+1)) x262000 x262001)) else (none)) else (none)) else (none)) else (some (x262000,x262001,true))
end
def impl_FixInput.f (k:Nat) (a0_0:Int) (l0_1:List Int) (a1:Int) (a2:Int):Option (Int×List Int×Bool):=(impl_IsTable.f k a0_0 l0_1).bind fun t260=>(if t260=true then (if a1<0 then (impl_FixInput.j0 k a1 a2 true a0_0 l0_1) else (if a1≥a0_0 then (impl_FixInput.j0 k a1 a2 true a0_0 l0_1) else (if a2<0 then (impl_FixInput.j0 k a1 a2 true a0_0 l0_1) else (impl_FixInput.j0 k a1 a2 (decide (a2>1)) a0_0 l0_1)))) else (impl_FixInput.j0 k a1 a2 true a0_0 l0_1))
theorem impl_FixInput.calls (k:Nat) (a0_0:Int) (A0_1:Option Addr) (c0_1:Nat) (l0_1:List Int) (a1:Int) (a2:Int) (r1:Int) (r2:List Int) (r3:Bool) (w:World) (hr0_1:Kd.C (Kd.int .i64) w A0_1 l0_1.length l0_1) (hc0_1:l0_1.length≤c0_1) (h:impl_FixInput.f k a0_0 l0_1 a1 a2=some (r1,r2,r3)) :
  Calls Try.prog 69 #[.agg #[.int .i64 a0_0,.slice A0_1 l0_1.length c0_1],.int .i64 a1,.int .i64 a2] w fun e w' => ∃ v1_:Value,e = .returned (.tuple #[.agg #[.int .i64 r1,v1_],.bool r3])∧Kd.R (Kd.int .i64) 3 w' w.heap.size (fun _=>True) v1_ r2∧Below w.heap.size w w':=by
 have hu41:=Try.underlying41
 have HR0_1:=aM hr0_1
 have HC0_1:=aM hc0_1
 clear hr0_1 hc0_1
 have HB:=aM (Below.refl w.heap.size w)
 have H:((impl_IsTable.f k a0_0 l0_1).bind fun t260=>(if t260=true then (if a1<0 then (impl_FixInput.j0 k a1 a2 true a0_0 l0_1) else (if a1≥a0_0 then (impl_FixInput.j0 k a1 a2 true a0_0 l0_1) else (if a2<0 then (impl_FixInput.j0 k a1 a2 true a0_0 l0_1) else (impl_FixInput.j0 k a1 a2 (decide (a2>1)) a0_0 l0_1)))) else (impl_FixInput.j0 k a1 a2 true a0_0 l0_1)))=some (r1,r2,r3):=h
 clear h
 have HC4:=aM H
 clear H
 go_enter Try.func69,Try.ntmps69
 go_upto_region 1 with (first | ((with_reducible refine gate_dst (N:=3) rfl ?_);refine box_event ?hg (N:=3) ?hd (cs:=#[.int .i64 a0_0,.slice A0_1 l0_1.length c0_1]) (t:=41) ?hr ?_;(case hd=>rfl);(case hg=>rfl);(case hr=>exact za_);intro gb258 hg w5 hbox hb;have n_:=z (below_step zb_ hb)<|z (hbox)<|z ((by rw [hg];exact (below_size zb_):w.heap.size≤gb258))<|z1 ((by rw [hg];exact (below_size zb_):w.heap.size≤gb258));clear HB;obtain ⟨HB,BK258,GW258,GE258⟩:=n_;clear hb hbox hg)|((with_reducible refine gate_dst (N:=6) rfl ?_);refine box_event ?hg (N:=6) ?hd (cs:=#[.int .i64 0,.slice none 0 0]) (t:=41) ?hr ?_;(case hd=>rfl);(case hg=>rfl);(case hr=>exact za_);intro gb259 hg w6 hbox hb;have n_:=z (blk_below (zb BK258.out) hb)<|z (below_step zbad_ hb)<|z (hbox)<|z ((by rw [hg];exact (below_size zbad_):w.heap.size≤gb259))<|z ((by rw [hg];exact (below_size zbad_):w.heap.size≤gb259))<|z ((by rw [hg];exact Nat.ne_of_lt (blk_lt (zb BK258.out)):gb258≠gb259))<|z1 ((by rw [hg];exact Nat.ne_of_gt (blk_lt (zb BK258.out)):gb259≠gb258));clear BK258 HB;obtain ⟨BK258,HB,BK259,GW259,GE259,NB258_259,NB259_258⟩:=n_;clear hb hbox hg))
 (try simp only [Act.put,sI,s0,sS])
 go_cut [31] (fun v31 wc => ∃ (kq:Nat) (x31_3:Bool),v31 = .bool x31_3∧Aside0 (impl_FixInput.j0 kq a1 a2 x31_3 a0_0 l0_1=some (r1,r2,r3))∧Aside0 (kq≤k)∧Aside0 (wc.heap[gb258]?=some (.cells #[.int .i64 a0_0,(.slice A0_1 l0_1.length c0_1)] 41 (0,0)))∧Aside0 (wc.heap[gb259]?=some (.cells #[.int .i64 0,(.slice none 0 0)] 41 (0,0)))∧Aside0 (Below w.heap.size w wc))
 case first =>
  have H:=HC4.out;clear HC4;replace H:=oB.mp H;obtain ⟨t260,A70,H⟩:=H;replace H:(if t260=true then (if a1<0 then (impl_FixInput.j0 k a1 a2 true a0_0 l0_1) else (if a1≥a0_0 then (impl_FixInput.j0 k a1 a2 true a0_0 l0_1) else (if a2<0 then (impl_FixInput.j0 k a1 a2 true a0_0 l0_1) else (impl_FixInput.j0 k a1 a2 (decide (a2>1)) a0_0 l0_1)))) else (impl_FixInput.j0 k a1 a2 true a0_0 l0_1))=some (r1,r2,r3):=H;have A7:=aM A70;clear A70
  by_cases c8:t260=true
  ·subst c8
   have H1:(if a1<0 then (impl_FixInput.j0 k a1 a2 true a0_0 l0_1) else (if a1≥a0_0 then (impl_FixInput.j0 k a1 a2 true a0_0 l0_1) else (if a2<0 then (impl_FixInput.j0 k a1 a2 true a0_0 l0_1) else (impl_FixInput.j0 k a1 a2 (decide (a2>1)) a0_0 l0_1))))=some (r1,r2,r3):=by rw [if_pos rfl] at H;exact H
   clear H;have H:=H1;clear H1
   by_cases c9:a1<0
   ·rw [if_pos c9] at H
    have c9b0:=decide_eq_true c9;clear c9;(first | rw [c9b0]|(simp only [i64_w,i32_w];rw [c9b0]) | skip);have H':=aM H;clear H;have hnb10:=NB258_259.out;have hnc10:=NB259_258.out;obtain ⟨hcz11_0,hcz11_1,hfz11_0,hfz11_1⟩:=zk2 BK258.out
    go_wp2_with (first | ((with_reducible refine gate_callee (f:=67) rfl ?_);refine goesL_ (some 12) rfl rfl Try.func67 (by kernel_rfl) rfl #[.agg #[.int .i64 a0_0,.slice A0_1 l0_1.length c0_1]] rfl zf_ ?_;(with_reducible refine (impl_IsTable.calls k a0_0 _ _ l0_1 true _ ?side1 ?side2 A7.out).mono ?_);(case side1=>exact zj_);(case side2=>exact HC0_1.out);rintro e w12 ⟨rfl,hb⟩;refine ⟨_,rfl,?_⟩;have n_:=z (blk_below (zb BK258.out) hb)<|z (blk_below (zb BK259.out) hb)<|z1 (below_step zdc_ hb);clear BK258 BK259 HB;obtain ⟨BK258,BK259,HB⟩:=n_;clear hb))
    go_meet
    case rel=>exact ⟨_,(true),zd_,H',⟨zbe_⟩,⟨zb BK258.out⟩,⟨zb BK259.out⟩,⟨zdc_⟩⟩
   ·rw [if_neg c9] at H
    have c9b0:=decide_eq_false c9;clear c9;(first | rw [c9b0]|(simp only [i64_w,i32_w];rw [c9b0]) | skip)
    by_cases c13:a1≥a0_0
    ·rw [if_pos c13] at H
     have c13b0:decide (a0_0≤a1)=true:=decide_eq_true c13;clear c13;have H':=aM H;clear H;have hnb14:=NB258_259.out;have hnc14:=NB259_258.out;obtain ⟨hcz15_0,hcz15_1,hfz15_0,hfz15_1⟩:=zk2 BK258.out
     go_wp2_with (first | ((with_reducible refine gate_callee (f:=67) rfl ?_);refine goesL_ (some 12) rfl rfl Try.func67 (by kernel_rfl) rfl #[.agg #[.int .i64 a0_0,.slice A0_1 l0_1.length c0_1]] rfl zf_ ?_;(with_reducible refine (impl_IsTable.calls k a0_0 _ _ l0_1 true _ ?side1 ?side2 A7.out).mono ?_);(case side1=>exact zj_);(case side2=>exact HC0_1.out);rintro e w16 ⟨rfl,hb⟩;refine ⟨_,rfl,?_⟩;have n_:=z (blk_below (zb BK258.out) hb)<|z (blk_below (zb BK259.out) hb)<|z1 (below_step zdc_ hb);clear BK258 BK259 HB;obtain ⟨BK258,BK259,HB⟩:=n_;clear hb;obtain ⟨hcz17_0,hcz17_1,hfz17_0,hfz17_1⟩:=zk2 BK258.out))
     go_meet
     case rel=>exact ⟨_,(true),zd_,H',⟨zbe_⟩,⟨zb BK258.out⟩,⟨zb BK259.out⟩,⟨zdc_⟩⟩
    ·rw [if_neg c13] at H
     have c13b0:decide (a0_0≤a1)=false:=decide_eq_false c13;clear c13
     by_cases c18:a2<0
     ·rw [if_pos c18] at H
      have c18b0:=decide_eq_true c18;clear c18;have H':=aM H;clear H;have hnb19:=NB258_259.out;have hnc19:=NB259_258.out;obtain ⟨hcz20_0,hcz20_1,hfz20_0,hfz20_1⟩:=zk2 BK258.out
      go_wp2_with (first | ((with_reducible refine gate_callee (f:=67) rfl ?_);refine goesL_ (some 12) rfl rfl Try.func67 (by kernel_rfl) rfl #[.agg #[.int .i64 a0_0,.slice A0_1 l0_1.length c0_1]] rfl zf_ ?_;(with_reducible refine (impl_IsTable.calls k a0_0 _ _ l0_1 true _ ?side1 ?side2 A7.out).mono ?_);(case side1=>exact zj_);(case side2=>exact HC0_1.out);rintro e w21 ⟨rfl,hb⟩;refine ⟨_,rfl,?_⟩;have n_:=z (blk_below (zb BK258.out) hb)<|z (blk_below (zb BK259.out) hb)<|z1 (below_step zdc_ hb);clear BK258 BK259 HB;obtain ⟨BK258,BK259,HB⟩:=n_;clear hb;obtain ⟨hcz22_0,hcz22_1,hfz22_0,hfz22_1⟩:=zk2 BK258.out))
      go_meet
      case rel=>exact ⟨_,(true),zd_,H',⟨zbe_⟩,⟨zb BK258.out⟩,⟨zb BK259.out⟩,⟨zdc_⟩⟩
     ·rw [if_neg c18] at H
      have c18b0:=decide_eq_false c18;clear c18;have H':=aM H;clear H;have hnb23:=NB258_259.out;have hnc23:=NB259_258.out;obtain ⟨hcz24_0,hcz24_1,hfz24_0,hfz24_1⟩:=zk2 BK258.out
      go_wp2_with (first | ((with_reducible refine gate_callee (f:=67) rfl ?_);refine goesL_ (some 12) rfl rfl Try.func67 (by kernel_rfl) rfl #[.agg #[.int .i64 a0_0,.slice A0_1 l0_1.length c0_1]] rfl zf_ ?_;(with_reducible refine (impl_IsTable.calls k a0_0 _ _ l0_1 true _ ?side1 ?side2 A7.out).mono ?_);(case side1=>exact zj_);(case side2=>exact HC0_1.out);rintro e w25 ⟨rfl,hb⟩;refine ⟨_,rfl,?_⟩;have n_:=z (blk_below (zb BK258.out) hb)<|z (blk_below (zb BK259.out) hb)<|z1 (below_step zdc_ hb);clear BK258 BK259 HB;obtain ⟨BK258,BK259,HB⟩:=n_;clear hb;obtain ⟨hcz26_0,hcz26_1,hfz26_0,hfz26_1⟩:=zk2 BK258.out))
      go_meet
      case rel=>exact ⟨_,(decide (a2>1)),zd_,H',⟨zbe_⟩,⟨zb BK258.out⟩,⟨zb BK259.out⟩,⟨zdc_⟩⟩
  ·replace c8:=Bool.eq_false_iff.mpr c8
   subst c8;have H1:(impl_FixInput.j0 k a1 a2 true a0_0 l0_1)=some (r1,r2,r3):=by rw [if_neg (show ¬ (false=true) by decide)] at H;exact H
   clear H;have H:=H1;clear H1;have H':=aM H;clear H;have hnb27:=NB258_259.out;have hnc27:=NB259_258.out;obtain ⟨hcz28_0,hcz28_1,hfz28_0,hfz28_1⟩:=zk2 BK258.out
   go_wp2_with (first | ((with_reducible refine gate_callee (f:=67) rfl ?_);refine goesL_ (some 12) rfl rfl Try.func67 (by kernel_rfl) rfl #[.agg #[.int .i64 a0_0,.slice A0_1 l0_1.length c0_1]] rfl zf_ ?_;(with_reducible refine (impl_IsTable.calls k a0_0 _ _ l0_1 false _ ?side1 ?side2 A7.out).mono ?_);(case side1=>exact zj_);(case side2=>exact HC0_1.out);rintro e w29 ⟨rfl,hb⟩;refine ⟨_,rfl,?_⟩;have n_:=z (blk_below (zb BK258.out) hb)<|z (blk_below (zb BK259.out) hb)<|z1 (below_step zdc_ hb);clear BK258 BK259 HB;obtain ⟨BK258,BK259,HB⟩:=n_;clear hb))
   go_meet
   case rel=>exact ⟨_,(true),zd_,H',⟨zbe_⟩,⟨zb BK258.out⟩,⟨zb BK259.out⟩,⟨zdc_⟩⟩
 case rest =>
  clear HC4;obtain ⟨kq,x31_3,rfl,HA,HJ3,BK258,BK259,HB⟩:=hcut
  cases kq with
  | zero=>exact absurd HA.out (by simp [impl_FixInput.j0])
  | succ kj3 =>
   have H:=HA.out;clear HA
   simp only [impl_FixInput.j0] at H
   by_cases c30:x31_3=true
   ·subst c30
    have H1:(some (0,([]:List Int),false))=some (r1,r2,r3):=by rw [if_pos rfl] at H;exact H
    clear H;have H:=H1;clear H1
    simp only [Option.some.injEq,Prod.mk.injEq] at H
    obtain ⟨rfl,rfl,rfl⟩:=H;have hnb31:=NB259_258.out;have hnc31:=NB258_259.out;obtain ⟨hcz32_0,hcz32_1,hfz32_0,hfz32_1⟩:=zk2 BK259.out
    go_wp2
    refine bodyPost_ret (results_ct rfl _ _ gb259 41 #[.int .i64 0,.slice none 0 0] (0,0) _ rfl (by refine zb ?_;refine blk_put (cs:=#[.int .i64 0,.slice none 0 0]) ?_ 1 _ rfl;refine zb ?_;refine blk_put (cs:=#[.int .i64 0,.slice none 0 0]) ?_ 0 _ rfl;refine zb ?_;exact BK259.out) Try.underlying41 rfl (by kernel_rfl)) rfl ?_
    exact ⟨_,zg_,zdd_,zdc_⟩
   ·replace c30:=Bool.eq_false_iff.mpr c30
    subst c30;have H1:(impl_FixInput.l0 kj3 a1 a2 l0_1 (l0_1.length:Int) 0 (wrap64 (a0_0 - 1)) ([]:List Int))=some (r1,r2,r3):=by rw [if_neg (show ¬ (false=true) by decide)] at H;exact H
    clear H;have H:=H1;clear H1;have H':=aM H;clear H;have hnb33:=NB258_259.out;have hnc33:=NB259_258.out;obtain ⟨hcz34_0,hcz34_1,hfz34_0,hfz34_1⟩:=zk2 BK258.out
    go_wp2_with (first | ((with_reducible refine gate_dst (N:=8) rfl ?_);refine box_event ?hg (N:=8) ?hd (cs:=#[.int .i64 0,.slice none 0 0]) (t:=41) ?hr ?_;(case hd=>rfl);(case hg=>rfl);(case hr=>exact za_);intro gb261 hg w35 hbox hb;have n_:=z (blk_below (zb BK258.out) hb)<|z (blk_below (zb BK259.out) hb)<|z (below_step zdc_ hb)<|z (hbox)<|z ((by rw [hg];exact (below_size zdc_):w.heap.size≤gb261))<|z ((by rw [hg];exact (below_size zdc_):w.heap.size≤gb261))<|z ((by rw [hg];exact Nat.ne_of_lt (blk_lt (zb BK258.out)):gb258≠gb261))<|z ((by rw [hg];exact Nat.ne_of_gt (blk_lt (zb BK258.out)):gb261≠gb258))<|z ((by rw [hg];exact Nat.ne_of_lt (blk_lt (zb BK259.out)):gb259≠gb261))<|z1 ((by rw [hg];exact Nat.ne_of_gt (blk_lt (zb BK259.out)):gb261≠gb259));clear BK258 BK259 HB;obtain ⟨BK258,BK259,HB,BK261,GW261,GE261,NB258_261,NB261_258,NB259_261,NB261_259⟩:=n_;clear hb hbox hg;have hnb36:=NB261_258.out;have hnc36:=NB258_261.out;have hnb37:=NB261_259.out;have hnc37:=NB259_261.out;obtain ⟨hcz38_0,hcz38_1,hfz38_0,hfz38_1⟩:=zk2 BK261.out;obtain ⟨hcz39_0,hcz39_1,hfz39_0,hfz39_1⟩:=zk2 BK258.out))
    go_loopg [40] kj3 (fun kq v40 w' => ∃ (x40_2:Int) (x262001_2:List Int) (u262001:Value),v40 = .int .i64 x40_2∧Aside0 (impl_FixInput.l0 kq a1 a2 l0_1 (l0_1.length:Int) x40_2 (wrap64 (a0_0 - 1)) x262001_2=some (r1,r2,r3))∧Aside0 (kq≤kj3)∧Aside0 (Kd.R (Kd.int .i64) 3 w' w.heap.size (fun _=>True) u262001 x262001_2)∧Aside0 (w'.heap[gb258]?=some (.cells #[.int .i64 a0_0,(.slice A0_1 l0_1.length c0_1)] 41 (0,0)))∧Aside0 (w'.heap[gb259]?=some (.cells #[.int .i64 0,(.slice none 0 0)] 41 (0,0)))∧Aside0 (w'.heap[gb261]?=some (.cells #[.int .i64 (wrap64 (a0_0 - 1)),u262001] 41 (0,0)))∧Aside0 (Below w.heap.size w w'))
    case atStart=>exact ⟨(0),(([]:List Int)),(.slice none 0 0),zd_,H',⟨Nat.le_refl _⟩,⟨zdd_⟩,⟨by refine zb ?_;refine blk_far ?_ NB258_261.out _;refine zb ?_;refine blk_far ?_ NB258_261.out _;refine zb ?_;exact BK258.out⟩,⟨by refine zb ?_;refine blk_far ?_ NB259_261.out _;refine zb ?_;refine blk_far ?_ NB259_261.out _;refine zb ?_;exact BK259.out⟩,⟨by refine zb ?_;refine blk_put (cs:=#[.int .i64 (wrap64 (a0_0 - 1)),.slice none 0 0]) ?_ 1 _ rfl;refine zb ?_;refine blk_put (cs:=#[.int .i64 0,.slice none 0 0]) ?_ 0 _ rfl;refine zb ?_;exact BK261.out⟩,⟨zhc_⟩⟩
    case round =>
     clear H';(try clear hcz34_0);(try clear hcz34_1);(try clear hcz38_0);(try clear hcz38_1);(try clear hcz39_0);(try clear hcz39_1);(try clear hfz34_0);(try clear hfz34_1);(try clear hfz38_0);(try clear hfz38_1);(try clear hfz39_0);(try clear hfz39_1);obtain ⟨x40_2,x262001_2,u262001,rfl,HA,HK2,HO_262001,BK258,BK259,BK261,HB⟩:=hrel
     cases gk with
     | zero=>exact absurd HA.out (by simp [impl_FixInput.l0])
     | succ k2 =>
      have H:=HA.out;clear HA
      simp only [impl_FixInput.l0] at H
      by_cases c40:x40_2<(l0_1.length:Int)
      ·rw [if_pos c40] at H
       have c40b0:=decide_eq_true c40;clear c40
       by_cases c41:0≤x40_2
       ·rw [if_pos c41] at H
        have c41b0:=decide_eq_true c41;clear c41
        by_cases c42:x40_2<(l0_1.length:Int)
        ·rw [if_pos c42] at H
         have c42b0:=decide_eq_true c42;clear c42
         by_cases c43:0≤a1
         ·rw [if_pos c43] at H
          have c43b0:=eq_true c43;have c43b1:=decide_eq_true c43;clear c43;obtain ⟨ji44,hji44⟩:∃ j_:Int,(shr .i64 x40_2 a1)=j_:=⟨_,rfl⟩;replace H:(if (Go.bits .and .i64 (ji44) 1)=a2 then (if x262001_2.length<17592186044416 then (impl_FixInput.l0 k2 a1 a2 l0_1 (l0_1.length:Int) (wrap64 (x40_2+1)) (wrap64 (a0_0 - 1)) (x262001_2 ++ [rd l0_1 x40_2])) else (none)) else (impl_FixInput.l0 k2 a1 a2 l0_1 (l0_1.length:Int) (wrap64 (x40_2+1)) (wrap64 (a0_0 - 1)) x262001_2))=some (r1,r2,r3):=by first | (rw [hji44] at H;exact H)|(simp only [hji44] at H ⊢;exact H)
          have hji44_:(x40_2 / 2 ^ min a1.toNat 64)=ji44:=hji44;have hji44z:a1≤64→(x40_2 / 2 ^ a1.toNat)=ji44:=shr_small hji44
          by_cases c45:(Go.bits .and .i64 (ji44) 1)=a2
          ·rw [if_pos c45] at H
           have c45b0:=beq_iff_eq.mpr c45;have c45b1:=bne_eq_false_iff_eq.mpr c45;clear c45
           by_cases c46:x262001_2.length<17592186044416
           ·rw [if_pos c46] at H
            have LMc46:=aM c46;clear c46;obtain ⟨y263,hy263⟩:∃ y_:List Int,y_=(x262001_2 ++ [rd l0_1 x40_2]):=⟨_,rfl⟩;replace H:(impl_FixInput.l0 k2 a1 a2 l0_1 (l0_1.length:Int) (wrap64 (x40_2+1)) (wrap64 (a0_0 - 1)) y263)=some (r1,r2,r3):=q3y_ hy263 H
            have Ny263:=aM hy263;clear hy263;have H':=aM H;clear H;have p262:0≤(x40_2:Int):=of_decide_eq_true zc_;have q262:x40_2<(l0_1.length:Int):=of_decide_eq_true zc_;obtain ⟨ad262,e262,hx262_0⟩:=Kd.at_int HR0_1.out x40_2 p262 q262
            cases e262
            (try (replace hx262_0:=q3h_ HB.out hx262_0));replace p262:=eq_true p262;replace q262:=eq_true q262;have hnb47:=NB261_258.out;have hnc47:=NB258_261.out;have hnb48:=NB261_259.out;have hnc48:=NB259_261.out;obtain ⟨hcz49_0,hcz49_1,hfz49_0,hfz49_1⟩:=zk2 BK261.out
            go_wp2_with (first | ((with_reducible refine gate_builtin (b := .append) (xs:=#[.tmp 52,.tmp 54]) rfl ?_);at_builtin;refine Kd.R_append (Kd.int .i64) (w0:=w) w.heap.size rfl (.tmp 52) (.tmp 54) 39 3 (.int .i64 0) 8 rfl Try.underlying39 info3 rfl (by decide) (by omega) u262001 x262001_2 (rd l0_1 x40_2) [.int .i64 (rd l0_1 x40_2)] (fun _=>True) (fun _=>False) rfl rfl ?aP (fun _ hk=>hk.elim) ?aF ?aO ?aB ?aS ?aL ?_;(case aP=>exact rfl);(case aB=>exact zhc_);(case aF=>exact zdi_);(case aO=>exact (zr HO_262001.out));(case aS=>exact (below_size zhc_));(case aL=>have:=LMc46.out;omega);intro v264 w50 ho hb hg hat;rw [← Ny263.out] at ho;have n_:=z (blk_grown (g:=gb258) (o := .cells #[.int .i64 a0_0,.slice (some ad262) l0_1.length c0_1] 41 (0,0)) (zb BK258.out) hg (Kd.R_ne HO_262001.out BK258.out (by decide)))<|z (blk_grown (g:=gb259) (o := .cells #[.int .i64 0,.slice none 0 0] 41 (0,0)) (zb BK259.out) hg (Kd.R_ne HO_262001.out BK259.out (by decide)))<|z (blk_grown (g:=gb261) (o := .cells #[.int .i64 (wrap64 (a0_0 - 1)),u262001] 41 (0,0)) (zb BK261.out) hg (Kd.R_ne HO_262001.out BK261.out (by decide)))<|z (hb)<|z1 (ho);clear BK258 BK259 BK261 HB HO_262001;obtain ⟨BK258,BK259,BK261,HB,HO265⟩:=n_;clear ho hb hg hat;obtain ⟨Ao51,co51,eo51⟩:=Kd.R_slice HO265.out;subst eo51;obtain ⟨hcz52_0,hcz52_1,hfz52_0,hfz52_1⟩:=zk2 BK261.out))
            go_roundg k2
            case measure=>have:=HJ3.out;have:=HK2.out;omega
            case rel=>exact ⟨(wrap64 (x40_2+1)),(y263),(.slice Ao51 y263.length co51),zd_,H',⟨zhi_⟩,⟨by refine zr ?_;exact Kd.R_mono (Kd.R_far (p:=⟨gb261,1,none⟩) (Kd.R_types HO265.out BK261.out (by decide)) (fun _ hk=>hk.2) (.slice Ao51 y263.length co51)) (fun _ hk=>trivial)⟩,⟨by refine zb ?_;refine blk_far ?_ NB258_261.out _;refine zb ?_;exact BK258.out⟩,⟨by refine zb ?_;refine blk_far ?_ NB259_261.out _;refine zb ?_;exact BK259.out⟩,⟨by refine zb ?_;refine blk_put (cs:=#[.int .i64 (wrap64 (a0_0 - 1)),u262001]) ?_ 1 _ rfl;refine zb ?_;exact BK261.out⟩,⟨zhc_⟩⟩
           ·rw [if_neg c46] at H
            exact q3n_ H
          ·rw [if_neg c45] at H
           have c45b0:=beq_eq_false_iff_ne.mpr c45;have c45b1:=bne_iff_ne.mpr c45;have H':=aM H;clear H;have p262:0≤(x40_2:Int):=of_decide_eq_true zc_;have q262:x40_2<(l0_1.length:Int):=of_decide_eq_true zc_;obtain ⟨ad262,e262,hx262_0⟩:=Kd.at_int HR0_1.out x40_2 p262 q262
           cases e262
           (try (replace hx262_0:=q3h_ HB.out hx262_0));replace p262:=eq_true p262;replace q262:=eq_true q262
           go_wp2
           go_roundg k2
           case measure=>have:=HJ3.out;have:=HK2.out;omega
           case rel=>exact ⟨(wrap64 (x40_2+1)),(x262001_2),(u262001),zd_,H',⟨zhi_⟩,⟨zr HO_262001.out⟩,⟨zb BK258.out⟩,⟨zb BK259.out⟩,⟨zb BK261.out⟩,⟨zhc_⟩⟩
         ·rw [if_neg c43] at H
          exact q3n_ H
        ·rw [if_neg c42] at H
         exact q3n_ H
       ·rw [if_neg c41] at H
        exact q3n_ H
      ·rw [if_neg c40] at H
       have c40b0:=decide_eq_false c40;clear c40
       simp only [Option.some.injEq,Prod.mk.injEq] at H
       obtain ⟨rfl,rfl,rfl⟩:=H;have hnb53:=NB261_258.out;have hnc53:=NB258_261.out;have hnb54:=NB261_259.out;have hnc54:=NB259_261.out;obtain ⟨hcz55_0,hcz55_1,hfz55_0,hfz55_1⟩:=zk2 BK261.out;have hnb56:=NB259_258.out;have hnc56:=NB258_259.out;obtain ⟨hcz57_0,hcz57_1,hfz57_0,hfz57_1⟩:=zk2 BK259.out;obtain ⟨Ao58,co58,eo58⟩:=Kd.R_slice HO_262001.out;subst eo58
       go_wp2
       refine bodyPost_ret (results_ct rfl _ _ gb259 41 #[.int .i64 (wrap64 (a0_0 - 1)),.slice Ao58 x262001_2.length co58] (0,0) _ rfl (by refine zb ?_;refine blk_put (cs:=#[.int .i64 (wrap64 (a0_0 - 1)),.slice none 0 0]) ?_ 1 _ rfl;refine zb ?_;refine blk_put (cs:=#[.int .i64 0,.slice none 0 0]) ?_ 0 _ rfl;refine zb ?_;exact BK259.out) Try.underlying41 rfl (by kernel_rfl)) rfl ?_
       exact ⟨_,zg_,by refine zr ?_;exact Kd.R_mono (Kd.R_far (p:=⟨gb259,1,none⟩) (Kd.R_far (p:=⟨gb259,0,none⟩) (Kd.R_types HO_262001.out BK259.out (by decide)) (fun _ hk=>hk.2) (.int .i64 (wrap64 (a0_0 - 1)))) (fun _ hk=>hk.2) (.slice Ao58 x262001_2.length co58)) (fun _ hk=>trivial),zhc_⟩
def impl_FixDiagram.f (k:Nat) (a0_0:Int) (l0_1:List (S93)) (a0_2:Int) (a1:Int) (a2:Int):Option (Int×(List (S93))×Int×Bool):=(impl_IsDiagram.f k a0_0 l0_1 a0_2).bind fun b11=>if b11=true then ((impl_tableOfDiagram.f k a0_0 l0_1 a0_2).bind fun b16=>(impl_FixInput.f k b16.1 b16.2 a1 a2).bind fun b19=>if b19.2.2=true then ((impl_diagramOf.f k b19.1 b19.2.1).bind fun b26=>some (b26.1,b26.2.1,b26.2.2,true)) else (some (0,[],0,false))) else (some (0,[],0,false))
open Go.Proofs.Ytlnhpkjioppbiaa.Sep in
set_option maxHeartbeats 32000000 in
set_option maxRecDepth 100000 in
theorem impl_FixDiagram.calls (k:Nat) (a0_0:Int) (A0_1:Option Addr) (c0_1:Nat) (l0_1:List (S93)) (a0_2:Int) (a1:Int) (a2:Int) (r1:Int) (r2:List (S93)) (r3:Int) (r4:Bool) (w:World) (hr0_1:Kd.C k93 w A0_1 l0_1.length l0_1) (hc0_1:l0_1.length≤c0_1) (h:impl_FixDiagram.f k a0_0 l0_1 a0_2 a1 a2=some (r1,r2,r3,r4)) :
  Calls Try.prog 20 #[.agg #[.int .i64 a0_0,.slice A0_1 l0_1.length c0_1,.int .i64 a0_2],.int .i64 a1,.int .i64 a2] w fun e w' => ∃ v1_:Value,e = .returned (.tuple #[.agg #[.int .i64 r1,v1_,.int .i64 r3],.bool r4])∧Kd.R k93 93 w' w.heap.size (fun _=>True) v1_ r2∧Below w.heap.size w w':=by
 have HR0_1:=aM hr0_1
 have HC0_1:=aM hc0_1
 clear hr0_1 hc0_1
 unfold impl_FixDiagram.f at h
 have H:=h
 clear h
 obtain ⟨t11,A_,H_⟩:=oB.mp H
 clear H
 have H:=H_
 clear H_
 (try dsimp only at H)
 have A11:=aM A_
 clear A_
 go_enter Try.func20,Try.ntmps20
 go_upto_region 1 with (first | ((with_reducible refine gate_dst (N:=3) rfl ?_);refine box_event ?hg (N:=3) ?hd (cs:=#[.int .i64 a0_0,.slice A0_1 l0_1.length c0_1,.int .i64 a0_2]) (t:=28) ?hr ?_;(case hd=>rfl);(case hg=>rfl);(case hr=>exact za_);intro g3 hg w_1 hbox hb;have HO_1:=aM ((Sep.Own.nil w).add_box (T:=28) (cs:=#[.int .i64 a0_0,.slice A0_1 l0_1.length c0_1,.int .i64 a0_2]) hg hbox hb);clear hg hbox hb)|((with_reducible refine gate_dst (N:=6) rfl ?_);refine box_event ?hg (N:=6) ?hd (cs:=#[.int .i64 0,.slice none 0 0,.int .i64 0]) (t:=28) ?hr ?_;(case hd=>rfl);(case hg=>rfl);(case hr=>exact za_);intro g6 hg w_2 hbox hb;have HO_2:=aM (HO_1.out.add_box (T:=28) (cs:=#[.int .i64 0,.slice none 0 0,.int .i64 0]) hg hbox hb);clear hg hbox hb))
 by_cases c11_0:t11=true
 ·subst c11_0
  rw [if_pos rfl] at H;obtain ⟨⟨t16_0,t16_1⟩,A_,H_⟩:=oB.mp H;clear H;have H:=H_;clear H_;(try dsimp only at H);have A16:=aM A_;clear A_;obtain ⟨⟨t19_0,t19_1,t19_2⟩,A_,H_⟩:=oB.mp H;clear H;have H:=H_;clear H_;(try dsimp only at H);have A19:=aM A_;clear A_;have z_1:w_2.cell? ⟨g3,0,none⟩=some (.int .i64 a0_0):=(HO_2.out.cell 1 rfl 0 rfl);have z_2:w_2.cell? ⟨g3,1,none⟩=some (.slice A0_1 l0_1.length c0_1):=(HO_2.out.cell 1 rfl 1 rfl);have z_3:w_2.cell? ⟨g3,2,none⟩=some (.int .i64 a0_2):=(HO_2.out.cell 1 rfl 2 rfl)
  go_upto_region 4 with (first | ((with_reducible refine gate_callee (f:=22) rfl ?_);refine goesL_ (some 11) rfl rfl Try.func22 (by kernel_rfl) rfl #[.agg #[.int .i64 a0_0,.slice A0_1 l0_1.length c0_1,.int .i64 a0_2]] rfl ze_ ?_;(with_reducible refine (impl_IsDiagram.calls k a0_0 A0_1 c0_1 l0_1 a0_2 true _ zfg_ HC0_1.out A11.out).mono ?_);rintro e w_3 ⟨rfl,hb⟩;refine ⟨_,rfl,?_⟩;have ho:=HO_2.out.below hb;clear hb;have HO_3:=aM ho;clear ho;have z_4:w_3.cell? ⟨g3,0,none⟩=some (.int .i64 a0_0):=(HO_3.out.cell 1 rfl 0 rfl);have z_5:w_3.cell? ⟨g3,1,none⟩=some (.slice A0_1 l0_1.length c0_1):=(HO_3.out.cell 1 rfl 1 rfl);have z_6:w_3.cell? ⟨g3,2,none⟩=some (.int .i64 a0_2):=(HO_3.out.cell 1 rfl 2 rfl))|((with_reducible refine gate_callee (f:=56) rfl ?_);refine goesL_ (some 16) rfl rfl Try.func56 (by kernel_rfl) rfl #[.agg #[.int .i64 a0_0,.slice A0_1 l0_1.length c0_1,.int .i64 a0_2]] rfl ze_ ?_;(with_reducible refine (impl_tableOfDiagram.calls k a0_0 A0_1 c0_1 l0_1 a0_2 t16_0 t16_1 _ (by exact (Kd.C_below HR0_1.out HO_3.out.base)) HC0_1.out A16.out).mono ?_);rintro e w_4 ⟨x_16,rfl,ho1,hb⟩;refine ⟨_,rfl,?_⟩;have ho:=HO_3.out.add_row ho1 hb;clear ho1 hb;obtain ⟨A_16,c_16,e_16⟩:=ho.row_slice 0 rfl;subst e_16;have HO_4:=aM ho;clear ho)|((with_reducible refine gate_callee (f:=69) rfl ?_);refine goesL_ (some 19) rfl rfl Try.func69 (by kernel_rfl) rfl #[.agg #[.int .i64 t16_0,.slice A_16 t16_1.length c_16],.int .i64 a1,.int .i64 a2] rfl ze_ ?_;(with_reducible refine (impl_FixInput.calls k t16_0 A_16 c_16 t16_1 a1 a2 t19_0 t19_1 t19_2 _ (HO_4.out.row_reads 0 rfl).2.2 (HO_4.out.row_reads 0 rfl).2.1 A19.out).mono ?_);rintro e w_5 ⟨x_19,rfl,ho1,hb⟩;refine ⟨_,rfl,?_⟩;have ho:=HO_4.out.add_row ho1 hb;clear ho1 hb;obtain ⟨A_19,c_19,e_19⟩:=ho.row_slice 0 rfl;subst e_19;have HO_5:=aM ho;clear ho)|((with_reducible refine gate_dst (N:=8) rfl ?_);refine box_event ?hg (N:=8) ?hd (cs:=#[.int .i64 0,.slice none 0 0]) (t:=41) ?hr ?_;(case hd=>rfl);(case hg=>rfl);(case hr=>exact za_);intro g8 hg w_6 hbox hb;have HO_6:=aM (HO_5.out.add_box (T:=41) (cs:=#[.int .i64 0,.slice none 0 0]) hg hbox hb);clear hg hbox hb)|((with_reducible refine gate_store (t:=41) (p:=8) (v := .tmp 20) rfl ?_);refine Sep.own_store HO_6.out 0 g8 41 _ #[.int .i64 t19_0,.slice A_19 t19_1.length c_19] rfl rfl rfl 41 (.tmp 8) (.tmp 20) rfl rfl _ rfl rfl rfl (by kernel_rfl) (by simp [Value.oneCell']) ?_;intro w_7 ho;have HO_7:=aM ho;clear ho))
  by_cases c19_2:t19_2=true
  ·subst c19_2
   rw [if_pos rfl] at H;obtain ⟨⟨t26_0,t26_1,t26_2⟩,A_,H_⟩:=oB.mp H;clear H;have H:=H_;clear H_;(try dsimp only at H);have A26:=aM A_;clear A_
   injection H with H
   injection H with e_0 H
   injection H with e_1 H
   injection H with e_2 H
   subst e_0;subst e_1;subst e_2;subst H;have z_7:w_7.cell? ⟨g8,0,none⟩=some (.int .i64 t19_0):=(HO_7.out.cell 0 rfl 0 rfl);have z_8:w_7.cell? ⟨g8,1,none⟩=some (.slice A_19 t19_1.length c_19):=(HO_7.out.cell 0 rfl 1 rfl)
   go_wp2_with (first | ((with_reducible refine gate_callee (f:=57) rfl ?_);refine goesL_ (some 26) rfl rfl Try.func57 (by kernel_rfl) rfl #[.agg #[.int .i64 t19_0,.slice A_19 t19_1.length c_19]] rfl ze_ ?_;(with_reducible refine (impl_diagramOf.calls k t19_0 A_19 c_19 t19_1 t26_0 t26_1 t26_2 _ (HO_7.out.row_reads 1 rfl).2.2 (HO_7.out.row_reads 1 rfl).2.1 A26.out).mono ?_);rintro e w_8 ⟨x_26,rfl,ho1,hb⟩;refine ⟨_,rfl,?_⟩;have ho:=HO_7.out.add_row ho1 hb;clear ho1 hb;obtain ⟨A_26,c_26,e_26⟩:=ho.row_slice 0 rfl;subst e_26;have HO_8:=aM ho;clear ho)|((with_reducible refine gate_store (t:=28) (p:=6) (v := .tmp 26) rfl ?_);refine Sep.own_store HO_8.out 4 g6 28 _ #[.int .i64 t26_0,.slice A_26 t26_1.length c_26,.int .i64 t26_2] rfl rfl rfl 28 (.tmp 6) (.tmp 26) rfl rfl _ rfl rfl rfl (by kernel_rfl) (by simp [Value.oneCell']) ?_;intro w_9 ho;have HO_9:=aM ho;clear ho))
   (try simp only [Act.put,sI,s0,sS]);obtain ⟨f_,hf_⟩:=HO_9.out.2;(try simp only [Exit.inBlock,Exit.then])
   refine bodyPost_ret (results_list (rs:=[.cell 6 28,.tmp 7]) rfl (by simp) (.cell g6 28 #[.int .i64 t26_0,.slice A_26 t26_1.length c_26,.int .i64 t26_2] (0,0) _ rfl (HO_9.out.blk 4 rfl) Try.underlying28 rfl (by kernel_rfl) (.tmp .nil))) rfl ?_
   exact ⟨_,rfl,Kd.R_mono (hf_ 0 _ rfl) (fun k_ hk_=>trivial),HO_9.out.base⟩
  ·replace c19_2:=Bool.eq_false_iff.mpr c19_2
   subst c19_2;rw [if_neg (show ¬ (false=true) by decide)] at H
   injection H with H
   injection H with e_0 H
   injection H with e_1 H
   injection H with e_2 H
   subst e_0;subst e_1;subst e_2;subst H
   go_wp2_with (first | ((with_reducible refine gate_store (t:=28) (p:=6) (v := .tmp 24) rfl ?_);refine Sep.own_store HO_7.out 3 g6 28 _ #[.int .i64 0,.slice none 0 0,.int .i64 0] rfl rfl rfl 28 (.tmp 6) (.tmp 24) rfl rfl _ rfl rfl rfl (by kernel_rfl) (by simp [Value.oneCell']) ?_;intro w_8 ho;have HO_8:=aM ho;clear ho))
   (try simp only [Act.put,sI,s0,sS]);(try simp only [Exit.inBlock,Exit.then])
   refine bodyPost_ret (results_list (rs:=[.cell 6 28,.tmp 7]) rfl (by simp) (.cell g6 28 #[.int .i64 0,.slice none 0 0,.int .i64 0] (0,0) _ rfl (HO_8.out.blk 3 rfl) Try.underlying28 rfl (by kernel_rfl) (.tmp .nil))) rfl ?_
   exact ⟨_,rfl,Kd.R_nil _ _ _ _ _,HO_8.out.base⟩
 ·replace c11_0:=Bool.eq_false_iff.mpr c11_0
  subst c11_0;rw [if_neg (show ¬ (false=true) by decide)] at H
  injection H with H
  injection H with e_0 H
  injection H with e_1 H
  injection H with e_2 H
  subst e_0;subst e_1;subst e_2;subst H;have z_1:w_2.cell? ⟨g3,0,none⟩=some (.int .i64 a0_0):=(HO_2.out.cell 1 rfl 0 rfl);have z_2:w_2.cell? ⟨g3,1,none⟩=some (.slice A0_1 l0_1.length c0_1):=(HO_2.out.cell 1 rfl 1 rfl);have z_3:w_2.cell? ⟨g3,2,none⟩=some (.int .i64 a0_2):=(HO_2.out.cell 1 rfl 2 rfl)
  go_wp2_with (first | ((with_reducible refine gate_callee (f:=22) rfl ?_);refine goesL_ (some 11) rfl rfl Try.func22 (by kernel_rfl) rfl #[.agg #[.int .i64 a0_0,.slice A0_1 l0_1.length c0_1,.int .i64 a0_2]] rfl ze_ ?_;(with_reducible refine (impl_IsDiagram.calls k a0_0 A0_1 c0_1 l0_1 a0_2 false _ zfg_ HC0_1.out A11.out).mono ?_);rintro e w_3 ⟨rfl,hb⟩;refine ⟨_,rfl,?_⟩;have ho:=HO_2.out.below hb;clear hb;have HO_3:=aM ho;clear ho)|((with_reducible refine gate_store (t:=28) (p:=6) (v := .tmp 13) rfl ?_);refine Sep.own_store HO_3.out 0 g6 28 _ #[.int .i64 0,.slice none 0 0,.int .i64 0] rfl rfl rfl 28 (.tmp 6) (.tmp 13) rfl rfl _ rfl rfl rfl (by kernel_rfl) (by simp [Value.oneCell']) ?_;intro w_4 ho;have HO_4:=aM ho;clear ho))
  (try simp only [Act.put,sI,s0,sS]);(try simp only [Exit.inBlock,Exit.then])
  refine bodyPost_ret (results_list (rs:=[.cell 6 28,.tmp 7]) rfl (by simp) (.cell g6 28 #[.int .i64 0,.slice none 0 0,.int .i64 0] (0,0) _ rfl (HO_4.out.blk 0 rfl) Try.underlying28 rfl (by kernel_rfl) (.tmp .nil))) rfl ?_
  exact ⟨_,rfl,Kd.R_nil _ _ _ _ _,HO_4.out.base⟩
def spec_ttHas.f (k:Nat) (a0_0:Int) (l0_1:List Int) (a1:Int):Option (Bool):=(spec_ttGood.f k a0_0 l0_1).bind fun t267=>(if t267=true then ((spec_l1In.f a1 0 (wrap64 (a0_0 - 1))).bind fun t268=>(some t268)) else (some false))
theorem spec_ttHas.calls (k:Nat) (a0_0:Int) (A0_1:Option Addr) (c0_1:Nat) (l0_1:List Int) (a1:Int) (r:Bool) (w:World) (hr0_1:Kd.C (Kd.int .i64) w A0_1 l0_1.length l0_1) (hc0_1:l0_1.length≤c0_1) (h:spec_ttHas.f k a0_0 l0_1 a1=some r) :
  Calls Try.prog 115 #[.agg #[.int .i64 a0_0,.slice A0_1 l0_1.length c0_1],.int .i64 a1] w fun e w'=>e = .returned (.bool r)∧Below w.heap.size w w':=by
 have hu41:=Try.underlying41
 have HR0_1:=aM hr0_1
 have HC0_1:=aM hc0_1
 clear hr0_1 hc0_1
 have HB:=aM (Below.refl w.heap.size w)
 have H:((spec_ttGood.f k a0_0 l0_1).bind fun t267=>(if t267=true then ((spec_l1In.f a1 0 (wrap64 (a0_0 - 1))).bind fun t268=>(some t268)) else (some false)))=some r:=h
 clear h
 replace H:=oB.mp H
 obtain ⟨t267,A30,H⟩:=H
 replace H:(if t267=true then ((spec_l1In.f a1 0 (wrap64 (a0_0 - 1))).bind fun t268=>(some t268)) else (some false))=some r:=H
 have A3:=aM A30
 clear A30
 by_cases c4:t267=true
 ·subst c4
  have H1:((spec_l1In.f a1 0 (wrap64 (a0_0 - 1))).bind fun t268=>(some t268))=some r:=by rw [if_pos rfl] at H;exact H
  clear H;have H:=H1;clear H1;replace H:=oB.mp H;obtain ⟨t268,A50,H⟩:=H;replace H:(some t268)=some r:=H;have A5:=aM A50;clear A50;obtain rfl:=Option.some.inj H
  go_enter Try.func115,Try.ntmps115
  go_wp2_with (first | ((with_reducible refine gate_dst (N:=2) rfl ?_);refine box_event ?hg (N:=2) ?hd (cs:=#[.int .i64 a0_0,.slice A0_1 l0_1.length c0_1]) (t:=41) ?hr ?_;(case hd=>rfl);(case hg=>rfl);(case hr=>exact za_);intro gb266 hg w6 hbox hb;have n_:=z (below_step zb_ hb)<|z (hbox)<|z ((by rw [hg];exact (below_size zb_):w.heap.size≤gb266))<|z1 ((by rw [hg];exact (below_size zb_):w.heap.size≤gb266));clear HB;obtain ⟨HB,BK266,GW266,GE266⟩:=n_;clear hb hbox hg;obtain ⟨hcz7_0,hcz7_1,hfz7_0,hfz7_1⟩:=zk2 BK266.out)|((with_reducible refine gate_callee (f:=76) rfl ?_);refine goesL_ (some 6) rfl rfl Try.func76 (by kernel_rfl) rfl #[.agg #[.int .i64 a0_0,.slice A0_1 l0_1.length c0_1]] rfl zf_ ?_;(with_reducible refine (spec_ttGood.calls k a0_0 _ _ l0_1 true _ ?side1 ?side2 A3.out).mono ?_);(case side1=>exact zj_);(case side2=>exact HC0_1.out);rintro e w8 ⟨rfl,hb⟩;refine ⟨_,rfl,?_⟩;have n_:=z (blk_below (zb BK266.out) hb)<|z1 (below_step zja_ hb);clear BK266 HB;obtain ⟨BK266,HB⟩:=n_;clear hb;obtain ⟨hcz9_0,hcz9_1,hfz9_0,hfz9_1⟩:=zk2 BK266.out)|(go_at_call 101;(with_reducible refine (spec_l1In.calls a1 0 (wrap64 (a0_0 - 1)) t268 _ A5.out).mono ?_);rintro e w' ⟨rfl,⟨nd,rfl⟩⟩))
  go_ret
  exact ⟨zg_,zja_⟩
 ·replace c4:=Bool.eq_false_iff.mpr c4
  subst c4;have H1:(some false)=some r:=by rw [if_neg (show ¬ (false=true) by decide)] at H;exact H
  clear H;have H:=H1;clear H1;obtain rfl:=Option.some.inj H
  go_enter Try.func115,Try.ntmps115
  go_wp2_with (first | ((with_reducible refine gate_dst (N:=2) rfl ?_);refine box_event ?hg (N:=2) ?hd (cs:=#[.int .i64 a0_0,.slice A0_1 l0_1.length c0_1]) (t:=41) ?hr ?_;(case hd=>rfl);(case hg=>rfl);(case hr=>exact za_);intro gb266 hg w10 hbox hb;have n_:=z (below_step zb_ hb)<|z (hbox)<|z ((by rw [hg];exact (below_size zb_):w.heap.size≤gb266))<|z1 ((by rw [hg];exact (below_size zb_):w.heap.size≤gb266));clear HB;obtain ⟨HB,BK266,GW266,GE266⟩:=n_;clear hb hbox hg;obtain ⟨hcz11_0,hcz11_1,hfz11_0,hfz11_1⟩:=zk2 BK266.out)|((with_reducible refine gate_callee (f:=76) rfl ?_);refine goesL_ (some 6) rfl rfl Try.func76 (by kernel_rfl) rfl #[.agg #[.int .i64 a0_0,.slice A0_1 l0_1.length c0_1]] rfl zf_ ?_;(with_reducible refine (spec_ttGood.calls k a0_0 _ _ l0_1 false _ ?side1 ?side2 A3.out).mono ?_);(case side1=>exact zj_);(case side2=>exact HC0_1.out);rintro e w12 ⟨rfl,hb⟩;refine ⟨_,rfl,?_⟩;have n_:=z (blk_below (zb BK266.out) hb)<|z1 (below_step zja_ hb);clear BK266 HB;obtain ⟨BK266,HB⟩:=n_;clear hb))
  go_ret
  exact ⟨zg_,zja_⟩
mutual
def spec_FixInput.j0:Nat→Int→Int→Bool→Int→List Int→Option (Int×List Int×Bool)
 | 0,_,_,_,_,_=>none
 | k+1,x1,x2,x19,x270000,x270001=>if x19=true then (some (0,([]:List Int),false)) else (spec_FixInput.l0 k x1 x2 x270001 (x270001.length:Int) 0 (wrap64 (x270000 - 1)) ([]:List Int))
def spec_FixInput.l0:Nat→Int→Int→List Int→Int→Int→Int→List Int→Option (Int×List Int×Bool)
 | 0,_,_,_,_,_,_,_=>none
 | k+1,x1,x2,x26,x27,x28,x274000,x274001=>if x28<x27 then (if 0≤x28 then (if x28<(x26.length:Int) then ((spec_ttBit.f x28 x1).bind fun t275=>(if t275=x2 then (if x274001.length<17592186044416 then (spec_FixInput.l0 k x1 x2 x26 x27 (wrap64 (x28+1)) x274000 (x274001 ++ [rd x26 x28])) else (none)) else (spec_FixInput.l0 k x1 x2 x26 x27 (wrap64 (x28+1)) x274000 x274001))) else (none)) else (none)) else (some (x274000,x274001,true))
end
def spec_FixInput.f (k:Nat) (a0_0:Int) (l0_1:List Int) (a1:Int) (a2:Int):Option (Int×List Int×Bool):=(spec_ttHas.f k a0_0 l0_1 a1).bind fun t271=>(if t271=true then ((spec_l1In.f a2 0 1).bind fun t272=>(spec_FixInput.j0 k a1 a2 (!t272) a0_0 l0_1)) else (spec_FixInput.j0 k a1 a2 true a0_0 l0_1))
theorem spec_FixInput.calls (k:Nat) (a0_0:Int) (A0_1:Option Addr) (c0_1:Nat) (l0_1:List Int) (a1:Int) (a2:Int) (r1:Int) (r2:List Int) (r3:Bool) (w:World) (hr0_1:Kd.C (Kd.int .i64) w A0_1 l0_1.length l0_1) (hc0_1:l0_1.length≤c0_1) (h:spec_FixInput.f k a0_0 l0_1 a1 a2=some (r1,r2,r3)) :
  Calls Try.prog 70 #[.agg #[.int .i64 a0_0,.slice A0_1 l0_1.length c0_1],.int .i64 a1,.int .i64 a2] w fun e w' => ∃ v1_:Value,e = .returned (.tuple #[.agg #[.int .i64 r1,v1_],.bool r3])∧Kd.R (Kd.int .i64) 3 w' w.heap.size (fun _=>True) v1_ r2∧Below w.heap.size w w':=by
 have hu41:=Try.underlying41
 have HR0_1:=aM hr0_1
 have HC0_1:=aM hc0_1
 clear hr0_1 hc0_1
 have HB:=aM (Below.refl w.heap.size w)
 have H:((spec_ttHas.f k a0_0 l0_1 a1).bind fun t271=>(if t271=true then ((spec_l1In.f a2 0 1).bind fun t272=>(spec_FixInput.j0 k a1 a2 (!t272) a0_0 l0_1)) else (spec_FixInput.j0 k a1 a2 true a0_0 l0_1)))=some (r1,r2,r3):=h
 clear h
 have HC4:=aM H
 clear H
 go_enter Try.func70,Try.ntmps70
 go_upto_region 1 with (first | ((with_reducible refine gate_dst (N:=3) rfl ?_);refine box_event ?hg (N:=3) ?hd (cs:=#[.int .i64 a0_0,.slice A0_1 l0_1.length c0_1]) (t:=41) ?hr ?_;(case hd=>rfl);(case hg=>rfl);(case hr=>exact za_);intro gb269 hg w5 hbox hb;have n_:=z (below_step zb_ hb)<|z (hbox)<|z ((by rw [hg];exact (below_size zb_):w.heap.size≤gb269))<|z1 ((by rw [hg];exact (below_size zb_):w.heap.size≤gb269));clear HB;obtain ⟨HB,BK269,GW269,GE269⟩:=n_;clear hb hbox hg)|((with_reducible refine gate_dst (N:=6) rfl ?_);refine box_event ?hg (N:=6) ?hd (cs:=#[.int .i64 0,.slice none 0 0]) (t:=41) ?hr ?_;(case hd=>rfl);(case hg=>rfl);(case hr=>exact za_);intro gb270 hg w6 hbox hb;have n_:=z (blk_below (zb BK269.out) hb)<|z (below_step zbae_ hb)<|z (hbox)<|z ((by rw [hg];exact (below_size zbae_):w.heap.size≤gb270))<|z ((by rw [hg];exact (below_size zbae_):w.heap.size≤gb270))<|z ((by rw [hg];exact Nat.ne_of_lt (blk_lt (zb BK269.out)):gb269≠gb270))<|z1 ((by rw [hg];exact Nat.ne_of_gt (blk_lt (zb BK269.out)):gb270≠gb269));clear BK269 HB;obtain ⟨BK269,HB,BK270,GW270,GE270,NB269_270,NB270_269⟩:=n_;clear hb hbox hg))
 (try simp only [Act.put,sI,s0,sS])
 go_cut [19] (fun v19 wc => ∃ (kq:Nat) (x19_3:Bool),v19 = .bool x19_3∧Aside0 (spec_FixInput.j0 kq a1 a2 x19_3 a0_0 l0_1=some (r1,r2,r3))∧Aside0 (kq≤k)∧Aside0 (wc.heap[gb269]?=some (.cells #[.int .i64 a0_0,(.slice A0_1 l0_1.length c0_1)] 41 (0,0)))∧Aside0 (wc.heap[gb270]?=some (.cells #[.int .i64 0,(.slice none 0 0)] 41 (0,0)))∧Aside0 (Below w.heap.size w wc))
 case first =>
  have H:=HC4.out;clear HC4;replace H:=oB.mp H;obtain ⟨t271,A70,H⟩:=H;replace H:(if t271=true then ((spec_l1In.f a2 0 1).bind fun t272=>(spec_FixInput.j0 k a1 a2 (!t272) a0_0 l0_1)) else (spec_FixInput.j0 k a1 a2 true a0_0 l0_1))=some (r1,r2,r3):=H;have A7:=aM A70;clear A70
  by_cases c8:t271=true
  ·subst c8
   have H1:((spec_l1In.f a2 0 1).bind fun t272=>(spec_FixInput.j0 k a1 a2 (!t272) a0_0 l0_1))=some (r1,r2,r3):=by rw [if_pos rfl] at H;exact H
   clear H;have H:=H1;clear H1;replace H:=oB.mp H;obtain ⟨t272,A90,H⟩:=H;replace H:(spec_FixInput.j0 k a1 a2 (!t272) a0_0 l0_1)=some (r1,r2,r3):=H;have A9:=aM A90;clear A90;have H':=aM H;clear H;have hnb10:=NB269_270.out;have hnc10:=NB270_269.out;obtain ⟨hcz11_0,hcz11_1,hfz11_0,hfz11_1⟩:=zk2 BK269.out
   go_wp2_with (first | ((with_reducible refine gate_callee (f:=115) rfl ?_);refine goesL_ (some 13) rfl rfl Try.func115 (by kernel_rfl) rfl #[.agg #[.int .i64 a0_0,.slice A0_1 l0_1.length c0_1],.int .i64 a1] rfl zf_ ?_;(with_reducible refine (spec_ttHas.calls k a0_0 _ _ l0_1 a1 true _ ?side1 ?side2 A7.out).mono ?_);(case side1=>exact zj_);(case side2=>exact HC0_1.out);rintro e w12 ⟨rfl,hb⟩;refine ⟨_,rfl,?_⟩;have n_:=z (blk_below (zb BK269.out) hb)<|z (blk_below (zb BK270.out) hb)<|z1 (below_step zfc_ hb);clear BK269 BK270 HB;obtain ⟨BK269,BK270,HB⟩:=n_;clear hb)|(go_at_call 101;(with_reducible refine (spec_l1In.calls a2 0 1 t272 _ A9.out).mono ?_);rintro e w' ⟨rfl,⟨nd,rfl⟩⟩))
   go_meet
   case rel=>exact ⟨_,(!t272),zd_,H',⟨zbe_⟩,⟨zb BK269.out⟩,⟨zb BK270.out⟩,⟨zfc_⟩⟩
  ·replace c8:=Bool.eq_false_iff.mpr c8
   subst c8;have H1:(spec_FixInput.j0 k a1 a2 true a0_0 l0_1)=some (r1,r2,r3):=by rw [if_neg (show ¬ (false=true) by decide)] at H;exact H
   clear H;have H:=H1;clear H1;have H':=aM H;clear H;have hnb13:=NB269_270.out;have hnc13:=NB270_269.out;obtain ⟨hcz14_0,hcz14_1,hfz14_0,hfz14_1⟩:=zk2 BK269.out
   go_wp2_with (first | ((with_reducible refine gate_callee (f:=115) rfl ?_);refine goesL_ (some 13) rfl rfl Try.func115 (by kernel_rfl) rfl #[.agg #[.int .i64 a0_0,.slice A0_1 l0_1.length c0_1],.int .i64 a1] rfl zf_ ?_;(with_reducible refine (spec_ttHas.calls k a0_0 _ _ l0_1 a1 false _ ?side1 ?side2 A7.out).mono ?_);(case side1=>exact zj_);(case side2=>exact HC0_1.out);rintro e w15 ⟨rfl,hb⟩;refine ⟨_,rfl,?_⟩;have n_:=z (blk_below (zb BK269.out) hb)<|z (blk_below (zb BK270.out) hb)<|z1 (below_step zfc_ hb);clear BK269 BK270 HB;obtain ⟨BK269,BK270,HB⟩:=n_;clear hb))
   go_meet
   case rel=>exact ⟨_,(true),zd_,H',⟨zbe_⟩,⟨zb BK269.out⟩,⟨zb BK270.out⟩,⟨zfc_⟩⟩
 case rest =>
  clear HC4;obtain ⟨kq,x19_3,rfl,HA,HJ3,BK269,BK270,HB⟩:=hcut
  cases kq with
  | zero=>exact absurd HA.out (by simp [spec_FixInput.j0])
  | succ kj3 =>
   have H:=HA.out;clear HA
   simp only [spec_FixInput.j0] at H
   by_cases c16:x19_3=true
   ·subst c16
    have H1:(some (0,([]:List Int),false))=some (r1,r2,r3):=by rw [if_pos rfl] at H;exact H
    clear H;have H:=H1;clear H1
    simp only [Option.some.injEq,Prod.mk.injEq] at H
    obtain ⟨rfl,rfl,rfl⟩:=H;have hnb17:=NB270_269.out;have hnc17:=NB269_270.out;obtain ⟨hcz18_0,hcz18_1,hfz18_0,hfz18_1⟩:=zk2 BK270.out
    go_wp2
    refine bodyPost_ret (results_ct rfl _ _ gb270 41 #[.int .i64 0,.slice none 0 0] (0,0) _ rfl (by refine zb ?_;refine blk_put (cs:=#[.int .i64 0,.slice none 0 0]) ?_ 1 _ rfl;refine zb ?_;refine blk_put (cs:=#[.int .i64 0,.slice none 0 0]) ?_ 0 _ rfl;refine zb ?_;exact BK270.out) Try.underlying41 rfl (by kernel_rfl)) rfl ?_
    exact ⟨_,zg_,zdd_,zfc_⟩
   ·replace c16:=Bool.eq_false_iff.mpr c16
    subst c16;have H1:(spec_FixInput.l0 kj3 a1 a2 l0_1 (l0_1.length:Int) 0 (wrap64 (a0_0 - 1)) ([]:List Int))=some (r1,r2,r3):=by rw [if_neg (show ¬ (false=true) by decide)] at H;exact H
    clear H;have H:=H1;clear H1;have H':=aM H;clear H;have hnb19:=NB269_270.out;have hnc19:=NB270_269.out;obtain ⟨hcz20_0,hcz20_1,hfz20_0,hfz20_1⟩:=zk2 BK269.out
    go_wp2_with (first | ((with_reducible refine gate_dst (N:=8) rfl ?_);refine box_event ?hg (N:=8) ?hd (cs:=#[.int .i64 0,.slice none 0 0]) (t:=41) ?hr ?_;(case hd=>rfl);(case hg=>rfl);(case hr=>exact za_);intro gb273 hg w21 hbox hb;have n_:=z (blk_below (zb BK269.out) hb)<|z (blk_below (zb BK270.out) hb)<|z (below_step zfc_ hb)<|z (hbox)<|z ((by rw [hg];exact (below_size zfc_):w.heap.size≤gb273))<|z ((by rw [hg];exact (below_size zfc_):w.heap.size≤gb273))<|z ((by rw [hg];exact Nat.ne_of_lt (blk_lt (zb BK269.out)):gb269≠gb273))<|z ((by rw [hg];exact Nat.ne_of_gt (blk_lt (zb BK269.out)):gb273≠gb269))<|z ((by rw [hg];exact Nat.ne_of_lt (blk_lt (zb BK270.out)):gb270≠gb273))<|z1 ((by rw [hg];exact Nat.ne_of_gt (blk_lt (zb BK270.out)):gb273≠gb270));clear BK269 BK270 HB;obtain ⟨BK269,BK270,HB,BK273,GW273,GE273,NB269_273,NB273_269,NB270_273,NB273_270⟩:=n_;clear hb hbox hg;have hnb22:=NB273_269.out;have hnc22:=NB269_273.out;have hnb23:=NB273_270.out;have hnc23:=NB270_273.out;obtain ⟨hcz24_0,hcz24_1,hfz24_0,hfz24_1⟩:=zk2 BK273.out;obtain ⟨hcz25_0,hcz25_1,hfz25_0,hfz25_1⟩:=zk2 BK269.out))
    go_loopg [28] kj3 (fun kq v28 w' => ∃ (x28_2:Int) (x274001_2:List Int) (u274001:Value),v28 = .int .i64 x28_2∧Aside0 (spec_FixInput.l0 kq a1 a2 l0_1 (l0_1.length:Int) x28_2 (wrap64 (a0_0 - 1)) x274001_2=some (r1,r2,r3))∧Aside0 (kq≤kj3)∧Aside0 (Kd.R (Kd.int .i64) 3 w' w.heap.size (fun _=>True) u274001 x274001_2)∧Aside0 (w'.heap[gb269]?=some (.cells #[.int .i64 a0_0,(.slice A0_1 l0_1.length c0_1)] 41 (0,0)))∧Aside0 (w'.heap[gb270]?=some (.cells #[.int .i64 0,(.slice none 0 0)] 41 (0,0)))∧Aside0 (w'.heap[gb273]?=some (.cells #[.int .i64 (wrap64 (a0_0 - 1)),u274001] 41 (0,0)))∧Aside0 (Below w.heap.size w w'))
    case atStart=>exact ⟨(0),(([]:List Int)),(.slice none 0 0),zd_,H',⟨Nat.le_refl _⟩,⟨zdd_⟩,⟨by refine zb ?_;refine blk_far ?_ NB269_273.out _;refine zb ?_;refine blk_far ?_ NB269_273.out _;refine zb ?_;exact BK269.out⟩,⟨by refine zb ?_;refine blk_far ?_ NB270_273.out _;refine zb ?_;refine blk_far ?_ NB270_273.out _;refine zb ?_;exact BK270.out⟩,⟨by refine zb ?_;refine blk_put (cs:=#[.int .i64 (wrap64 (a0_0 - 1)),.slice none 0 0]) ?_ 1 _ rfl;refine zb ?_;refine blk_put (cs:=#[.int .i64 0,.slice none 0 0]) ?_ 0 _ rfl;refine zb ?_;exact BK273.out⟩,⟨zfh_⟩⟩
    case round =>
     clear H';(try clear hcz20_0);(try clear hcz20_1);(try clear hcz24_0);(try clear hcz24_1);(try clear hcz25_0);(try clear hcz25_1);(try clear hfz20_0);(try clear hfz20_1);(try clear hfz24_0);(try clear hfz24_1);(try clear hfz25_0);(try clear hfz25_1);obtain ⟨x28_2,x274001_2,u274001,rfl,HA,HK2,HO_274001,BK269,BK270,BK273,HB⟩:=hrel
     cases gk with
     | zero=>exact absurd HA.out (by simp [spec_FixInput.l0])
     | succ k2 =>
      have H:=HA.out;clear HA
      simp only [spec_FixInput.l0] at H
      by_cases c26:x28_2<(l0_1.length:Int)
      ·rw [if_pos c26] at H
       have c26b0:=decide_eq_true c26;clear c26
       by_cases c27:0≤x28_2
       ·rw [if_pos c27] at H
        have c27b0:=decide_eq_true c27;clear c27
        by_cases c28:x28_2<(l0_1.length:Int)
        ·rw [if_pos c28] at H
         have c28b0:=decide_eq_true c28;clear c28;replace H:=oB.mp H;obtain ⟨t275,A290,H⟩:=H;replace H:(if t275=a2 then (if x274001_2.length<17592186044416 then (spec_FixInput.l0 k2 a1 a2 l0_1 (l0_1.length:Int) (wrap64 (x28_2+1)) (wrap64 (a0_0 - 1)) (x274001_2 ++ [rd l0_1 x28_2])) else (none)) else (spec_FixInput.l0 k2 a1 a2 l0_1 (l0_1.length:Int) (wrap64 (x28_2+1)) (wrap64 (a0_0 - 1)) x274001_2))=some (r1,r2,r3):=H;have A29:=aM A290;clear A290
         by_cases c30:t275=a2
         ·rw [if_pos c30] at H
          have c30b0:=beq_iff_eq.mpr c30;have c30b1:=bne_eq_false_iff_eq.mpr c30;clear c30
          by_cases c31:x274001_2.length<17592186044416
          ·rw [if_pos c31] at H
           have LMc31:=aM c31;clear c31;obtain ⟨y276,hy276⟩:∃ y_:List Int,y_=(x274001_2 ++ [rd l0_1 x28_2]):=⟨_,rfl⟩;replace H:(spec_FixInput.l0 k2 a1 a2 l0_1 (l0_1.length:Int) (wrap64 (x28_2+1)) (wrap64 (a0_0 - 1)) y276)=some (r1,r2,r3):=q3y_ hy276 H
           have Ny276:=aM hy276;clear hy276;have H':=aM H;clear H;have p274:0≤(x28_2:Int):=of_decide_eq_true zc_;have q274:x28_2<(l0_1.length:Int):=of_decide_eq_true zc_;obtain ⟨ad274,e274,hx274_0⟩:=Kd.at_int HR0_1.out x28_2 p274 q274
           cases e274
           (try (replace hx274_0:=q3h_ HB.out hx274_0));replace p274:=eq_true p274;replace q274:=eq_true q274
           go_wp2_with (first | ((with_reducible refine gate_callee (f:=112) rfl ?_);refine goesL_ (some 35) rfl rfl Try.func112 (by kernel_rfl) rfl #[.int .i64 x28_2,.int .i64 a1] rfl zf_ ?_;(with_reducible refine (spec_ttBit.calls x28_2 a1 t275 _ A29.out).mono ?_);rintro e w' ⟨rfl,⟨nd,rfl⟩⟩;refine ⟨_,rfl,?_⟩;(try (rw [drewN_self wr];generalize hq_:World.drewN wr _=wr;have n0_:Aside0 (Kd.R (Kd.int .i64) 3 wr w.heap.size (fun _=>True) u274001 x274001_2):=⟨by rw [← hq_];exact (zr HO_274001.out)⟩;have n1_:Aside0 (wr.heap[gb269]?=some (.cells #[.int .i64 a0_0,.slice (some ad274) l0_1.length c0_1] 41 (0,0))):=⟨by rw [← hq_];exact (zb BK269.out)⟩;have n2_:Aside0 (wr.heap[gb270]?=some (.cells #[.int .i64 0,.slice none 0 0] 41 (0,0))):=⟨by rw [← hq_];exact (zb BK270.out)⟩;have n3_:Aside0 (wr.heap[gb273]?=some (.cells #[.int .i64 (wrap64 (a0_0 - 1)),u274001] 41 (0,0))):=⟨by rw [← hq_];exact (zb BK273.out)⟩;have n4_:Aside0 (Below w.heap.size w wr):=⟨by rw [← hq_];exact zfh_⟩;clear HO_274001 BK269 BK270 BK273 HB hq_;have HO_274001:=n0_;have BK269:=n1_;have BK270:=n2_;have BK273:=n3_;have HB:=n4_;clear n0_ n1_ n2_ n3_ n4_));have hnb32:=NB273_269.out;have hnc32:=NB269_273.out;have hnb33:=NB273_270.out;have hnc33:=NB270_273.out;obtain ⟨hcz34_0,hcz34_1,hfz34_0,hfz34_1⟩:=zk2 BK273.out)|((with_reducible refine gate_builtin (b := .append) (xs:=#[.tmp 39,.tmp 41]) rfl ?_);at_builtin;refine Kd.R_append (Kd.int .i64) (w0:=w) w.heap.size rfl (.tmp 39) (.tmp 41) 39 3 (.int .i64 0) 8 rfl Try.underlying39 info3 rfl (by decide) (by omega) u274001 x274001_2 (rd l0_1 x28_2) [.int .i64 (rd l0_1 x28_2)] (fun _=>True) (fun _=>False) rfl rfl ?aP (fun _ hk=>hk.elim) ?aF ?aO ?aB ?aS ?aL ?_;(case aP=>exact rfl);(case aB=>exact zfh_);(case aF=>exact zdi_);(case aO=>exact (zr HO_274001.out));(case aS=>exact (below_size zfh_));(case aL=>have:=LMc31.out;omega);intro v277 w35 ho hb hg hat;rw [← Ny276.out] at ho;have n_:=z (blk_grown (g:=gb269) (o := .cells #[.int .i64 a0_0,.slice (some ad274) l0_1.length c0_1] 41 (0,0)) (zb BK269.out) hg (Kd.R_ne HO_274001.out BK269.out (by decide)))<|z (blk_grown (g:=gb270) (o := .cells #[.int .i64 0,.slice none 0 0] 41 (0,0)) (zb BK270.out) hg (Kd.R_ne HO_274001.out BK270.out (by decide)))<|z (blk_grown (g:=gb273) (o := .cells #[.int .i64 (wrap64 (a0_0 - 1)),u274001] 41 (0,0)) (zb BK273.out) hg (Kd.R_ne HO_274001.out BK273.out (by decide)))<|z (hb)<|z1 (ho);clear BK269 BK270 BK273 HB HO_274001;obtain ⟨BK269,BK270,BK273,HB,HO278⟩:=n_;clear ho hb hg hat;obtain ⟨Ao36,co36,eo36⟩:=Kd.R_slice HO278.out;subst eo36;obtain ⟨hcz37_0,hcz37_1,hfz37_0,hfz37_1⟩:=zk2 BK273.out))
           go_roundg k2
           case measure=>have:=HJ3.out;have:=HK2.out;omega
           case rel=>exact ⟨(wrap64 (x28_2+1)),(y276),(.slice Ao36 y276.length co36),zd_,H',⟨zhi_⟩,⟨by refine zr ?_;exact Kd.R_mono (Kd.R_far (p:=⟨gb273,1,none⟩) (Kd.R_types HO278.out BK273.out (by decide)) (fun _ hk=>hk.2) (.slice Ao36 y276.length co36)) (fun _ hk=>trivial)⟩,⟨by refine zb ?_;refine blk_far ?_ NB269_273.out _;refine zb ?_;exact BK269.out⟩,⟨by refine zb ?_;refine blk_far ?_ NB270_273.out _;refine zb ?_;exact BK270.out⟩,⟨by refine zb ?_;refine blk_put (cs:=#[.int .i64 (wrap64 (a0_0 - 1)),u274001]) ?_ 1 _ rfl;refine zb ?_;exact BK273.out⟩,⟨zfh_⟩⟩
          ·rw [if_neg c31] at H
           exact q3n_ H
         ·rw [if_neg c30] at H
          have c30b0:=beq_eq_false_iff_ne.mpr c30;have c30b1:=bne_iff_ne.mpr c30;have H':=aM H;clear H;have p274:0≤(x28_2:Int):=of_decide_eq_true zc_;have q274:x28_2<(l0_1.length:Int):=of_decide_eq_true zc_;obtain ⟨ad274,e274,hx274_0⟩:=Kd.at_int HR0_1.out x28_2 p274 q274
          cases e274
          (try (replace hx274_0:=q3h_ HB.out hx274_0));replace p274:=eq_true p274;replace q274:=eq_true q274
          go_wp2_with (first | ((with_reducible refine gate_callee (f:=112) rfl ?_);refine goesL_ (some 35) rfl rfl Try.func112 (by kernel_rfl) rfl #[.int .i64 x28_2,.int .i64 a1] rfl zf_ ?_;(with_reducible refine (spec_ttBit.calls x28_2 a1 t275 _ A29.out).mono ?_);rintro e w' ⟨rfl,⟨nd,rfl⟩⟩;refine ⟨_,rfl,?_⟩))
          go_roundg k2
          case measure=>have:=HJ3.out;have:=HK2.out;omega
          case rel=>exact ⟨(wrap64 (x28_2+1)),(x274001_2),(u274001),zd_,H',⟨zhi_⟩,⟨zr HO_274001.out⟩,⟨zb BK269.out⟩,⟨zb BK270.out⟩,⟨zb BK273.out⟩,⟨zfh_⟩⟩
        ·rw [if_neg c28] at H
         exact q3n_ H
       ·rw [if_neg c27] at H
        exact q3n_ H
      ·rw [if_neg c26] at H
       have c26b0:=decide_eq_false c26;clear c26
       simp only [Option.some.injEq,Prod.mk.injEq] at H
       obtain ⟨rfl,rfl,rfl⟩:=H;have hnb38:=NB273_269.out;have hnc38:=NB269_273.out;have hnb39:=NB273_270.out;have hnc39:=NB270_273.out;obtain ⟨hcz40_0,hcz40_1,hfz40_0,hfz40_1⟩:=zk2 BK273.out;have hnb41:=NB270_269.out;have hnc41:=NB269_270.out;obtain ⟨hcz42_0,hcz42_1,hfz42_0,hfz42_1⟩:=zk2 BK270.out;obtain ⟨Ao43,co43,eo43⟩:=Kd.R_slice HO_274001.out;subst eo43
       go_wp2
       refine bodyPost_ret (results_ct rfl _ _ gb270 41 #[.int .i64 (wrap64 (a0_0 - 1)),.slice Ao43 x274001_2.length co43] (0,0) _ rfl (by refine zb ?_;refine blk_put (cs:=#[.int .i64 (wrap64 (a0_0 - 1)),.slice none 0 0]) ?_ 1 _ rfl;refine zb ?_;refine blk_put (cs:=#[.int .i64 0,.slice none 0 0]) ?_ 0 _ rfl;refine zb ?_;exact BK270.out) Try.underlying41 rfl (by kernel_rfl)) rfl ?_
       exact ⟨_,zg_,by refine zr ?_;exact Kd.R_mono (Kd.R_far (p:=⟨gb270,1,none⟩) (Kd.R_far (p:=⟨gb270,0,none⟩) (Kd.R_types HO_274001.out BK270.out (by decide)) (fun _ hk=>hk.2) (.int .i64 (wrap64 (a0_0 - 1)))) (fun _ hk=>hk.2) (.slice Ao43 x274001_2.length co43)) (fun _ hk=>trivial),zfh_⟩
def spec_FixDiagram.f (k:Nat) (a0_0:Int) (l0_1:List (S93)) (a0_2:Int) (a1:Int) (a2:Int):Option (Int×(List (S93))×Int×Bool):=(spec_ddGood.f k a0_0 l0_1 a0_2).bind fun b11=>if b11=true then ((spec_ddTable.f k a0_0 l0_1 a0_2).bind fun b16=>(spec_FixInput.f k b16.1 b16.2 a1 a2).bind fun b19=>if b19.2.2=true then ((spec_ddMake.f k b19.1 b19.2.1).bind fun b26=>some (b26.1,b26.2.1,b26.2.2,true)) else (some (0,[],0,false))) else (some (0,[],0,false))
open Go.Proofs.Ytlnhpkjioppbiaa.Sep in
set_option maxHeartbeats 32000000 in
set_option maxRecDepth 100000 in
theorem spec_FixDiagram.calls (k:Nat) (a0_0:Int) (A0_1:Option Addr) (c0_1:Nat) (l0_1:List (S93)) (a0_2:Int) (a1:Int) (a2:Int) (r1:Int) (r2:List (S93)) (r3:Int) (r4:Bool) (w:World) (hr0_1:Kd.C k93 w A0_1 l0_1.length l0_1) (hc0_1:l0_1.length≤c0_1) (h:spec_FixDiagram.f k a0_0 l0_1 a0_2 a1 a2=some (r1,r2,r3,r4)) :
  Calls Try.prog 21 #[.agg #[.int .i64 a0_0,.slice A0_1 l0_1.length c0_1,.int .i64 a0_2],.int .i64 a1,.int .i64 a2] w fun e w' => ∃ v1_:Value,e = .returned (.tuple #[.agg #[.int .i64 r1,v1_,.int .i64 r3],.bool r4])∧Kd.R k93 93 w' w.heap.size (fun _=>True) v1_ r2∧Below w.heap.size w w':=by
 have HR0_1:=aM hr0_1
 have HC0_1:=aM hc0_1
 clear hr0_1 hc0_1
 unfold spec_FixDiagram.f at h
 have H:=h
 clear h
 obtain ⟨t11,A_,H_⟩:=oB.mp H
 clear H
 have H:=H_
 clear H_
 (try dsimp only at H)
 have A11:=aM A_
 clear A_
 go_enter Try.func21,Try.ntmps21
 go_upto_region 1 with (first | ((with_reducible refine gate_dst (N:=3) rfl ?_);refine box_event ?hg (N:=3) ?hd (cs:=#[.int .i64 a0_0,.slice A0_1 l0_1.length c0_1,.int .i64 a0_2]) (t:=28) ?hr ?_;(case hd=>rfl);(case hg=>rfl);(case hr=>exact za_);intro g3 hg w_1 hbox hb;have HO_1:=aM ((Sep.Own.nil w).add_box (T:=28) (cs:=#[.int .i64 a0_0,.slice A0_1 l0_1.length c0_1,.int .i64 a0_2]) hg hbox hb);clear hg hbox hb)|((with_reducible refine gate_dst (N:=6) rfl ?_);refine box_event ?hg (N:=6) ?hd (cs:=#[.int .i64 0,.slice none 0 0,.int .i64 0]) (t:=28) ?hr ?_;(case hd=>rfl);(case hg=>rfl);(case hr=>exact za_);intro g6 hg w_2 hbox hb;have HO_2:=aM (HO_1.out.add_box (T:=28) (cs:=#[.int .i64 0,.slice none 0 0,.int .i64 0]) hg hbox hb);clear hg hbox hb))
 by_cases c11_0:t11=true
 ·subst c11_0
  rw [if_pos rfl] at H;obtain ⟨⟨t16_0,t16_1⟩,A_,H_⟩:=oB.mp H;clear H;have H:=H_;clear H_;(try dsimp only at H);have A16:=aM A_;clear A_;obtain ⟨⟨t19_0,t19_1,t19_2⟩,A_,H_⟩:=oB.mp H;clear H;have H:=H_;clear H_;(try dsimp only at H);have A19:=aM A_;clear A_;have z_1:w_2.cell? ⟨g3,0,none⟩=some (.int .i64 a0_0):=(HO_2.out.cell 1 rfl 0 rfl);have z_2:w_2.cell? ⟨g3,1,none⟩=some (.slice A0_1 l0_1.length c0_1):=(HO_2.out.cell 1 rfl 1 rfl);have z_3:w_2.cell? ⟨g3,2,none⟩=some (.int .i64 a0_2):=(HO_2.out.cell 1 rfl 2 rfl)
  go_upto_region 4 with (first | ((with_reducible refine gate_callee (f:=51) rfl ?_);refine goesL_ (some 11) rfl rfl Try.func51 (by kernel_rfl) rfl #[.agg #[.int .i64 a0_0,.slice A0_1 l0_1.length c0_1,.int .i64 a0_2]] rfl ze_ ?_;(with_reducible refine (spec_ddGood.calls k a0_0 A0_1 c0_1 l0_1 a0_2 true _ zfg_ HC0_1.out A11.out).mono ?_);rintro e w_3 ⟨rfl,hb⟩;refine ⟨_,rfl,?_⟩;have ho:=HO_2.out.below hb;clear hb;have HO_3:=aM ho;clear ho;have z_4:w_3.cell? ⟨g3,0,none⟩=some (.int .i64 a0_0):=(HO_3.out.cell 1 rfl 0 rfl);have z_5:w_3.cell? ⟨g3,1,none⟩=some (.slice A0_1 l0_1.length c0_1):=(HO_3.out.cell 1 rfl 1 rfl);have z_6:w_3.cell? ⟨g3,2,none⟩=some (.int .i64 a0_2):=(HO_3.out.cell 1 rfl 2 rfl))|((with_reducible refine gate_callee (f:=53) rfl ?_);refine goesL_ (some 16) rfl rfl Try.func53 (by kernel_rfl) rfl #[.agg #[.int .i64 a0_0,.slice A0_1 l0_1.length c0_1,.int .i64 a0_2]] rfl ze_ ?_;(with_reducible refine (spec_ddTable.calls k a0_0 A0_1 c0_1 l0_1 a0_2 t16_0 t16_1 _ (by exact (Kd.C_below HR0_1.out HO_3.out.base)) HC0_1.out A16.out).mono ?_);rintro e w_4 ⟨x_16,rfl,ho1,hb⟩;refine ⟨_,rfl,?_⟩;have ho:=HO_3.out.add_row ho1 hb;clear ho1 hb;obtain ⟨A_16,c_16,e_16⟩:=ho.row_slice 0 rfl;subst e_16;have HO_4:=aM ho;clear ho)|((with_reducible refine gate_callee (f:=70) rfl ?_);refine goesL_ (some 19) rfl rfl Try.func70 (by kernel_rfl) rfl #[.agg #[.int .i64 t16_0,.slice A_16 t16_1.length c_16],.int .i64 a1,.int .i64 a2] rfl ze_ ?_;(with_reducible refine (spec_FixInput.calls k t16_0 A_16 c_16 t16_1 a1 a2 t19_0 t19_1 t19_2 _ (HO_4.out.row_reads 0 rfl).2.2 (HO_4.out.row_reads 0 rfl).2.1 A19.out).mono ?_);rintro e w_5 ⟨x_19,rfl,ho1,hb⟩;refine ⟨_,rfl,?_⟩;have ho:=HO_4.out.add_row ho1 hb;clear ho1 hb;obtain ⟨A_19,c_19,e_19⟩:=ho.row_slice 0 rfl;subst e_19;have HO_5:=aM ho;clear ho)|((with_reducible refine gate_dst (N:=8) rfl ?_);refine box_event ?hg (N:=8) ?hd (cs:=#[.int .i64 0,.slice none 0 0]) (t:=41) ?hr ?_;(case hd=>rfl);(case hg=>rfl);(case hr=>exact za_);intro g8 hg w_6 hbox hb;have HO_6:=aM (HO_5.out.add_box (T:=41) (cs:=#[.int .i64 0,.slice none 0 0]) hg hbox hb);clear hg hbox hb)|((with_reducible refine gate_store (t:=41) (p:=8) (v := .tmp 20) rfl ?_);refine Sep.own_store HO_6.out 0 g8 41 _ #[.int .i64 t19_0,.slice A_19 t19_1.length c_19] rfl rfl rfl 41 (.tmp 8) (.tmp 20) rfl rfl _ rfl rfl rfl (by kernel_rfl) (by simp [Value.oneCell']) ?_;intro w_7 ho;have HO_7:=aM ho;clear ho))
  by_cases c19_2:t19_2=true
  ·subst c19_2
   rw [if_pos rfl] at H;obtain ⟨⟨t26_0,t26_1,t26_2⟩,A_,H_⟩:=oB.mp H;clear H;have H:=H_;clear H_;(try dsimp only at H);have A26:=aM A_;clear A_
   injection H with H
   injection H with e_0 H
   injection H with e_1 H
   injection H with e_2 H
   subst e_0;subst e_1;subst e_2;subst H;have z_7:w_7.cell? ⟨g8,0,none⟩=some (.int .i64 t19_0):=(HO_7.out.cell 0 rfl 0 rfl);have z_8:w_7.cell? ⟨g8,1,none⟩=some (.slice A_19 t19_1.length c_19):=(HO_7.out.cell 0 rfl 1 rfl)
   go_wp2_with (first | ((with_reducible refine gate_callee (f:=54) rfl ?_);refine goesL_ (some 26) rfl rfl Try.func54 (by kernel_rfl) rfl #[.agg #[.int .i64 t19_0,.slice A_19 t19_1.length c_19]] rfl ze_ ?_;(with_reducible refine (spec_ddMake.calls k t19_0 A_19 c_19 t19_1 t26_0 t26_1 t26_2 _ (HO_7.out.row_reads 1 rfl).2.2 (HO_7.out.row_reads 1 rfl).2.1 A26.out).mono ?_);rintro e w_8 ⟨x_26,rfl,ho1,hb⟩;refine ⟨_,rfl,?_⟩;have ho:=HO_7.out.add_row ho1 hb;clear ho1 hb;obtain ⟨A_26,c_26,e_26⟩:=ho.row_slice 0 rfl;subst e_26;have HO_8:=aM ho;clear ho)|((with_reducible refine gate_store (t:=28) (p:=6) (v := .tmp 26) rfl ?_);refine Sep.own_store HO_8.out 4 g6 28 _ #[.int .i64 t26_0,.slice A_26 t26_1.length c_26,.int .i64 t26_2] rfl rfl rfl 28 (.tmp 6) (.tmp 26) rfl rfl _ rfl rfl rfl (by kernel_rfl) (by simp [Value.oneCell']) ?_;intro w_9 ho;have HO_9:=aM ho;clear ho))
   (try simp only [Act.put,sI,s0,sS]);obtain ⟨f_,hf_⟩:=HO_9.out.2;(try simp only [Exit.inBlock,Exit.then])
   refine bodyPost_ret (results_list (rs:=[.cell 6 28,.tmp 7]) rfl (by simp) (.cell g6 28 #[.int .i64 t26_0,.slice A_26 t26_1.length c_26,.int .i64 t26_2] (0,0) _ rfl (HO_9.out.blk 4 rfl) Try.underlying28 rfl (by kernel_rfl) (.tmp .nil))) rfl ?_
   exact ⟨_,rfl,Kd.R_mono (hf_ 0 _ rfl) (fun k_ hk_=>trivial),HO_9.out.base⟩
  ·replace c19_2:=Bool.eq_false_iff.mpr c19_2
   subst c19_2;rw [if_neg (show ¬ (false=true) by decide)] at H
   injection H with H
   injection H with e_0 H
   injection H with e_1 H
   injection H with e_2 H
   subst e_0;subst e_1;subst e_2;subst H
   go_wp2_with (first | ((with_reducible refine gate_store (t:=28) (p:=6) (v := .tmp 24) rfl ?_);refine Sep.own_store HO_7.out 3 g6 28 _ #[.int .i64 0,.slice none 0 0,.int .i64 0] rfl rfl rfl 28 (.tmp 6) (.tmp 24) rfl rfl _ rfl rfl rfl (by kernel_rfl) (by simp [Value.oneCell']) ?_;intro w_8 ho;have HO_8:=aM ho;clear ho))
   (try simp only [Act.put,sI,s0,sS]);(try simp only [Exit.inBlock,Exit.then])
   refine bodyPost_ret (results_list (rs:=[.cell 6 28,.tmp 7]) rfl (by simp) (.cell g6 28 #[.int .i64 0,.slice none 0 0,.int .i64 0] (0,0) _ rfl (HO_8.out.blk 3 rfl) Try.underlying28 rfl (by kernel_rfl) (.tmp .nil))) rfl ?_
   exact ⟨_,rfl,Kd.R_nil _ _ _ _ _,HO_8.out.base⟩
 ·replace c11_0:=Bool.eq_false_iff.mpr c11_0
  subst c11_0;rw [if_neg (show ¬ (false=true) by decide)] at H
  injection H with H
  injection H with e_0 H
  injection H with e_1 H
  injection H with e_2 H
  subst e_0;subst e_1;subst e_2;subst H;have z_1:w_2.cell? ⟨g3,0,none⟩=some (.int .i64 a0_0):=(HO_2.out.cell 1 rfl 0 rfl);have z_2:w_2.cell? ⟨g3,1,none⟩=some (.slice A0_1 l0_1.length c0_1):=(HO_2.out.cell 1 rfl 1 rfl);have z_3:w_2.cell? ⟨g3,2,none⟩=some (.int .i64 a0_2):=(HO_2.out.cell 1 rfl 2 rfl)
  go_wp2_with (first | ((with_reducible refine gate_callee (f:=51) rfl ?_);refine goesL_ (some 11) rfl rfl Try.func51 (by kernel_rfl) rfl #[.agg #[.int .i64 a0_0,.slice A0_1 l0_1.length c0_1,.int .i64 a0_2]] rfl ze_ ?_;(with_reducible refine (spec_ddGood.calls k a0_0 A0_1 c0_1 l0_1 a0_2 false _ zfg_ HC0_1.out A11.out).mono ?_);rintro e w_3 ⟨rfl,hb⟩;refine ⟨_,rfl,?_⟩;have ho:=HO_2.out.below hb;clear hb;have HO_3:=aM ho;clear ho)|((with_reducible refine gate_store (t:=28) (p:=6) (v := .tmp 13) rfl ?_);refine Sep.own_store HO_3.out 0 g6 28 _ #[.int .i64 0,.slice none 0 0,.int .i64 0] rfl rfl rfl 28 (.tmp 6) (.tmp 13) rfl rfl _ rfl rfl rfl (by kernel_rfl) (by simp [Value.oneCell']) ?_;intro w_4 ho;have HO_4:=aM ho;clear ho))
  (try simp only [Act.put,sI,s0,sS]);(try simp only [Exit.inBlock,Exit.then])
  refine bodyPost_ret (results_list (rs:=[.cell 6 28,.tmp 7]) rfl (by simp) (.cell g6 28 #[.int .i64 0,.slice none 0 0,.int .i64 0] (0,0) _ rfl (HO_4.out.blk 0 rfl) Try.underlying28 rfl (by kernel_rfl) (.tmp .nil))) rfl ?_
  exact ⟨_,rfl,Kd.R_nil _ _ _ _ _,HO_4.out.base⟩
end Go.Proofs.Ytlnhpkjioppbiaa.QFnDiagramOrders
