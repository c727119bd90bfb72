/- Functions of FnTables, each as a Lean function, with the proof that the Go code comes to its answers. -/
import Derived.Test.YtlnhpkjioppbiaaDoorSFnTablesx6
import Derived.Test.YtlnhpkjioppbiaaDoorSFnTablesx8
import Derived.Test.YtlnhpkjioppbiaaDoorSFnTablesx10
import Derived.Test.YtlnhpkjioppbiaaDoorSFnTablesx12
import Derived.Test.YtlnhpkjioppbiaaDoorSFnTablesx0
import Derived.Test.YtlnhpkjioppbiaaDoorSFnTablesx1
import Derived.Test.YtlnhpkjioppbiaaDoorSFnTablesx3
namespace Go.Proofs.YtlnhpkjioppbiaaDoor.QFnTables
open Go.RowKit Go.Proofs.YtlnhpkjioppbiaaDoorW.PrintWords Go.Proofs.YtlnhpkjioppbiaaDoorW.PrintLast Go.Proofs.YtlnhpkjioppbiaaDoorW.PrintMore
open Go.Proofs.YtlnhpkjioppbiaaDoorW.PrintWords renaming pw_below_drewN→pN,below_drew1→p1,below_alloc→pA
open Go.Proofs.YtlnhpkjioppbiaaDoorW.PrintWords.Kd renaming R_alloc→kA,R_drewN→kN,R_drew→kD,Q_alloc→qA,Q_drewN→qN,Q_drew→qD,C_alloc→cA,C_drewN→cN,C_drew→cD
open Go.Proofs.YtlnhpkjioppbiaaDoorW.PrintWords.Aside0 renaming mk→aM
open List renaming setIfInBounds_toArray→sI,set_cons_zero→s0,set_cons_succ→sS,map_toArray→mT,length_take→lT,length_drop→lD,map_cons→mC,map_nil→mN
open Option renaming bind_eq_some_iff→oB,bind_some→oS
attribute [local go_sem] max2_int min2_int max_two min_two max_three min_three max_four min_four
set_option maxHeartbeats 8000000
set_option maxRecDepth 100000
set_option linter.unusedVariables false
set_option linter.unusedSimpArgs false
def spec_DrawValueAt.l0:Nat→List Int→Int→List Int→Int→Int→Int→List Int→Option (Int×List Int×List Int)
 | 0,_,_,_,_,_,_,_=>none
 | k+1,x6,x7,x404000,x404001,x404002,x411000,x411001=>if (x6.length:Int)<x7 then ((spec_l1Cur_pick.f x404000 x404001 x404002 2).bind fun bt414=>(if x6.length<17592186044416 then (spec_DrawValueAt.l0 k (x6 ++ [bt414.1]) x7 x404000 bt414.2.1 bt414.2.2 x411000 x411001) else (none))) else (if (x6.length:Int)>0 then ((spec_l1Cur_one.f x404000 x404001 x404002 20).bind fun bt420=>(if bt420.1=true then ((spec_l1Cur_among.f x404000 bt420.2.1 bt420.2.2 (([(-1),2]:List Int))).bind fun bt426=>(if 0<(x6.length:Int) then (some (x411000,x411001,(x6.set (0:Int).toNat bt426.1))) else (none))) else (some (x411000,x411001,x6)))) else (some (x411000,x411001,x6)))
def spec_DrawValueAt.f (k:Nat) (l0:List Int):Option (Int×List Int×List Int):=(spec_l1Cur_anyTable.f k l0 0 0).bind fun bt404=>((spec_l1Cur_pick.f l0 bt404.2.2.1 bt404.2.2.2 24).bind fun bt411=>(spec_DrawValueAt.l0 k ([]:List Int) (wrap64 (bt404.1+(wrap64 (Int.tdiv bt411.1 23)))) l0 bt411.2.1 bt411.2.2 bt404.1 bt404.2.1))
theorem spec_DrawValueAt.calls (k:Nat) (A0:Option Addr) (c0:Nat) (l0:List Int) (r1:Int) (r2:List Int) (r3:List Int) (w:World) (hr0:Kd.C (Kd.int .u8) w A0 l0.length l0) (hc0:l0.length≤c0) (h:spec_DrawValueAt.f k l0=some (r1,r2,r3)) :
  Calls Tryd.prog 43 #[.slice A0 l0.length c0] w fun e w' => ∃ v1_ v2_:Value,e = .returned (.tuple #[.agg #[.int .i64 r1,v1_],v2_])∧Kd.Q (Kd.int .i64) 3 w' w.heap.size (fun k_=>some k_≠(v2_:Value).ownBlock) v1_ r2∧Kd.R (Kd.int .i64) 3 w' w.heap.size (fun k_=>some k_≠(v1_:Value).ownBlock) v2_ r3∧Below w.heap.size w w':=by
 have hu26:=Tryd.underlying26
 have hu66:=Tryd.underlying66
 have HR0:=aM hr0
 have HC0:=aM hc0
 clear hr0 hc0
 have HB:=aM (Below.refl w.heap.size w)
 have H:((spec_l1Cur_anyTable.f k l0 0 0).bind fun bt404=>((spec_l1Cur_pick.f l0 bt404.2.2.1 bt404.2.2.2 24).bind fun bt411=>(spec_DrawValueAt.l0 k ([]:List Int) (wrap64 (bt404.1+(wrap64 (Int.tdiv bt411.1 23)))) l0 bt411.2.1 bt411.2.2 bt404.1 bt404.2.1)))=some (r1,r2,r3):=h
 clear h
 replace H:=oB.mp H
 obtain ⟨⟨t404,t405,t408,t409⟩,A20,H⟩:=H
 replace H:((spec_l1Cur_pick.f l0 t408 t409 24).bind fun bt411=>(spec_DrawValueAt.l0 k ([]:List Int) (wrap64 (t404+(wrap64 (Int.tdiv bt411.1 23)))) l0 bt411.2.1 bt411.2.2 t404 t405))=some (r1,r2,r3):=H
 have A2:=aM A20
 clear A20
 replace H:=oB.mp H
 obtain ⟨⟨t411,t412,t413⟩,A30,H⟩:=H
 replace H:(spec_DrawValueAt.l0 k ([]:List Int) (wrap64 (t404+(wrap64 (Int.tdiv t411 23)))) l0 t412 t413 t404 t405)=some (r1,r2,r3):=H
 have A3:=aM A30
 clear A30
 have H':=aM H
 clear H
 go_enter Tryd.func43,Tryd.ntmps43
 try go_wp2_with (first | ((with_reducible refine gate_dst (N:=2) rfl ?_);refine box_event ?hg (N:=2) ?hd (cs:=#[.int .i64 0,.slice none 0 0]) (t:=26) ?hr ?_;(case hd=>rfl);(case hg=>rfl);(case hr=>exact zb_);intro gb402 hg w4 hbox hb;have n_:=z (below_step za_ hb)<|z (hbox)<|z ((by rw [hg];exact (below_size za_):w.heap.size≤gb402))<|z1 ((by rw [hg];exact (below_size za_):w.heap.size≤gb402));clear HB;obtain ⟨HB,BK402,GW402,GE402⟩:=n_;clear hb hbox hg)|((with_reducible refine gate_dst (N:=10) rfl ?_);refine box_event ?hg (N:=10) ?hd (cs:=#[.slice A0 l0.length c0,.int .i64 0,.int .u64 0]) (t:=66) ?hr ?_;(case hd=>rfl);(case hg=>rfl);(case hr=>exact zb_);intro gb403 hg w5 hbox hb;have n_:=z (blk_below (zb BK402.out) hb)<|z (below_step zjj_ hb)<|z ((by rw [hg];exact (below_size zjj_):w.heap.size≤gb403))<|z ((by rw [hg];exact (below_size zjj_):w.heap.size≤gb403))<|z ((by rw [hg];exact Nat.ne_of_lt (blk_lt (zb BK402.out)):gb402≠gb403))<|z ((by rw [hg];exact Nat.ne_of_gt (blk_lt (zb BK402.out)):gb403≠gb402))<|z1 ((⟨_,_,hbox,(by rw [hg];exact (below_size zjj_):w.heap.size≤gb403),HR0.out⟩:IsS66 w w5 gb403 l0 0 0));clear BK402 HB;obtain ⟨BK402,HB,GW403,GE403,NB402_403,NB403_402,HI403⟩:=n_;clear hb hbox hg)|((with_reducible refine gate_callee (f:=48) rfl ?_);refine goesL_ (some 12) rfl rfl Tryd.func48 (by kernel_rfl) rfl #[.pointer (some ⟨gb403,0,none⟩)] rfl ze_ ?_;(with_reducible refine (spec_l1Cur_anyTable.calls k gb403 l0 0 0 t404 t405 t408 t409 w _ ?side1 ?side2 A2.out).mono ?_);(case side1=>exact zbaa_);(case side2=>exact zic_);rintro e w6 ⟨v406,rfl,ho0,hi,hb,hk⟩;refine ⟨_,rfl,?_⟩;have n_:=z (KeepBut.blk hk (zb BK402.out) NB402_403.out (by simp))<|z (Kd.Q_lower ho0 (below_size zic_))<|z (hb)<|z1 (hi);clear BK402 HB HI403;obtain ⟨BK402,HO407,HB,HI403⟩:=n_;clear hb hk hi;(try clear ho0))|((with_reducible refine gate_dst (N:=5) rfl ?_);refine box_event ?hg (N:=5) ?hd (cs:=#[.int .i64 0,.slice none 0 0]) (t:=26) ?hr ?_;(case hd=>rfl);(case hg=>rfl);(case hr=>exact zb_);intro gb410 hg w7 hbox hb;have n_:=z (Kd.Q_below (zq HO407.out) hb)<|z (blk_below (zb BK402.out) hb)<|z (IsS66.below zbaa_ hb)<|z (below_step zic_ hb)<|z (hbox)<|z ((by rw [hg];exact (below_size zic_):w.heap.size≤gb410))<|z ((by rw [hg];exact (below_size zic_):w.heap.size≤gb410))<|z ((by rw [hg];exact Nat.ne_of_lt (blk_lt (zb BK402.out)):gb402≠gb410))<|z ((by rw [hg];exact Nat.ne_of_gt (blk_lt (zb BK402.out)):gb410≠gb402))<|z ((by rw [hg];exact Nat.ne_of_lt (IsS66.lt (show IsS66 w _ gb403 l0 t408 t409 from zbaa_)):gb403≠gb410))<|z1 ((by rw [hg];exact Nat.ne_of_gt (IsS66.lt (show IsS66 w _ gb403 l0 t408 t409 from zbaa_)):gb410≠gb403));clear HO407 BK402 HI403 HB;obtain ⟨HO407,BK402,HI403,HB,BK410,GW410,GE410,NB402_410,NB410_402,NB403_410,NB410_403⟩:=n_;clear hb hbox hg;have hnb8:=NB410_402.out;have hnc8:=NB402_410.out;have hnb9:=NB410_403.out;have hnc9:=NB403_410.out;obtain ⟨hcz10_0,hcz10_1,hfz10_0,hfz10_1⟩:=zk2 BK410.out;obtain ⟨Ao11,co11,eo11,_⟩:=Kd.Q_slice HO407.out;subst eo11))
 have n0_:Aside0 (Kd.Q (Kd.int .i64) 3 ((w7.setCell ⟨gb410,0,none⟩ (.int .i64 t404)).setCell ⟨gb410,1,none⟩ (.slice Ao11 t405.length co11)) w.heap.size (fun _=>True) (.slice Ao11 t405.length co11) t405):=⟨by refine zq ?_;exact Kd.Q_mono (Kd.Q_far (p:=⟨gb410,1,none⟩) (Kd.Q_far (p:=⟨gb410,0,none⟩) (Kd.Q_types HO407.out BK410.out (by decide)) (fun _ hk=>hk.2) (.int .i64 t404)) (fun _ hk=>hk.2) (.slice Ao11 t405.length co11)) (fun _ hk=>trivial)⟩
 have n1_:Aside0 (((w7.setCell ⟨gb410,0,none⟩ (.int .i64 t404)).setCell ⟨gb410,1,none⟩ (.slice Ao11 t405.length co11)).heap[gb402]?=some (.cells #[.int .i64 0,.slice none 0 0] 26 (0,0))):=⟨by refine zb ?_;refine blk_far ?_ NB402_410.out _;refine zb ?_;refine blk_far ?_ NB402_410.out _;refine zb ?_;exact BK402.out⟩
 have n2_:Aside0 (((w7.setCell ⟨gb410,0,none⟩ (.int .i64 t404)).setCell ⟨gb410,1,none⟩ (.slice Ao11 t405.length co11)).heap[gb410]?=some (.cells #[.int .i64 t404,.slice Ao11 t405.length co11] 26 (0,0))):=⟨by refine zb ?_;refine blk_put (cs:=#[.int .i64 t404,.slice none 0 0]) ?_ 1 _ rfl;refine zb ?_;refine blk_put (cs:=#[.int .i64 0,.slice none 0 0]) ?_ 0 _ rfl;refine zb ?_;exact BK410.out⟩
 have n3_:Aside0 (IsS66 w ((w7.setCell ⟨gb410,0,none⟩ (.int .i64 t404)).setCell ⟨gb410,1,none⟩ (.slice Ao11 t405.length co11)) gb403 l0 t408 t409):=⟨zbh_⟩
 have n4_:Aside0 (Below w.heap.size w ((w7.setCell ⟨gb410,0,none⟩ (.int .i64 t404)).setCell ⟨gb410,1,none⟩ (.slice Ao11 t405.length co11))):=⟨zci_⟩
 (try clear HO407)
 (try clear BK402)
 (try clear BK410)
 (try clear HI403)
 (try clear HB)
 generalize ((w7.setCell ⟨gb410,0,none⟩ (.int .i64 t404)).setCell ⟨gb410,1,none⟩ (.slice Ao11 t405.length co11))=w12 at n0_ n1_ n2_ n3_ n4_ ⊢
 have HO407:=n0_
 have BK402:=n1_
 have BK410:=n2_
 have HI403:=n3_
 have HB:=n4_
 clear n0_ n1_ n2_ n3_ n4_
 have n_:=z (qD HO407.out)<|z (blk_drew BK402.out)<|z (blk_drew BK410.out)<|z (IsS66.drew HI403.out)<|z1 (p1 HB.out)
 clear HO407 BK402 BK410 HI403 HB
 obtain ⟨HO407,BK402,BK410,HI403,HB⟩:=n_
 refine start_ (n:=7) (S:=fun w'=>w'.cell? ⟨gb410,0,none⟩=some (.int .i64 t404)∧w'.cell? ⟨gb410,1,none⟩=some (.slice Ao11 t405.length co11)) (ds:=[]) #[fi,fi,fi,fi,fi,fi,fi] (by kernel_rfl) rfl rfl ⟨(blk_cell BK410.out 0).trans rfl,(blk_cell BK410.out 1).trans rfl⟩ (fun hHeld=>?_)
 generalize w12.drew=w13 at HO407 BK402 BK410 HI403 HB hHeld ⊢
 refine oz_ 0 13 ?_
 refine oz_ 2 15 ?_
 refine tz2_ 1 14 hHeld ?_
 refine oo_ 3 16 (fun K hK=>?_)
 refine goes_ Tryd.func59 (by kernel_rfl) rfl #[.pointer (some ⟨gb403,0,none⟩),.int .i64 24] (by rfl) rfl rfl ze_ ?_
 with_reducible refine (spec_l1Cur_pick.calls gb403 l0 t408 t409 24 t411 t412 t413 w _ ?side1 ?side2 A3.out).mono ?_
 (case side1=>exact zbh_)
 (case side2=>exact zci_)
 rintro e w14 ⟨rfl,hi,hb,hk⟩
 refine ⟨_,rfl,?_⟩
 have n_:=z (KeepBut.blk hk (zb BK402.out) NB402_403.out (by simp))<|z (Kd.Q_mono (Kd.Q_keep (IsS66.apartQ (show IsS66 w _ gb403 l0 t408 t409 from zbh_) (zq HO407.out) (by decide)) hk (fun _ h=>h.2)) (fun _ h=>h.1))<|z (KeepBut.blk hk (zb BK410.out) NB410_403.out (by simp))<|z (hb)<|z1 (hi)
 clear BK402 HO407 BK410 HB HI403
 obtain ⟨BK402,HO407,BK410,HB,HI403⟩:=n_
 (try clear hb)
 (try clear hb2)
 (try clear hk)
 (try clear hi)
 refine hK.out _ _ ⟨(blk_cell BK410.out 0).trans rfl,(blk_cell BK410.out 1).trans rfl⟩ (fun hHeld=>?_)
 clear hK K
 refine nz_ 16 ?_
 refine oz_ 4 17 ?_
 refine oz_ 5 18 ?_
 refine oz_ 6 7 ?_
 refine done_ (by kernel_rfl) ?_
 try go_wp2
 go_loopg [6] k (fun kq v6 w' => ∃ (x6_1:List Int) (x404001_1:Int) (x404002_1:Int),Aside0 (spec_DrawValueAt.l0 kq x6_1 (wrap64 (t404+(wrap64 (Int.tdiv t411 23)))) l0 x404001_1 x404002_1 t404 t405=some (r1,r2,r3))∧Aside0 (kq≤k)∧Aside0 (Kd.R (Kd.int .i64) 3 w' w.heap.size (fun k_=>some k_≠((.slice Ao11 t405.length co11):Value).ownBlock) v6 x6_1)∧Aside0 (Kd.Q (Kd.int .i64) 3 w' w.heap.size (fun k_=>some k_≠(v6:Value).ownBlock) (.slice Ao11 t405.length co11) t405)∧Aside0 (w'.heap[gb402]?=some (.cells #[.int .i64 0,(.slice none 0 0)] 26 (0,0)))∧Aside0 (w'.heap[gb410]?=some (.cells #[.int .i64 t404,(.slice Ao11 t405.length co11)] 26 (0,0)))∧Aside0 (IsS66 w w' gb403 l0 x404001_1 x404002_1)∧Aside0 (Below w.heap.size w w'))
 case atStart=>exact ⟨(([]:List Int)),(t412),(t413),H',⟨Nat.le_refl _⟩,⟨zca_⟩,⟨by refine zq ?_;exact Kd.Q_mono HO407.out (fun _ hk=>(by simp [Value.ownBlock]))⟩,⟨zb BK402.out⟩,⟨zb BK410.out⟩,⟨zbh_⟩,⟨zci_⟩⟩
 case round =>
  clear H';(try clear hcz10_0);(try clear hcz10_1);(try clear hfz10_0);(try clear hfz10_1);obtain ⟨x6_1,x404001_1,x404002_1,HA,HK1,HO_6,HO_411001,BK402,BK410,HI403,HB⟩:=hrel
  cases gk with
  | zero=>exact absurd HA.out (by simp [spec_DrawValueAt.l0])
  | succ k1 =>
   have H:=HA.out;clear HA
   simp only [spec_DrawValueAt.l0] at H
   by_cases c15:(x6_1.length:Int)<(wrap64 (t404+(wrap64 (Int.tdiv t411 23))))
   ·rw [if_pos c15] at H
    have c15b0:=decide_eq_true c15;clear c15;replace H:=oB.mp H;obtain ⟨⟨t414,t415,t416⟩,A160,H⟩:=H;replace H:(if x6_1.length<17592186044416 then (spec_DrawValueAt.l0 k1 (x6_1 ++ [t414]) (wrap64 (t404+(wrap64 (Int.tdiv t411 23)))) l0 t415 t416 t404 t405) else (none))=some (r1,r2,r3):=H;have A16:=aM A160;clear A160
    by_cases c17:x6_1.length<17592186044416
    ·rw [if_pos c17] at H
     have LMc17:=aM c17;clear c17;obtain ⟨y417,hy417⟩:∃ y_:List Int,y_=(x6_1 ++ [t414]):=⟨_,rfl⟩;replace H:(spec_DrawValueAt.l0 k1 y417 (wrap64 (t404+(wrap64 (Int.tdiv t411 23)))) l0 t415 t416 t404 t405)=some (r1,r2,r3):=q3y_ hy417 H
     have Ny417:=aM hy417;clear hy417;have H':=aM H;clear H;obtain ⟨Ao18,co18,eo18⟩:=Kd.R_slice HO_6.out;subst eo18
     go_wp2_with (first | ((with_reducible refine gate_callee (f:=59) rfl ?_);refine goesL_ (some 25) rfl rfl Tryd.func59 (by kernel_rfl) rfl #[.pointer (some ⟨gb403,0,none⟩),.int .i64 2] rfl ze_ ?_;(with_reducible refine (spec_l1Cur_pick.calls gb403 l0 x404001_1 x404002_1 2 t414 t415 t416 w _ ?side1 ?side2 A16.out).mono ?_);(case side1=>exact zbh_);(case side2=>exact zci_);rintro e w19 ⟨rfl,hi,hb,hk⟩;refine ⟨_,rfl,?_⟩;have n_:=z (Kd.R_mono (Kd.R_keep (IsS66.apart (show IsS66 w _ gb403 l0 x404001_1 x404002_1 from zbh_) (zr HO_6.out) (by decide)) hk (fun _ h=>h.2)) (fun _ h=>h.1))<|z (Kd.Q_mono (Kd.Q_keep (IsS66.apartQ (show IsS66 w _ gb403 l0 x404001_1 x404002_1 from zbh_) (zq HO_411001.out) (by decide)) hk (fun _ h=>h.2)) (fun _ h=>h.1))<|z (KeepBut.blk hk (zb BK402.out) NB402_403.out (by simp))<|z (KeepBut.blk hk (zb BK410.out) NB410_403.out (by simp))<|z (hb)<|z1 (hi);clear HO_6 HO_411001 BK402 BK410 HB HI403;obtain ⟨HO_6,HO_411001,BK402,BK410,HB,HI403⟩:=n_;clear hb hk hi)|((with_reducible refine gate_builtin (b := .append) (xs:=#[.tmp 23,.tmp 26]) rfl ?_);at_builtin;refine Kd.R_append (Kd.int .i64) (w0:=w) w.heap.size rfl (.tmp 23) (.tmp 26) 24 3 (.int .i64 0) 8 rfl Tryd.underlying24 info3 rfl (by decide) (by omega) (.slice Ao18 x6_1.length co18) x6_1 t414 [.int .i64 t414] (fun k_=>some k_≠(.slice Ao11 t405.length co11:Value).ownBlock) (fun _=>False) rfl rfl ?aP (fun _ hk=>hk.elim) ?aF ?aO ?aB ?aS ?aL ?_;(case aP=>exact rfl);(case aB=>exact zci_);(case aF=>exact (fun k_ hk=>Kd.fresh' (Kd.Q_lt (zq HO_411001.out)) k_ hk));(case aO=>exact (zr HO_6.out));(case aS=>exact (below_size zci_));(case aL=>have:=LMc17.out;omega);intro v418 w20 ho hb hg hat;rw [← Ny417.out] at ho;have n_:=z (Kd.Q_after (ok:=(fun _=>True)) (by refine zq ?_;exact Kd.Q_mono HO_411001.out (fun _ hk=>⟨trivial,hk⟩)) hg hat)<|z (blk_grown (g:=gb402) (o := .cells #[.int .i64 0,.slice none 0 0] 26 (0,0)) (zb BK402.out) hg (Kd.R_ne HO_6.out BK402.out (by decide)))<|z (blk_grown (g:=gb410) (o := .cells #[.int .i64 t404,.slice Ao11 t405.length co11] 26 (0,0)) (zb BK410.out) hg (Kd.R_ne HO_6.out BK410.out (by decide)))<|z (IsS66.grown zbh_ hg (IsS66.own_ne HI403.out HO_6.out (by decide)))<|z (hb)<|z1 (ho);clear HO_411001 BK402 BK410 HI403 HB HO_6;obtain ⟨HO_411001,BK402,BK410,HI403,HB,HO419⟩:=n_;clear ho hb hg hat))
     go_roundg k1
     case measure=>have:=HK1.out;omega
     case rel=>exact ⟨(y417),(t415),(t416),H',⟨zcc_⟩,⟨zr HO419.out⟩,⟨by refine zq ?_;exact Kd.Q_mono HO_411001.out (fun _ hk=>hk.2)⟩,⟨zb BK402.out⟩,⟨zb BK410.out⟩,⟨zbh_⟩,⟨zci_⟩⟩
    ·rw [if_neg c17] at H
     exact q3n_ H
   ·rw [if_neg c15] at H
    have c15b0:=decide_eq_false c15;clear c15
    by_cases c21:(x6_1.length:Int)>0
    ·rw [if_pos c21] at H
     have c21b0:decide (0<(x6_1.length:Int))=true:=decide_eq_true c21;have c21b1:decide (0<x6_1.length)=true:=decide_eq_true (by omega);clear c21;replace H:=oB.mp H;obtain ⟨⟨t420,t421,t422⟩,A220,H⟩:=H;replace H:(if t420=true then ((spec_l1Cur_among.f l0 t421 t422 (([(-1),2]:List Int))).bind fun bt426=>(if 0<(x6_1.length:Int) then (some (t404,t405,(x6_1.set (0:Int).toNat bt426.1))) else (none))) else (some (t404,t405,x6_1)))=some (r1,r2,r3):=H;have A22:=aM A220;clear A220
     by_cases c23:t420=true
     ·subst c23
      have H1:((spec_l1Cur_among.f l0 t421 t422 (([(-1),2]:List Int))).bind fun bt426=>(if 0<(x6_1.length:Int) then (some (t404,t405,(x6_1.set (0:Int).toNat bt426.1))) else (none)))=some (r1,r2,r3):=by rw [if_pos rfl] at H;exact H
      clear H;have H:=H1;clear H1;obtain ⟨y423,hy423⟩:∃ y_:List Int,y_=(([(-1),2]:List Int)):=⟨_,rfl⟩;replace H:((spec_l1Cur_among.f l0 t421 t422 y423).bind fun bt426=>(if 0<(x6_1.length:Int) then (some (t404,t405,(x6_1.set (0:Int).toNat bt426.1))) else (none)))=some (r1,r2,r3):=q3y_ hy423 H
      have Ny423:=aM hy423;clear hy423;replace H:=oB.mp H;obtain ⟨⟨t426,t427,t428⟩,A240,H⟩:=H;replace H:(if 0<(x6_1.length:Int) then (some (t404,t405,(x6_1.set (0:Int).toNat t426))) else (none))=some (r1,r2,r3):=H;have A24:=aM A240;clear A240
      by_cases c25:0<(x6_1.length:Int)
      ·rw [if_pos c25] at H
       have c25b0:=decide_eq_true c25;have c25b1:decide (0<x6_1.length)=true:=decide_eq_true (by omega);clear c25;obtain ⟨y429,hy429⟩:∃ y_:List Int,y_=(x6_1.set (0:Int).toNat t426):=⟨_,rfl⟩;replace H:(some (t404,t405,y429))=some (r1,r2,r3):=q3y_ hy429 H
       have Ny429:=aM hy429;clear hy429
       simp only [Option.some.injEq,Prod.mk.injEq] at H
       obtain ⟨rfl,rfl,rfl⟩:=H;obtain ⟨Ao27,co27,eo27⟩:=Kd.R_slice HO_6.out;subst eo27
       go_wp2_with (first | (go_at_call 60;(with_reducible refine (spec_l1Cur_one.calls gb403 l0 x404001_1 x404002_1 20 true t421 t422 w _ ?side1 ?side2 A22.out).mono ?_);(case side1=>exact zbh_);(case side2=>exact zci_);rintro e w28 ⟨rfl,hi,hb,hk⟩;have n_:=z (Kd.R_mono (Kd.R_keep (IsS66.apart (show IsS66 w _ gb403 l0 x404001_1 x404002_1 from zbh_) (zr HO_6.out) (by decide)) hk (fun _ h=>h.2)) (fun _ h=>h.1))<|z (Kd.Q_mono (Kd.Q_keep (IsS66.apartQ (show IsS66 w _ gb403 l0 x404001_1 x404002_1 from zbh_) (zq HO_411001.out) (by decide)) hk (fun _ h=>h.2)) (fun _ h=>h.1))<|z (KeepBut.blk hk (zb BK402.out) NB402_403.out (by simp))<|z (KeepBut.blk hk (zb BK410.out) NB410_403.out (by simp))<|z (hb)<|z1 (hi);clear HO_6 HO_411001 BK402 BK410 HB HI403;obtain ⟨HO_6,HO_411001,BK402,BK410,HB,HI403⟩:=n_;clear hb hk hi)|((with_reducible refine gate_dst (N:=37) rfl ?_);refine Kd.R_lit (Kd.int .i64) _ 3 ?hg (N:=37) ?hd (xs:=([(-1),2]:List Int)) (inner:=[.int .i64 (-1),.int .i64 2]) (ok:=fun _=>True) (okp:=fun _=>True) ?hr ?hp (fun _ hk=>hk) trivial (Below.refl _ _) (Nat.le_refl _) (by simp) ?_;(case hd=>rfl);(case hg=>rfl);(case hr=>exact zb_);(case hp=>exact zbaf_);intro v424 w29 ho30 hb hg_ hnew_;clear hg_ hnew_;(first | rw [← Ny423.out] at ho30 | (simp only [Int.reduceToNat] at ho30;rw [← Ny423.out] at ho30));have n_:=z (Kd.R_elder' (zr HO_6.out) (Kd.R_base ho30) hb)<|z (Kd.Q_elder' (zq HO_411001.out) (Kd.R_base ho30) hb)<|z (Kd.R_lower (Kd.R_new' (Kd.R_new' ho30 (Kd.R_lt (zr HO_6.out))) (Kd.Q_lt (zq HO_411001.out))) (below_size zci_))<|z (blk_below (zb BK402.out) hb)<|z (blk_below (zb BK410.out) hb)<|z (IsS66.below zbh_ hb)<|z1 (below_step zci_ hb);clear HO_6 HO_411001 BK402 BK410 HI403 HB;obtain ⟨HO_6,HO_411001,HO425,BK402,BK410,HI403,HB⟩:=n_;clear hb ho30;obtain ⟨Ao31,co31,eo31⟩:=Kd.R_slice HO425.out;subst eo31)|((with_reducible refine gate_callee (f:=61) rfl ?_);refine goesL_ (some 38) rfl rfl Tryd.func61 (by kernel_rfl) rfl #[.pointer (some ⟨gb403,0,none⟩),.slice Ao31 y423.length co31] rfl ze_ ?_;(with_reducible refine (spec_l1Cur_among.calls gb403 l0 t421 t422 _ _ y423 t426 t427 t428 w _ ?side1 ?side2 ?side3 ?side4 ?side5 A24.out).mono ?_);(case side1=>exact zbh_);(case side2=>exact zci_);(case side3=>repeat (first | exact (Kd.R_reads' HO425.out).2.2 | (with_reducible refine cA ?_ _)|(with_reducible refine cN ?_ _)|(with_reducible refine cD ?_)));(case side4=>exact (Kd.R_reads' HO425.out).2.1);(case side5=>exact far_slice (IsS66.own_ne HI403.out HO425.out (by decide)));rintro e w32 ⟨rfl,hi,hb,hk⟩;refine ⟨_,rfl,?_⟩;have n_:=z (Kd.R_mono (Kd.R_keep (IsS66.apart (show IsS66 w _ gb403 l0 t421 t422 from zbh_) (zr HO_6.out) (by decide)) hk (fun _ h=>h.2)) (fun _ h=>h.1))<|z (Kd.Q_mono (Kd.Q_keep (IsS66.apartQ (show IsS66 w _ gb403 l0 t421 t422 from zbh_) (zq HO_411001.out) (by decide)) hk (fun _ h=>h.2)) (fun _ h=>h.1))<|z (KeepBut.blk hk (zb BK402.out) NB402_403.out (by simp))<|z (KeepBut.blk hk (zb BK410.out) NB410_403.out (by simp))<|z (Kd.R_mono (Kd.R_keep (IsS66.apart (show IsS66 w _ gb403 l0 t421 t422 from zbh_) (zr HO425.out) (by decide)) hk (fun _ h=>h.2)) (fun _ h=>h.1))<|z (hb)<|z1 (hi);clear HO_6 HO_411001 BK402 BK410 HO425 HB HI403;obtain ⟨HO_6,HO_411001,BK402,BK410,HO425,HB,HI403⟩:=n_;clear hb hk hi;have p26:0≤(0:Int):=(by omega);have q26:(0:Int)<((x6_1.length:Int):Int):=of_decide_eq_true zd_;have qi26:(0<x6_1.length)=True:=eq_true (by omega);obtain ⟨go26,co26,eo26,gb26,gl26,cl26,HG26⟩:=Kd.R_form HO_6.out (by omega);(first | cases eo26 | (injection eo26 with ea_ en_ ec_;(first | subst ea_ | (injection ea_ with ea_;subst ea_));subst ec_;clear en_));have GB26:=aM gb26;have GG26:=aM HG26;clear gb26 gl26 HG26;obtain ⟨hx26_0,hf26_0⟩:=Kd.R_celln 0 HO_6.out (0:Int) p26 q26;(try rw [show ((0:Int)).toNat=0 from rfl] at hx26_0);(try simp only [Nat.reduceMul,Nat.zero_mul,Nat.zero_add,Nat.reduceAdd] at hx26_0);(try rw [show ((0:Int)).toNat=0 from rfl] at hf26_0);(try simp only [Nat.reduceMul,Nat.zero_mul,Nat.zero_add,Nat.reduceAdd] at hf26_0);replace p26:=eq_true p26;replace q26:=eq_true q26;obtain ⟨hy33_,hz33_⟩:=Kd.R_celln 0 HO_6.out (0:Int) (by omega) (of_decide_eq_true zd_);(try simp only [Int.reduceToNat,Int.toNat_zero,Int.toNat_ofNat,Nat.reduceMul,Nat.zero_mul,Nat.zero_add] at hy33_ hz33_);(try rw [show ((0:Int)).toNat=0 from rfl] at hy33_);(try rw [show ((0:Int)).toNat=0 from rfl] at hz33_);have HP33:=Kd.R_putg HO_6.out (0:Int) t426)|((with_reducible refine gate_store (t:=3) (p:=39) rfl ?_);refine store_event (t:=3) (p:=39) (v:=?vo_w34) (w1:=(w32.setCell ⟨go26,(0:Int).toNat,none⟩ (.int .i64 t426))) ?hg ?ho ?hn ?hr ?_;(case ho=>rfl);(case hg=>rfl);(case hn=>rfl);(case hr=>exact zb_);intro w34 hw;have hg:w32.grownBy w34 (some go26):=(by rw [hw];exact HP33.2);have hp_:Kd.R (Kd.int .i64) 3 w34 w.heap.size (fun k_=>some k_≠(.slice Ao11 t405.length co11:Value).ownBlock∧some k_≠(.slice Ao31 y423.length co31:Value).ownBlock) (.slice (some ⟨go26,0,none⟩) x6_1.length co27) y429:=(by rw [hw,Ny429.out];exact HP33.1);clear HP33;have n_:=z (hp_)<|z (Kd.Q_after (v:=(.slice (some ⟨go26,0,none⟩) x6_1.length co27)) (v1:=(.slice (some ⟨go26,0,none⟩) x6_1.length co27)) (ok:=(fun k_=>some k_≠(.slice Ao31 y423.length co31:Value).ownBlock)) (by refine zq ?_;exact Kd.Q_mono HO_411001.out (fun _ hk=>⟨hk.2,hk.1⟩)) hg (.inl rfl))<|z (blk_grown (g:=gb402) (o := .cells #[.int .i64 0,.slice none 0 0] 26 (0,0)) (zb BK402.out) hg (Kd.R_ne HO_6.out BK402.out (by decide)))<|z (blk_grown (g:=gb410) (o := .cells #[.int .i64 t404,.slice Ao11 t405.length co11] 26 (0,0)) (zb BK410.out) hg (Kd.R_ne HO_6.out BK410.out (by decide)))<|z (IsS66.grown zbh_ hg (IsS66.own_ne HI403.out HO_6.out (by decide)))<|z (Kd.R_after (v:=(.slice (some ⟨go26,0,none⟩) x6_1.length co27)) (v1:=(.slice (some ⟨go26,0,none⟩) x6_1.length co27)) (ok:=(fun k_=>some k_≠(.slice Ao11 t405.length co11:Value).ownBlock)) (by refine zr ?_;exact Kd.R_mono HO425.out (fun _ hk=>⟨hk.2,hk.1.2⟩)) hg (.inl rfl))<|z1 ((by rw [hw];exact below_set (HB.out) GB26.out:Below w.heap.size w w34));clear HO_6 HO_411001 BK402 BK410 HI403 HO425 HB;obtain ⟨HO_6,HO_411001,BK402,BK410,HI403,HO425,HB⟩:=n_;clear hg hw hp_;have hnb35:=NB410_402.out;have hnc35:=NB402_410.out;have hnb36:=NB410_403.out;have hnc36:=NB403_410.out;obtain ⟨hcz37_0,hcz37_1,hfz37_0,hfz37_1⟩:=zk2 BK410.out;have hnb38:=NB402_403.out;have hnc38:=NB403_402.out;obtain ⟨hcz39_0,hcz39_1,hfz39_0,hfz39_1⟩:=zk2 BK402.out))
       refine bodyPost_ret (results_ct rfl _ _ gb402 26 #[.int .i64 t404,.slice Ao11 t405.length co11] (0,0) _ rfl zbbi_ Tryd.underlying26 rfl (by kernel_rfl)) rfl ?_
       exact ⟨_,_,zh_,by refine zq ?_;exact Kd.Q_mono (Kd.Q_far (p:=⟨gb402,1,none⟩) (Kd.Q_far (p:=⟨gb402,0,none⟩) (Kd.Q_types HO_411001.out BK402.out (by decide)) (fun _ hk=>hk.2) (.int .i64 t404)) (fun _ hk=>hk.2) (.slice Ao11 t405.length co11)) (fun _ hk=>hk.1.2),by refine zr ?_;exact Kd.R_mono (Kd.R_far (p:=⟨gb402,1,none⟩) (Kd.R_far (p:=⟨gb402,0,none⟩) (Kd.R_types HO_6.out BK402.out (by decide)) (fun _ hk=>hk.2) (.int .i64 t404)) (fun _ hk=>hk.2) (.slice Ao11 t405.length co11)) (fun _ hk=>hk.1.1),zci_⟩
      ·rw [if_neg c25] at H
       exact q3n_ H
     ·replace c23:=Bool.eq_false_iff.mpr c23
      subst c23;have H1:(some (t404,t405,x6_1))=some (r1,r2,r3):=by rw [if_neg (show ¬ (false=true) by decide)] at H;exact H
      clear H;have H:=H1;clear H1
      simp only [Option.some.injEq,Prod.mk.injEq] at H
      obtain ⟨rfl,rfl,rfl⟩:=H;obtain ⟨Ao40,co40,eo40⟩:=Kd.R_slice HO_6.out;subst eo40
      go_wp2_with (first | (go_at_call 60;(with_reducible refine (spec_l1Cur_one.calls gb403 l0 x404001_1 x404002_1 20 false t421 t422 w _ ?side1 ?side2 A22.out).mono ?_);(case side1=>exact zbh_);(case side2=>exact zci_);rintro e w41 ⟨rfl,hi,hb,hk⟩;have n_:=z (Kd.R_mono (Kd.R_keep (IsS66.apart (show IsS66 w _ gb403 l0 x404001_1 x404002_1 from zbh_) (zr HO_6.out) (by decide)) hk (fun _ h=>h.2)) (fun _ h=>h.1))<|z (Kd.Q_mono (Kd.Q_keep (IsS66.apartQ (show IsS66 w _ gb403 l0 x404001_1 x404002_1 from zbh_) (zq HO_411001.out) (by decide)) hk (fun _ h=>h.2)) (fun _ h=>h.1))<|z (KeepBut.blk hk (zb BK402.out) NB402_403.out (by simp))<|z (KeepBut.blk hk (zb BK410.out) NB410_403.out (by simp))<|z (hb)<|z1 (hi);clear HO_6 HO_411001 BK402 BK410 HB HI403;obtain ⟨HO_6,HO_411001,BK402,BK410,HB,HI403⟩:=n_;clear hb hk hi;have hnb42:=NB410_402.out;have hnc42:=NB402_410.out;have hnb43:=NB410_403.out;have hnc43:=NB403_410.out;obtain ⟨hcz44_0,hcz44_1,hfz44_0,hfz44_1⟩:=zk2 BK410.out;have hnb45:=NB402_403.out;have hnc45:=NB403_402.out;obtain ⟨hcz46_0,hcz46_1,hfz46_0,hfz46_1⟩:=zk2 BK402.out))
      refine bodyPost_ret (results_ct rfl _ _ gb402 26 #[.int .i64 t404,.slice Ao11 t405.length co11] (0,0) _ rfl zbbi_ Tryd.underlying26 rfl (by kernel_rfl)) rfl ?_
      exact ⟨_,_,zh_,by refine zq ?_;exact Kd.Q_mono (Kd.Q_far (p:=⟨gb402,1,none⟩) (Kd.Q_far (p:=⟨gb402,0,none⟩) (Kd.Q_types HO_411001.out BK402.out (by decide)) (fun _ hk=>hk.2) (.int .i64 t404)) (fun _ hk=>hk.2) (.slice Ao11 t405.length co11)) (fun _ hk=>hk.1),by refine zr ?_;exact Kd.R_mono (Kd.R_far (p:=⟨gb402,1,none⟩) (Kd.R_far (p:=⟨gb402,0,none⟩) (Kd.R_types HO_6.out BK402.out (by decide)) (fun _ hk=>hk.2) (.int .i64 t404)) (fun _ hk=>hk.2) (.slice Ao11 t405.length co11)) (fun _ hk=>hk.1),zci_⟩
    ·rw [if_neg c21] at H
     have c21b0:decide (0<(x6_1.length:Int))=false:=decide_eq_false c21;have c21b1:decide (0<x6_1.length)=false:=decide_eq_false (by omega);clear c21
     simp only [Option.some.injEq,Prod.mk.injEq] at H
     obtain ⟨rfl,rfl,rfl⟩:=H;obtain ⟨Ao47,co47,eo47⟩:=Kd.R_slice HO_6.out;subst eo47;have hnb48:=NB410_402.out;have hnc48:=NB402_410.out;have hnb49:=NB410_403.out;have hnc49:=NB403_410.out;obtain ⟨hcz50_0,hcz50_1,hfz50_0,hfz50_1⟩:=zk2 BK410.out;have hnb51:=NB402_403.out;have hnc51:=NB403_402.out;obtain ⟨hcz52_0,hcz52_1,hfz52_0,hfz52_1⟩:=zk2 BK402.out
     go_wp2
     refine bodyPost_ret (results_ct rfl _ _ gb402 26 #[.int .i64 t404,.slice Ao11 t405.length co11] (0,0) _ rfl zbbi_ Tryd.underlying26 rfl (by kernel_rfl)) rfl ?_
     exact ⟨_,_,zh_,by refine zq ?_;exact Kd.Q_mono (Kd.Q_far (p:=⟨gb402,1,none⟩) (Kd.Q_far (p:=⟨gb402,0,none⟩) (Kd.Q_types HO_411001.out BK402.out (by decide)) (fun _ hk=>hk.2) (.int .i64 t404)) (fun _ hk=>hk.2) (.slice Ao11 t405.length co11)) (fun _ hk=>hk.1),by refine zr ?_;exact Kd.R_mono (Kd.R_far (p:=⟨gb402,1,none⟩) (Kd.R_far (p:=⟨gb402,0,none⟩) (Kd.R_types HO_6.out BK402.out (by decide)) (fun _ hk=>hk.2) (.int .i64 t404)) (fun _ hk=>hk.2) (.slice Ao11 t405.length co11)) (fun _ hk=>hk.1),zci_⟩
def impl_numberOf.l0:Nat→Int→List Int→Int→Int→Option (Int)
 | 0,_,_,_,_=>none
 | k+1,x3,x6,x7,x8=>if x8<x7 then (if 0≤x8 then (if x8<(x6.length:Int) then (impl_numberOf.l0 k (Go.bits .or .i64 x3 (shl .i64 (rd x6 x8) x8)) x6 x7 (wrap64 (x8+1))) else (none)) else (none)) else (some x3)
def impl_numberOf.f (k:Nat) (l0:List Int):Option (Int):=impl_numberOf.l0 k 0 l0 (l0.length:Int) 0
theorem impl_numberOf.calls (k:Nat) (A0:Option Addr) (c0:Nat) (l0:List Int) (r:Int) (w:World) (hr0:Kd.C (Kd.int .i64) w A0 l0.length l0) (hc0:l0.length≤c0) (h:impl_numberOf.f k l0=some r) :
  Calls Tryd.prog 82 #[.slice A0 l0.length c0] w fun e w'=>e = .returned (.int .i64 r)∧Drawn0 w w':=by
 have HR0:=aM hr0
 have HC0:=aM hc0
 clear hr0 hc0
 have H:(impl_numberOf.l0 k 0 l0 (l0.length:Int) 0)=some r:=h
 clear h
 have H':=aM H
 clear H
 go_enter Tryd.func82,Tryd.ntmps82
 go_wp2
 go_loopg [3,8] k (fun kq v3 v8 w' => ∃ (x3_1:Int) (x8_1:Int),v3 = .int .i64 x3_1∧v8 = .int .i64 x8_1∧Aside0 (impl_numberOf.l0 kq x3_1 l0 (l0.length:Int) x8_1=some r)∧Aside0 (kq≤k)∧Drawn0 w w')
 case atStart=>exact ⟨(0),(0),zc_,zc_,H',⟨Nat.le_refl _⟩,zj_⟩
 case round =>
  clear H';obtain ⟨x3_1,x8_1,rfl,rfl,HA,HK1,⟨m1,rfl⟩⟩:=hrel
  cases gk with
  | zero=>exact absurd HA.out (by simp [impl_numberOf.l0])
  | succ k1 =>
   have H:=HA.out;clear HA
   simp only [impl_numberOf.l0] at H
   by_cases c2:x8_1<(l0.length:Int)
   ·rw [if_pos c2] at H
    have c2b0:=decide_eq_true c2;clear c2
    by_cases c3:0≤x8_1
    ·rw [if_pos c3] at H
     have c3b0:=decide_eq_true c3;clear c3
     by_cases c4:x8_1<(l0.length:Int)
     ·rw [if_pos c4] at H
      have c4b0:=decide_eq_true c4;clear c4;have c5b0:=eq_true (of_decide_eq_true zd_:0≤x8_1);obtain ⟨ji6,hji6⟩:∃ j_:Int,(shl .i64 (rd l0 x8_1) x8_1)=j_:=⟨_,rfl⟩;replace H:(impl_numberOf.l0 k1 (Go.bits .or .i64 x3_1 (ji6)) l0 (l0.length:Int) (wrap64 (x8_1+1)))=some r:=by first | (rw [hji6] at H;exact H)|(simp only [hji6] at H ⊢;exact H)
      have hji6_:(IntKind.i64.wrap ((rd l0 x8_1) * 2 ^ min x8_1.toNat 64))=ji6:=hji6;have hji6z:x8_1≤64→(IntKind.i64.wrap ((rd l0 x8_1) * 2 ^ x8_1.toNat))=ji6:=shl_small hji6;have hji6y:(wrap64 ((rd l0 x8_1) * 2 ^ min x8_1.toNat 64))=ji6:=(i64_w _).symm.trans hji6_;have hji6x:x8_1≤64→(wrap64 ((rd l0 x8_1) * 2 ^ x8_1.toNat))=ji6:=fun h_=>(i64_w _).symm.trans (hji6z h_)
      have H':=aM H;clear H;have p430:0≤(x8_1:Int):=of_decide_eq_true zd_;have q430:x8_1<(l0.length:Int):=of_decide_eq_true zd_;obtain ⟨ad430,e430,hx430_0⟩:=Kd.at_int HR0.out x8_1 p430 q430
      cases e430
      replace p430:=eq_true p430;replace q430:=eq_true q430
      go_wp2
      go_roundg k1
      case measure=>have:=HK1.out;omega
      case rel=>exact ⟨(Go.bits .or .i64 x3_1 (ji6)),(wrap64 (x8_1+1)),(by first | rfl | (simp;done)|(simp only [← hji6] <;> (first | rfl | simp))|(simp [*];done)),zc_,H',⟨zcc_⟩,zj_⟩
     ·rw [if_neg c4] at H
      exact q3n_ H
    ·rw [if_neg c3] at H
     exact q3n_ H
   ·rw [if_neg c2] at H
    have c2b0:=decide_eq_false c2;clear c2;obtain rfl:=Option.some.inj H
    go_wp2
    go_ret
    exact ⟨zc_,zj_⟩
def impl_ValueAt.f (k:Nat) (a0_0:Int) (l0_1:List Int) (l1:List Int):Option (Int×Bool):=(impl_IsTable.f k a0_0 l0_1).bind fun t432=>(if t432=true then (if (l1.length:Int)=a0_0 then ((impl_areBits.f k l1).bind fun t433=>(if t433=true then ((impl_numberOf.f k l1).bind fun t434=>(if 0≤t434 then (if t434<(l0_1.length:Int) then (some (rd l0_1 t434,true)) else (none)) else (none))) else (some (0,false)))) else (some (0,false))) else (some (0,false)))
theorem impl_ValueAt.calls (k:Nat) (a0_0:Int) (A0_1:Option Addr) (c0_1:Nat) (l0_1:List Int) (A1:Option Addr) (c1:Nat) (l1:List Int) (r1:Int) (r2:Bool) (w:World) (hr0_1:Kd.C (Kd.int .i64) w A0_1 l0_1.length l0_1) (hc0_1:l0_1.length≤c0_1) (hr1:Kd.C (Kd.int .i64) w A1 l1.length l1) (hc1:l1.length≤c1) (h:impl_ValueAt.f k a0_0 l0_1 l1=some (r1,r2)) :
  Calls Tryd.prog 44 #[.agg #[.int .i64 a0_0,.slice A0_1 l0_1.length c0_1],.slice A1 l1.length c1] w fun e w'=>e = .returned (.tuple #[.int .i64 r1,.bool r2])∧Below w.heap.size w w':=by
 have hu26:=Tryd.underlying26
 have HR0_1:=aM hr0_1
 have HC0_1:=aM hc0_1
 clear hr0_1 hc0_1
 have HR1:=aM hr1
 have HC1:=aM hc1
 clear hr1 hc1
 have HB:=aM (Below.refl w.heap.size w)
 have H:((impl_IsTable.f k a0_0 l0_1).bind fun t432=>(if t432=true then (if (l1.length:Int)=a0_0 then ((impl_areBits.f k l1).bind fun t433=>(if t433=true then ((impl_numberOf.f k l1).bind fun t434=>(if 0≤t434 then (if t434<(l0_1.length:Int) then (some (rd l0_1 t434,true)) else (none)) else (none))) else (some (0,false)))) else (some (0,false))) else (some (0,false))))=some (r1,r2):=h
 clear h
 replace H:=oB.mp H
 obtain ⟨t432,A30,H⟩:=H
 replace H:(if t432=true then (if (l1.length:Int)=a0_0 then ((impl_areBits.f k l1).bind fun t433=>(if t433=true then ((impl_numberOf.f k l1).bind fun t434=>(if 0≤t434 then (if t434<(l0_1.length:Int) then (some (rd l0_1 t434,true)) else (none)) else (none))) else (some (0,false)))) else (some (0,false))) else (some (0,false)))=some (r1,r2):=H
 have A3:=aM A30
 clear A30
 by_cases c4:t432=true
 ·subst c4
  have H1:(if (l1.length:Int)=a0_0 then ((impl_areBits.f k l1).bind fun t433=>(if t433=true then ((impl_numberOf.f k l1).bind fun t434=>(if 0≤t434 then (if t434<(l0_1.length:Int) then (some (rd l0_1 t434,true)) else (none)) else (none))) else (some (0,false)))) else (some (0,false)))=some (r1,r2):=by rw [if_pos rfl] at H;exact H
  clear H;have H:=H1;clear H1
  by_cases c5:(l1.length:Int)=a0_0
  ·rw [if_pos c5] at H
   have c5b0:=beq_iff_eq.mpr c5;have c5b1:=bne_eq_false_iff_eq.mpr c5;clear c5;replace H:=oB.mp H;obtain ⟨t433,A60,H⟩:=H;replace H:(if t433=true then ((impl_numberOf.f k l1).bind fun t434=>(if 0≤t434 then (if t434<(l0_1.length:Int) then (some (rd l0_1 t434,true)) else (none)) else (none))) else (some (0,false)))=some (r1,r2):=H;have A6:=aM A60;clear A60
   by_cases c7:t433=true
   ·subst c7
    have H1:((impl_numberOf.f k l1).bind fun t434=>(if 0≤t434 then (if t434<(l0_1.length:Int) then (some (rd l0_1 t434,true)) else (none)) else (none)))=some (r1,r2):=by rw [if_pos rfl] at H;exact H
    clear H;have H:=H1;clear H1;replace H:=oB.mp H;obtain ⟨t434,A80,H⟩:=H;replace H:(if 0≤t434 then (if t434<(l0_1.length:Int) then (some (rd l0_1 t434,true)) else (none)) else (none))=some (r1,r2):=H;have A8:=aM A80;clear A80
    by_cases c9:0≤t434
    ·rw [if_pos c9] at H
     have c9b0:=decide_eq_true c9;clear c9
     by_cases c10:t434<(l0_1.length:Int)
     ·rw [if_pos c10] at H
      have c10b0:=decide_eq_true c10;clear c10
      simp only [Option.some.injEq,Prod.mk.injEq] at H
      obtain ⟨rfl,rfl⟩:=H
      go_enter Tryd.func44,Tryd.ntmps44
      go_wp2_with (first | ((with_reducible refine gate_dst (N:=2) rfl ?_);(try (refine gate_guard (by rfl) ?_;dsimp only));refine box_event ?hg (N:=2) ?hd (cs:=#[.int .i64 a0_0,.slice A0_1 l0_1.length c0_1]) (t:=26) ?hr ?_;(case hd=>rfl);(case hg=>rfl);(case hr=>exact zb_);intro gb431 hg w11 hbox hb;have n_:=z (below_step za_ hb)<|z (hbox)<|z ((by rw [hg];exact (below_size za_):w.heap.size≤gb431))<|z1 ((by rw [hg];exact (below_size za_):w.heap.size≤gb431));clear HB;obtain ⟨HB,BK431,GW431,GE431⟩:=n_;clear hb hbox hg;obtain ⟨hcz12_0,hcz12_1,hfz12_0,hfz12_1⟩:=zk2 BK431.out)|(go_at_call 10;(with_reducible refine (impl_IsTable.calls k a0_0 _ _ l0_1 true _ ?side1 ?side2 A3.out).mono ?_);(case side1=>exact zbc_);(case side2=>exact HC0_1.out);rintro e w13 ⟨rfl,hb⟩;have n_:=z (blk_below (zb BK431.out) hb)<|z1 (below_step zcf_ hb);clear BK431 HB;obtain ⟨BK431,HB⟩:=n_;clear hb;obtain ⟨hcz14_0,hcz14_1,hfz14_0,hfz14_1⟩:=zk2 BK431.out)|(go_at_call 52;(with_reducible refine (impl_areBits.calls k _ _ l1 true _ ?side1 ?side2 A6.out).mono ?_);(case side1=>exact zde_);(case side2=>exact HC1.out);rintro e w' ⟨rfl,⟨nd,rfl⟩⟩;(try exact q3d_))|(go_at_call 82;(with_reducible refine (impl_numberOf.calls k _ _ l1 t434 _ ?side1 ?side2 A8.out).mono ?_);(case side1=>exact zbbj_);(case side2=>exact HC1.out);rintro e w' ⟨rfl,⟨nd,rfl⟩⟩;(try exact q3d_);have p435:0≤(t434:Int):=of_decide_eq_true zd_;have q435:t434<(l0_1.length:Int):=of_decide_eq_true zd_;obtain ⟨ad435,e435,hx435_0⟩:=Kd.at_int HR0_1.out t434 p435 q435;cases e435;replace hx435_0:=(HB.out.cell (World.block_lt_of_cell? w _ hx435_0)).trans hx435_0;replace p435:=eq_true p435;replace q435:=eq_true q435))
      repeat (go_quiet (first | ((with_reducible refine gate_dst (N:=2) rfl ?_);(try (refine gate_guard (by rfl) ?_;dsimp only));refine box_event ?hg (N:=2) ?hd (cs:=#[.int .i64 a0_0,.slice A0_1 l0_1.length c0_1]) (t:=26) ?hr ?_;(case hd=>rfl);(case hg=>rfl);(case hr=>exact zb_);intro gb431 hg w11 hbox hb;have n_:=z (below_step za_ hb)<|z (hbox)<|z ((by rw [hg];exact (below_size za_):w.heap.size≤gb431))<|z1 ((by rw [hg];exact (below_size za_):w.heap.size≤gb431));clear HB;obtain ⟨HB,BK431,GW431,GE431⟩:=n_;clear hb hbox hg;obtain ⟨hcz12_0,hcz12_1,hfz12_0,hfz12_1⟩:=zk2 BK431.out)|(go_at_call 10;(with_reducible refine (impl_IsTable.calls k a0_0 _ _ l0_1 true _ ?side1 ?side2 A3.out).mono ?_);(case side1=>exact zbc_);(case side2=>exact HC0_1.out);rintro e w13 ⟨rfl,hb⟩;have n_:=z (blk_below (zb BK431.out) hb)<|z1 (below_step zcf_ hb);clear BK431 HB;obtain ⟨BK431,HB⟩:=n_;clear hb;obtain ⟨hcz14_0,hcz14_1,hfz14_0,hfz14_1⟩:=zk2 BK431.out)|(go_at_call 52;(with_reducible refine (impl_areBits.calls k _ _ l1 true _ ?side1 ?side2 A6.out).mono ?_);(case side1=>exact zde_);(case side2=>exact HC1.out);rintro e w' ⟨rfl,⟨nd,rfl⟩⟩;(try exact q3d_))|(go_at_call 82;(with_reducible refine (impl_numberOf.calls k _ _ l1 t434 _ ?side1 ?side2 A8.out).mono ?_);(case side1=>exact zbbj_);(case side2=>exact HC1.out);rintro e w' ⟨rfl,⟨nd,rfl⟩⟩;(try exact q3d_);have p435:0≤(t434:Int):=of_decide_eq_true zd_;have q435:t434<(l0_1.length:Int):=of_decide_eq_true zd_;obtain ⟨ad435,e435,hx435_0⟩:=Kd.at_int HR0_1.out t434 p435 q435;cases e435;replace hx435_0:=(HB.out.cell (World.block_lt_of_cell? w _ hx435_0)).trans hx435_0;replace p435:=eq_true p435;replace q435:=eq_true q435));try go_wp2_with (first | ((with_reducible refine gate_dst (N:=2) rfl ?_);(try (refine gate_guard (by rfl) ?_;dsimp only));refine box_event ?hg (N:=2) ?hd (cs:=#[.int .i64 a0_0,.slice A0_1 l0_1.length c0_1]) (t:=26) ?hr ?_;(case hd=>rfl);(case hg=>rfl);(case hr=>exact zb_);intro gb431 hg w11 hbox hb;have n_:=z (below_step za_ hb)<|z (hbox)<|z ((by rw [hg];exact (below_size za_):w.heap.size≤gb431))<|z1 ((by rw [hg];exact (below_size za_):w.heap.size≤gb431));clear HB;obtain ⟨HB,BK431,GW431,GE431⟩:=n_;clear hb hbox hg;obtain ⟨hcz12_0,hcz12_1,hfz12_0,hfz12_1⟩:=zk2 BK431.out)|(go_at_call 10;(with_reducible refine (impl_IsTable.calls k a0_0 _ _ l0_1 true _ ?side1 ?side2 A3.out).mono ?_);(case side1=>exact zbc_);(case side2=>exact HC0_1.out);rintro e w13 ⟨rfl,hb⟩;have n_:=z (blk_below (zb BK431.out) hb)<|z1 (below_step zcf_ hb);clear BK431 HB;obtain ⟨BK431,HB⟩:=n_;clear hb;obtain ⟨hcz14_0,hcz14_1,hfz14_0,hfz14_1⟩:=zk2 BK431.out)|(go_at_call 52;(with_reducible refine (impl_areBits.calls k _ _ l1 true _ ?side1 ?side2 A6.out).mono ?_);(case side1=>exact zde_);(case side2=>exact HC1.out);rintro e w' ⟨rfl,⟨nd,rfl⟩⟩;(try exact q3d_))|(go_at_call 82;(with_reducible refine (impl_numberOf.calls k _ _ l1 t434 _ ?side1 ?side2 A8.out).mono ?_);(case side1=>exact zbbj_);(case side2=>exact HC1.out);rintro e w' ⟨rfl,⟨nd,rfl⟩⟩;(try exact q3d_);have p435:0≤(t434:Int):=of_decide_eq_true zd_;have q435:t434<(l0_1.length:Int):=of_decide_eq_true zd_;obtain ⟨ad435,e435,hx435_0⟩:=Kd.at_int HR0_1.out t434 p435 q435;cases e435;replace hx435_0:=(HB.out.cell (World.block_lt_of_cell? w _ hx435_0)).trans hx435_0;replace p435:=eq_true p435;replace q435:=eq_true q435)))
      go_ret2
      exact ⟨zh_,zcf_⟩
     ·rw [if_neg c10] at H
      exact q3n_ H
    ·rw [if_neg c9] at H
     exact q3n_ H
   ·replace c7:=Bool.eq_false_iff.mpr c7
    subst c7;have H1:(some (0,false))=some (r1,r2):=by rw [if_neg (show ¬ (false=true) by decide)] at H;exact H
    clear H;have H:=H1;clear H1
    simp only [Option.some.injEq,Prod.mk.injEq] at H
    obtain ⟨rfl,rfl⟩:=H
    go_enter Tryd.func44,Tryd.ntmps44
    go_wp2_with (first | ((with_reducible refine gate_dst (N:=2) rfl ?_);(try (refine gate_guard (by rfl) ?_;dsimp only));refine box_event ?hg (N:=2) ?hd (cs:=#[.int .i64 a0_0,.slice A0_1 l0_1.length c0_1]) (t:=26) ?hr ?_;(case hd=>rfl);(case hg=>rfl);(case hr=>exact zb_);intro gb431 hg w15 hbox hb;have n_:=z (below_step za_ hb)<|z (hbox)<|z ((by rw [hg];exact (below_size za_):w.heap.size≤gb431))<|z1 ((by rw [hg];exact (below_size za_):w.heap.size≤gb431));clear HB;obtain ⟨HB,BK431,GW431,GE431⟩:=n_;clear hb hbox hg;obtain ⟨hcz16_0,hcz16_1,hfz16_0,hfz16_1⟩:=zk2 BK431.out)|(go_at_call 10;(with_reducible refine (impl_IsTable.calls k a0_0 _ _ l0_1 true _ ?side1 ?side2 A3.out).mono ?_);(case side1=>exact zbc_);(case side2=>exact HC0_1.out);rintro e w17 ⟨rfl,hb⟩;have n_:=z (blk_below (zb BK431.out) hb)<|z1 (below_step zcf_ hb);clear BK431 HB;obtain ⟨BK431,HB⟩:=n_;clear hb;obtain ⟨hcz18_0,hcz18_1,hfz18_0,hfz18_1⟩:=zk2 BK431.out)|(go_at_call 52;(with_reducible refine (impl_areBits.calls k _ _ l1 false _ ?side1 ?side2 A6.out).mono ?_);(case side1=>exact zde_);(case side2=>exact HC1.out);rintro e w' ⟨rfl,⟨nd,rfl⟩⟩;(try exact q3d_)))
    repeat (go_quiet (first | ((with_reducible refine gate_dst (N:=2) rfl ?_);(try (refine gate_guard (by rfl) ?_;dsimp only));refine box_event ?hg (N:=2) ?hd (cs:=#[.int .i64 a0_0,.slice A0_1 l0_1.length c0_1]) (t:=26) ?hr ?_;(case hd=>rfl);(case hg=>rfl);(case hr=>exact zb_);intro gb431 hg w15 hbox hb;have n_:=z (below_step za_ hb)<|z (hbox)<|z ((by rw [hg];exact (below_size za_):w.heap.size≤gb431))<|z1 ((by rw [hg];exact (below_size za_):w.heap.size≤gb431));clear HB;obtain ⟨HB,BK431,GW431,GE431⟩:=n_;clear hb hbox hg;obtain ⟨hcz16_0,hcz16_1,hfz16_0,hfz16_1⟩:=zk2 BK431.out)|(go_at_call 10;(with_reducible refine (impl_IsTable.calls k a0_0 _ _ l0_1 true _ ?side1 ?side2 A3.out).mono ?_);(case side1=>exact zbc_);(case side2=>exact HC0_1.out);rintro e w17 ⟨rfl,hb⟩;have n_:=z (blk_below (zb BK431.out) hb)<|z1 (below_step zcf_ hb);clear BK431 HB;obtain ⟨BK431,HB⟩:=n_;clear hb;obtain ⟨hcz18_0,hcz18_1,hfz18_0,hfz18_1⟩:=zk2 BK431.out)|(go_at_call 52;(with_reducible refine (impl_areBits.calls k _ _ l1 false _ ?side1 ?side2 A6.out).mono ?_);(case side1=>exact zde_);(case side2=>exact HC1.out);rintro e w' ⟨rfl,⟨nd,rfl⟩⟩;(try exact q3d_)));try go_wp2_with (first | ((with_reducible refine gate_dst (N:=2) rfl ?_);(try (refine gate_guard (by rfl) ?_;dsimp only));refine box_event ?hg (N:=2) ?hd (cs:=#[.int .i64 a0_0,.slice A0_1 l0_1.length c0_1]) (t:=26) ?hr ?_;(case hd=>rfl);(case hg=>rfl);(case hr=>exact zb_);intro gb431 hg w15 hbox hb;have n_:=z (below_step za_ hb)<|z (hbox)<|z ((by rw [hg];exact (below_size za_):w.heap.size≤gb431))<|z1 ((by rw [hg];exact (below_size za_):w.heap.size≤gb431));clear HB;obtain ⟨HB,BK431,GW431,GE431⟩:=n_;clear hb hbox hg;obtain ⟨hcz16_0,hcz16_1,hfz16_0,hfz16_1⟩:=zk2 BK431.out)|(go_at_call 10;(with_reducible refine (impl_IsTable.calls k a0_0 _ _ l0_1 true _ ?side1 ?side2 A3.out).mono ?_);(case side1=>exact zbc_);(case side2=>exact HC0_1.out);rintro e w17 ⟨rfl,hb⟩;have n_:=z (blk_below (zb BK431.out) hb)<|z1 (below_step zcf_ hb);clear BK431 HB;obtain ⟨BK431,HB⟩:=n_;clear hb;obtain ⟨hcz18_0,hcz18_1,hfz18_0,hfz18_1⟩:=zk2 BK431.out)|(go_at_call 52;(with_reducible refine (impl_areBits.calls k _ _ l1 false _ ?side1 ?side2 A6.out).mono ?_);(case side1=>exact zde_);(case side2=>exact HC1.out);rintro e w' ⟨rfl,⟨nd,rfl⟩⟩;(try exact q3d_))))
    go_ret2
    exact ⟨zh_,zcf_⟩
  ·rw [if_neg c5] at H
   have c5b0:=beq_eq_false_iff_ne.mpr c5;have c5b1:=bne_iff_ne.mpr c5
   simp only [Option.some.injEq,Prod.mk.injEq] at H
   obtain ⟨rfl,rfl⟩:=H
   go_enter Tryd.func44,Tryd.ntmps44
   go_wp2_with (first | ((with_reducible refine gate_dst (N:=2) rfl ?_);(try (refine gate_guard (by rfl) ?_;dsimp only));refine box_event ?hg (N:=2) ?hd (cs:=#[.int .i64 a0_0,.slice A0_1 l0_1.length c0_1]) (t:=26) ?hr ?_;(case hd=>rfl);(case hg=>rfl);(case hr=>exact zb_);intro gb431 hg w19 hbox hb;have n_:=z (below_step za_ hb)<|z (hbox)<|z ((by rw [hg];exact (below_size za_):w.heap.size≤gb431))<|z1 ((by rw [hg];exact (below_size za_):w.heap.size≤gb431));clear HB;obtain ⟨HB,BK431,GW431,GE431⟩:=n_;clear hb hbox hg;obtain ⟨hcz20_0,hcz20_1,hfz20_0,hfz20_1⟩:=zk2 BK431.out)|(go_at_call 10;(with_reducible refine (impl_IsTable.calls k a0_0 _ _ l0_1 true _ ?side1 ?side2 A3.out).mono ?_);(case side1=>exact zbc_);(case side2=>exact HC0_1.out);rintro e w21 ⟨rfl,hb⟩;have n_:=z (blk_below (zb BK431.out) hb)<|z1 (below_step zcf_ hb);clear BK431 HB;obtain ⟨BK431,HB⟩:=n_;clear hb;obtain ⟨hcz22_0,hcz22_1,hfz22_0,hfz22_1⟩:=zk2 BK431.out))
   repeat (go_quiet (first | ((with_reducible refine gate_dst (N:=2) rfl ?_);(try (refine gate_guard (by rfl) ?_;dsimp only));refine box_event ?hg (N:=2) ?hd (cs:=#[.int .i64 a0_0,.slice A0_1 l0_1.length c0_1]) (t:=26) ?hr ?_;(case hd=>rfl);(case hg=>rfl);(case hr=>exact zb_);intro gb431 hg w19 hbox hb;have n_:=z (below_step za_ hb)<|z (hbox)<|z ((by rw [hg];exact (below_size za_):w.heap.size≤gb431))<|z1 ((by rw [hg];exact (below_size za_):w.heap.size≤gb431));clear HB;obtain ⟨HB,BK431,GW431,GE431⟩:=n_;clear hb hbox hg;obtain ⟨hcz20_0,hcz20_1,hfz20_0,hfz20_1⟩:=zk2 BK431.out)|(go_at_call 10;(with_reducible refine (impl_IsTable.calls k a0_0 _ _ l0_1 true _ ?side1 ?side2 A3.out).mono ?_);(case side1=>exact zbc_);(case side2=>exact HC0_1.out);rintro e w21 ⟨rfl,hb⟩;have n_:=z (blk_below (zb BK431.out) hb)<|z1 (below_step zcf_ hb);clear BK431 HB;obtain ⟨BK431,HB⟩:=n_;clear hb;obtain ⟨hcz22_0,hcz22_1,hfz22_0,hfz22_1⟩:=zk2 BK431.out));try go_wp2_with (first | ((with_reducible refine gate_dst (N:=2) rfl ?_);(try (refine gate_guard (by rfl) ?_;dsimp only));refine box_event ?hg (N:=2) ?hd (cs:=#[.int .i64 a0_0,.slice A0_1 l0_1.length c0_1]) (t:=26) ?hr ?_;(case hd=>rfl);(case hg=>rfl);(case hr=>exact zb_);intro gb431 hg w19 hbox hb;have n_:=z (below_step za_ hb)<|z (hbox)<|z ((by rw [hg];exact (below_size za_):w.heap.size≤gb431))<|z1 ((by rw [hg];exact (below_size za_):w.heap.size≤gb431));clear HB;obtain ⟨HB,BK431,GW431,GE431⟩:=n_;clear hb hbox hg;obtain ⟨hcz20_0,hcz20_1,hfz20_0,hfz20_1⟩:=zk2 BK431.out)|(go_at_call 10;(with_reducible refine (impl_IsTable.calls k a0_0 _ _ l0_1 true _ ?side1 ?side2 A3.out).mono ?_);(case side1=>exact zbc_);(case side2=>exact HC0_1.out);rintro e w21 ⟨rfl,hb⟩;have n_:=z (blk_below (zb BK431.out) hb)<|z1 (below_step zcf_ hb);clear BK431 HB;obtain ⟨BK431,HB⟩:=n_;clear hb;obtain ⟨hcz22_0,hcz22_1,hfz22_0,hfz22_1⟩:=zk2 BK431.out)))
   go_ret2
   exact ⟨zh_,zcf_⟩
 ·replace c4:=Bool.eq_false_iff.mpr c4
  subst c4;have H1:(some (0,false))=some (r1,r2):=by rw [if_neg (show ¬ (false=true) by decide)] at H;exact H
  clear H;have H:=H1;clear H1
  simp only [Option.some.injEq,Prod.mk.injEq] at H
  obtain ⟨rfl,rfl⟩:=H
  go_enter Tryd.func44,Tryd.ntmps44
  go_wp2_with (first | ((with_reducible refine gate_dst (N:=2) rfl ?_);(try (refine gate_guard (by rfl) ?_;dsimp only));refine box_event ?hg (N:=2) ?hd (cs:=#[.int .i64 a0_0,.slice A0_1 l0_1.length c0_1]) (t:=26) ?hr ?_;(case hd=>rfl);(case hg=>rfl);(case hr=>exact zb_);intro gb431 hg w23 hbox hb;have n_:=z (below_step za_ hb)<|z (hbox)<|z ((by rw [hg];exact (below_size za_):w.heap.size≤gb431))<|z1 ((by rw [hg];exact (below_size za_):w.heap.size≤gb431));clear HB;obtain ⟨HB,BK431,GW431,GE431⟩:=n_;clear hb hbox hg;obtain ⟨hcz24_0,hcz24_1,hfz24_0,hfz24_1⟩:=zk2 BK431.out)|(go_at_call 10;(with_reducible refine (impl_IsTable.calls k a0_0 _ _ l0_1 false _ ?side1 ?side2 A3.out).mono ?_);(case side1=>exact zbc_);(case side2=>exact HC0_1.out);rintro e w25 ⟨rfl,hb⟩;have n_:=z (blk_below (zb BK431.out) hb)<|z1 (below_step zcf_ hb);clear BK431 HB;obtain ⟨BK431,HB⟩:=n_;clear hb))
  repeat (go_quiet (first | ((with_reducible refine gate_dst (N:=2) rfl ?_);(try (refine gate_guard (by rfl) ?_;dsimp only));refine box_event ?hg (N:=2) ?hd (cs:=#[.int .i64 a0_0,.slice A0_1 l0_1.length c0_1]) (t:=26) ?hr ?_;(case hd=>rfl);(case hg=>rfl);(case hr=>exact zb_);intro gb431 hg w23 hbox hb;have n_:=z (below_step za_ hb)<|z (hbox)<|z ((by rw [hg];exact (below_size za_):w.heap.size≤gb431))<|z1 ((by rw [hg];exact (below_size za_):w.heap.size≤gb431));clear HB;obtain ⟨HB,BK431,GW431,GE431⟩:=n_;clear hb hbox hg;obtain ⟨hcz24_0,hcz24_1,hfz24_0,hfz24_1⟩:=zk2 BK431.out)|(go_at_call 10;(with_reducible refine (impl_IsTable.calls k a0_0 _ _ l0_1 false _ ?side1 ?side2 A3.out).mono ?_);(case side1=>exact zbc_);(case side2=>exact HC0_1.out);rintro e w25 ⟨rfl,hb⟩;have n_:=z (blk_below (zb BK431.out) hb)<|z1 (below_step zcf_ hb);clear BK431 HB;obtain ⟨BK431,HB⟩:=n_;clear hb));try go_wp2_with (first | ((with_reducible refine gate_dst (N:=2) rfl ?_);(try (refine gate_guard (by rfl) ?_;dsimp only));refine box_event ?hg (N:=2) ?hd (cs:=#[.int .i64 a0_0,.slice A0_1 l0_1.length c0_1]) (t:=26) ?hr ?_;(case hd=>rfl);(case hg=>rfl);(case hr=>exact zb_);intro gb431 hg w23 hbox hb;have n_:=z (below_step za_ hb)<|z (hbox)<|z ((by rw [hg];exact (below_size za_):w.heap.size≤gb431))<|z1 ((by rw [hg];exact (below_size za_):w.heap.size≤gb431));clear HB;obtain ⟨HB,BK431,GW431,GE431⟩:=n_;clear hb hbox hg;obtain ⟨hcz24_0,hcz24_1,hfz24_0,hfz24_1⟩:=zk2 BK431.out)|(go_at_call 10;(with_reducible refine (impl_IsTable.calls k a0_0 _ _ l0_1 false _ ?side1 ?side2 A3.out).mono ?_);(case side1=>exact zbc_);(case side2=>exact HC0_1.out);rintro e w25 ⟨rfl,hb⟩;have n_:=z (blk_below (zb BK431.out) hb)<|z1 (below_step zcf_ hb);clear BK431 HB;obtain ⟨BK431,HB⟩:=n_;clear hb)))
  go_ret2
  exact ⟨zh_,zcf_⟩
def spec_ttIndex.l0:Nat→Int→List Int→Int→Int→Option (Int)
 | 0,_,_,_,_=>none
 | k+1,x3,x6,x7,x8=>if x8<x7 then (if 0≤x8 then (if x8<(x6.length:Int) then (if 0≤(IntKind.u64.wrap (x8)) then (spec_ttIndex.l0 k (wrap64 (x3+(shl .i64 (rd x6 x8) (IntKind.u64.wrap (x8))))) x6 x7 (wrap64 (x8+1))) else (none)) else (none)) else (none)) else (some x3)
def spec_ttIndex.f (k:Nat) (l0:List Int):Option (Int):=spec_ttIndex.l0 k 0 l0 (l0.length:Int) 0
theorem spec_ttIndex.calls (k:Nat) (A0:Option Addr) (c0:Nat) (l0:List Int) (r:Int) (w:World) (hr0:Kd.C (Kd.int .i64) w A0 l0.length l0) (hc0:l0.length≤c0) (h:spec_ttIndex.f k l0=some r) :
  Calls Tryd.prog 65 #[.slice A0 l0.length c0] w fun e w'=>e = .returned (.int .i64 r)∧Drawn0 w w':=by
 have HR0:=aM hr0
 have HC0:=aM hc0
 clear hr0 hc0
 have H:(spec_ttIndex.l0 k 0 l0 (l0.length:Int) 0)=some r:=h
 clear h
 have H':=aM H
 clear H
 go_enter Tryd.func65,Tryd.ntmps65
 go_wp2
 go_loopg [3,8] k (fun kq v3 v8 w' => ∃ (x3_1:Int) (x8_1:Int),v3 = .int .i64 x3_1∧v8 = .int .i64 x8_1∧Aside0 (spec_ttIndex.l0 kq x3_1 l0 (l0.length:Int) x8_1=some r)∧Aside0 (kq≤k)∧Drawn0 w w')
 case atStart=>exact ⟨(0),(0),zc_,zc_,H',⟨Nat.le_refl _⟩,zj_⟩
 case round =>
  clear H';obtain ⟨x3_1,x8_1,rfl,rfl,HA,HK1,⟨m1,rfl⟩⟩:=hrel
  cases gk with
  | zero=>exact absurd HA.out (by simp [spec_ttIndex.l0])
  | succ k1 =>
   have H:=HA.out;clear HA
   simp only [spec_ttIndex.l0] at H
   by_cases c2:x8_1<(l0.length:Int)
   ·rw [if_pos c2] at H
    have c2b0:=decide_eq_true c2;clear c2
    by_cases c3:0≤x8_1
    ·rw [if_pos c3] at H
     have c3b0:=decide_eq_true c3;clear c3
     by_cases c4:x8_1<(l0.length:Int)
     ·rw [if_pos c4] at H
      have c4b0:=decide_eq_true c4;clear c4;obtain ⟨ji5,hji5⟩:∃ j_:Int,(IntKind.u64.wrap (x8_1))=j_:=⟨_,rfl⟩;replace H:(if 0≤(ji5) then (spec_ttIndex.l0 k1 (wrap64 (x3_1+(shl .i64 (rd l0 x8_1) (ji5)))) l0 (l0.length:Int) (wrap64 (x8_1+1))) else (none))=some r:=by first | (rw [hji5] at H;exact H)|(simp only [hji5] at H ⊢;exact H)
      by_cases c6:0≤(ji5)
      ·rw [if_pos c6] at H
       have c6b0:=eq_true c6;have c6b1:=decide_eq_true c6;clear c6;obtain ⟨ji7,hji7⟩:∃ j_:Int,(shl .i64 (rd l0 x8_1) (ji5))=j_:=⟨_,rfl⟩;replace H:(spec_ttIndex.l0 k1 (wrap64 (x3_1+(ji7))) l0 (l0.length:Int) (wrap64 (x8_1+1)))=some r:=by first | (rw [hji7] at H;exact H)|(simp only [hji7] at H ⊢;exact H)
       have hji7_:(IntKind.i64.wrap ((rd l0 x8_1) * 2 ^ min (ji5).toNat 64))=ji7:=hji7;have hji7z:(ji5)≤64→(IntKind.i64.wrap ((rd l0 x8_1) * 2 ^ (ji5).toNat))=ji7:=shl_small hji7;have hji7y:(wrap64 ((rd l0 x8_1) * 2 ^ min (ji5).toNat 64))=ji7:=(i64_w _).symm.trans hji7_;have hji7x:(ji5)≤64→(wrap64 ((rd l0 x8_1) * 2 ^ (ji5).toNat))=ji7:=fun h_=>(i64_w _).symm.trans (hji7z h_)
       have H':=aM H;clear H;have p436:0≤(x8_1:Int):=of_decide_eq_true zd_;have q436:x8_1<(l0.length:Int):=of_decide_eq_true zd_;obtain ⟨ad436,e436,hx436_0⟩:=Kd.at_int HR0.out x8_1 p436 q436
       cases e436
       replace p436:=eq_true p436;replace q436:=eq_true q436
       go_wp2
       go_roundg k1
       case measure=>have:=HK1.out;omega
       case rel=>exact ⟨(wrap64 (x3_1+(ji7))),(wrap64 (x8_1+1)),(by first | rfl | (simp;done)|(simp only [← hji7] <;> (first | rfl | simp))|(simp [*];done)),zc_,H',⟨zcc_⟩,zj_⟩
      ·rw [if_neg c6] at H
       exact q3n_ H
     ·rw [if_neg c4] at H
      exact q3n_ H
    ·rw [if_neg c3] at H
     exact q3n_ H
   ·rw [if_neg c2] at H
    have c2b0:=decide_eq_false c2;clear c2;obtain rfl:=Option.some.inj H
    go_wp2
    go_ret
    exact ⟨zc_,zj_⟩
def spec_ValueAt.f (k:Nat) (a0_0:Int) (l0_1:List Int) (l1:List Int):Option (Int×Bool):=(spec_ttGood.f k a0_0 l0_1).bind fun t438=>(if t438=true then (if (l1.length:Int)=a0_0 then ((spec_l1All.f k l1 0 1).bind fun t439=>(if t439=true then ((spec_ttIndex.f k l1).bind fun t440=>(if 0≤t440 then (if t440<(l0_1.length:Int) then (some (rd l0_1 t440,true)) else (none)) else (none))) else (some (0,false)))) else (some (0,false))) else (some (0,false)))
theorem spec_ValueAt.calls (k:Nat) (a0_0:Int) (A0_1:Option Addr) (c0_1:Nat) (l0_1:List Int) (A1:Option Addr) (c1:Nat) (l1:List Int) (r1:Int) (r2:Bool) (w:World) (hr0_1:Kd.C (Kd.int .i64) w A0_1 l0_1.length l0_1) (hc0_1:l0_1.length≤c0_1) (hr1:Kd.C (Kd.int .i64) w A1 l1.length l1) (hc1:l1.length≤c1) (h:spec_ValueAt.f k a0_0 l0_1 l1=some (r1,r2)) :
  Calls Tryd.prog 45 #[.agg #[.int .i64 a0_0,.slice A0_1 l0_1.length c0_1],.slice A1 l1.length c1] w fun e w'=>e = .returned (.tuple #[.int .i64 r1,.bool r2])∧Below w.heap.size w w':=by
 have hu26:=Tryd.underlying26
 have HR0_1:=aM hr0_1
 have HC0_1:=aM hc0_1
 clear hr0_1 hc0_1
 have HR1:=aM hr1
 have HC1:=aM hc1
 clear hr1 hc1
 have HB:=aM (Below.refl w.heap.size w)
 have H:((spec_ttGood.f k a0_0 l0_1).bind fun t438=>(if t438=true then (if (l1.length:Int)=a0_0 then ((spec_l1All.f k l1 0 1).bind fun t439=>(if t439=true then ((spec_ttIndex.f k l1).bind fun t440=>(if 0≤t440 then (if t440<(l0_1.length:Int) then (some (rd l0_1 t440,true)) else (none)) else (none))) else (some (0,false)))) else (some (0,false))) else (some (0,false))))=some (r1,r2):=h
 clear h
 replace H:=oB.mp H
 obtain ⟨t438,A30,H⟩:=H
 replace H:(if t438=true then (if (l1.length:Int)=a0_0 then ((spec_l1All.f k l1 0 1).bind fun t439=>(if t439=true then ((spec_ttIndex.f k l1).bind fun t440=>(if 0≤t440 then (if t440<(l0_1.length:Int) then (some (rd l0_1 t440,true)) else (none)) else (none))) else (some (0,false)))) else (some (0,false))) else (some (0,false)))=some (r1,r2):=H
 have A3:=aM A30
 clear A30
 by_cases c4:t438=true
 ·subst c4
  have H1:(if (l1.length:Int)=a0_0 then ((spec_l1All.f k l1 0 1).bind fun t439=>(if t439=true then ((spec_ttIndex.f k l1).bind fun t440=>(if 0≤t440 then (if t440<(l0_1.length:Int) then (some (rd l0_1 t440,true)) else (none)) else (none))) else (some (0,false)))) else (some (0,false)))=some (r1,r2):=by rw [if_pos rfl] at H;exact H
  clear H;have H:=H1;clear H1
  by_cases c5:(l1.length:Int)=a0_0
  ·rw [if_pos c5] at H
   have c5b0:=beq_iff_eq.mpr c5;have c5b1:=bne_eq_false_iff_eq.mpr c5;clear c5;replace H:=oB.mp H;obtain ⟨t439,A60,H⟩:=H;replace H:(if t439=true then ((spec_ttIndex.f k l1).bind fun t440=>(if 0≤t440 then (if t440<(l0_1.length:Int) then (some (rd l0_1 t440,true)) else (none)) else (none))) else (some (0,false)))=some (r1,r2):=H;have A6:=aM A60;clear A60
   by_cases c7:t439=true
   ·subst c7
    have H1:((spec_ttIndex.f k l1).bind fun t440=>(if 0≤t440 then (if t440<(l0_1.length:Int) then (some (rd l0_1 t440,true)) else (none)) else (none)))=some (r1,r2):=by rw [if_pos rfl] at H;exact H
    clear H;have H:=H1;clear H1;replace H:=oB.mp H;obtain ⟨t440,A80,H⟩:=H;replace H:(if 0≤t440 then (if t440<(l0_1.length:Int) then (some (rd l0_1 t440,true)) else (none)) else (none))=some (r1,r2):=H;have A8:=aM A80;clear A80
    by_cases c9:0≤t440
    ·rw [if_pos c9] at H
     have c9b0:=decide_eq_true c9;clear c9
     by_cases c10:t440<(l0_1.length:Int)
     ·rw [if_pos c10] at H
      have c10b0:=decide_eq_true c10;clear c10
      simp only [Option.some.injEq,Prod.mk.injEq] at H
      obtain ⟨rfl,rfl⟩:=H
      go_enter Tryd.func45,Tryd.ntmps45
      go_wp2_with (first | ((with_reducible refine gate_dst (N:=2) rfl ?_);(try (refine gate_guard (by rfl) ?_;dsimp only));refine box_event ?hg (N:=2) ?hd (cs:=#[.int .i64 a0_0,.slice A0_1 l0_1.length c0_1]) (t:=26) ?hr ?_;(case hd=>rfl);(case hg=>rfl);(case hr=>exact zb_);intro gb437 hg w11 hbox hb;have n_:=z (below_step za_ hb)<|z (hbox)<|z ((by rw [hg];exact (below_size za_):w.heap.size≤gb437))<|z1 ((by rw [hg];exact (below_size za_):w.heap.size≤gb437));clear HB;obtain ⟨HB,BK437,GW437,GE437⟩:=n_;clear hb hbox hg;obtain ⟨hcz12_0,hcz12_1,hfz12_0,hfz12_1⟩:=zk2 BK437.out)|(go_at_call 50;(with_reducible refine (spec_ttGood.calls k a0_0 _ _ l0_1 true _ ?side1 ?side2 A3.out).mono ?_);(case side1=>exact zbc_);(case side2=>exact HC0_1.out);rintro e w13 ⟨rfl,hb⟩;have n_:=z (blk_below (zb BK437.out) hb)<|z1 (below_step zcg_ hb);clear BK437 HB;obtain ⟨BK437,HB⟩:=n_;clear hb;obtain ⟨hcz14_0,hcz14_1,hfz14_0,hfz14_1⟩:=zk2 BK437.out)|(go_at_call 63;(with_reducible refine (spec_l1All.calls k _ _ l1 0 1 true _ ?side1 ?side2 A6.out).mono ?_);(case side1=>exact zde_);(case side2=>exact HC1.out);rintro e w' ⟨rfl,⟨nd,rfl⟩⟩;(try exact q3d_))|(go_at_call 65;(with_reducible refine (spec_ttIndex.calls k _ _ l1 t440 _ ?side1 ?side2 A8.out).mono ?_);(case side1=>exact zbca_);(case side2=>exact HC1.out);rintro e w' ⟨rfl,⟨nd,rfl⟩⟩;(try exact q3d_);have p441:0≤(t440:Int):=of_decide_eq_true zd_;have q441:t440<(l0_1.length:Int):=of_decide_eq_true zd_;obtain ⟨ad441,e441,hx441_0⟩:=Kd.at_int HR0_1.out t440 p441 q441;cases e441;replace hx441_0:=(HB.out.cell (World.block_lt_of_cell? w _ hx441_0)).trans hx441_0;replace p441:=eq_true p441;replace q441:=eq_true q441))
      repeat (go_quiet (first | ((with_reducible refine gate_dst (N:=2) rfl ?_);(try (refine gate_guard (by rfl) ?_;dsimp only));refine box_event ?hg (N:=2) ?hd (cs:=#[.int .i64 a0_0,.slice A0_1 l0_1.length c0_1]) (t:=26) ?hr ?_;(case hd=>rfl);(case hg=>rfl);(case hr=>exact zb_);intro gb437 hg w11 hbox hb;have n_:=z (below_step za_ hb)<|z (hbox)<|z ((by rw [hg];exact (below_size za_):w.heap.size≤gb437))<|z1 ((by rw [hg];exact (below_size za_):w.heap.size≤gb437));clear HB;obtain ⟨HB,BK437,GW437,GE437⟩:=n_;clear hb hbox hg;obtain ⟨hcz12_0,hcz12_1,hfz12_0,hfz12_1⟩:=zk2 BK437.out)|(go_at_call 50;(with_reducible refine (spec_ttGood.calls k a0_0 _ _ l0_1 true _ ?side1 ?side2 A3.out).mono ?_);(case side1=>exact zbc_);(case side2=>exact HC0_1.out);rintro e w13 ⟨rfl,hb⟩;have n_:=z (blk_below (zb BK437.out) hb)<|z1 (below_step zcg_ hb);clear BK437 HB;obtain ⟨BK437,HB⟩:=n_;clear hb;obtain ⟨hcz14_0,hcz14_1,hfz14_0,hfz14_1⟩:=zk2 BK437.out)|(go_at_call 63;(with_reducible refine (spec_l1All.calls k _ _ l1 0 1 true _ ?side1 ?side2 A6.out).mono ?_);(case side1=>exact zde_);(case side2=>exact HC1.out);rintro e w' ⟨rfl,⟨nd,rfl⟩⟩;(try exact q3d_))|(go_at_call 65;(with_reducible refine (spec_ttIndex.calls k _ _ l1 t440 _ ?side1 ?side2 A8.out).mono ?_);(case side1=>exact zbca_);(case side2=>exact HC1.out);rintro e w' ⟨rfl,⟨nd,rfl⟩⟩;(try exact q3d_);have p441:0≤(t440:Int):=of_decide_eq_true zd_;have q441:t440<(l0_1.length:Int):=of_decide_eq_true zd_;obtain ⟨ad441,e441,hx441_0⟩:=Kd.at_int HR0_1.out t440 p441 q441;cases e441;replace hx441_0:=(HB.out.cell (World.block_lt_of_cell? w _ hx441_0)).trans hx441_0;replace p441:=eq_true p441;replace q441:=eq_true q441));try go_wp2_with (first | ((with_reducible refine gate_dst (N:=2) rfl ?_);(try (refine gate_guard (by rfl) ?_;dsimp only));refine box_event ?hg (N:=2) ?hd (cs:=#[.int .i64 a0_0,.slice A0_1 l0_1.length c0_1]) (t:=26) ?hr ?_;(case hd=>rfl);(case hg=>rfl);(case hr=>exact zb_);intro gb437 hg w11 hbox hb;have n_:=z (below_step za_ hb)<|z (hbox)<|z ((by rw [hg];exact (below_size za_):w.heap.size≤gb437))<|z1 ((by rw [hg];exact (below_size za_):w.heap.size≤gb437));clear HB;obtain ⟨HB,BK437,GW437,GE437⟩:=n_;clear hb hbox hg;obtain ⟨hcz12_0,hcz12_1,hfz12_0,hfz12_1⟩:=zk2 BK437.out)|(go_at_call 50;(with_reducible refine (spec_ttGood.calls k a0_0 _ _ l0_1 true _ ?side1 ?side2 A3.out).mono ?_);(case side1=>exact zbc_);(case side2=>exact HC0_1.out);rintro e w13 ⟨rfl,hb⟩;have n_:=z (blk_below (zb BK437.out) hb)<|z1 (below_step zcg_ hb);clear BK437 HB;obtain ⟨BK437,HB⟩:=n_;clear hb;obtain ⟨hcz14_0,hcz14_1,hfz14_0,hfz14_1⟩:=zk2 BK437.out)|(go_at_call 63;(with_reducible refine (spec_l1All.calls k _ _ l1 0 1 true _ ?side1 ?side2 A6.out).mono ?_);(case side1=>exact zde_);(case side2=>exact HC1.out);rintro e w' ⟨rfl,⟨nd,rfl⟩⟩;(try exact q3d_))|(go_at_call 65;(with_reducible refine (spec_ttIndex.calls k _ _ l1 t440 _ ?side1 ?side2 A8.out).mono ?_);(case side1=>exact zbca_);(case side2=>exact HC1.out);rintro e w' ⟨rfl,⟨nd,rfl⟩⟩;(try exact q3d_);have p441:0≤(t440:Int):=of_decide_eq_true zd_;have q441:t440<(l0_1.length:Int):=of_decide_eq_true zd_;obtain ⟨ad441,e441,hx441_0⟩:=Kd.at_int HR0_1.out t440 p441 q441;cases e441;replace hx441_0:=(HB.out.cell (World.block_lt_of_cell? w _ hx441_0)).trans hx441_0;replace p441:=eq_true p441;replace q441:=eq_true q441)))
      go_ret2
      exact ⟨zh_,zcg_⟩
     ·rw [if_neg c10] at H
      exact q3n_ H
    ·rw [if_neg c9] at H
     exact q3n_ H
   ·replace c7:=Bool.eq_false_iff.mpr c7
    subst c7;have H1:(some (0,false))=some (r1,r2):=by rw [if_neg (show ¬ (false=true) by decide)] at H;exact H
    clear H;have H:=H1;clear H1
    simp only [Option.some.injEq,Prod.mk.injEq] at H
    obtain ⟨rfl,rfl⟩:=H
    go_enter Tryd.func45,Tryd.ntmps45
    go_wp2_with (first | ((with_reducible refine gate_dst (N:=2) rfl ?_);(try (refine gate_guard (by rfl) ?_;dsimp only));refine box_event ?hg (N:=2) ?hd (cs:=#[.int .i64 a0_0,.slice A0_1 l0_1.length c0_1]) (t:=26) ?hr ?_;(case hd=>rfl);(case hg=>rfl);(case hr=>exact zb_);intro gb437 hg w15 hbox hb;have n_:=z (below_step za_ hb)<|z (hbox)<|z ((by rw [hg];exact (below_size za_):w.heap.size≤gb437))<|z1 ((by rw [hg];exact (below_size za_):w.heap.size≤gb437));clear HB;obtain ⟨HB,BK437,GW437,GE437⟩:=n_;clear hb hbox hg;obtain ⟨hcz16_0,hcz16_1,hfz16_0,hfz16_1⟩:=zk2 BK437.out)|(go_at_call 50;(with_reducible refine (spec_ttGood.calls k a0_0 _ _ l0_1 true _ ?side1 ?side2 A3.out).mono ?_);(case side1=>exact zbc_);(case side2=>exact HC0_1.out);rintro e w17 ⟨rfl,hb⟩;have n_:=z (blk_below (zb BK437.out) hb)<|z1 (below_step zcg_ hb);clear BK437 HB;obtain ⟨BK437,HB⟩:=n_;clear hb;obtain ⟨hcz18_0,hcz18_1,hfz18_0,hfz18_1⟩:=zk2 BK437.out)|(go_at_call 63;(with_reducible refine (spec_l1All.calls k _ _ l1 0 1 false _ ?side1 ?side2 A6.out).mono ?_);(case side1=>exact zde_);(case side2=>exact HC1.out);rintro e w' ⟨rfl,⟨nd,rfl⟩⟩;(try exact q3d_)))
    repeat (go_quiet (first | ((with_reducible refine gate_dst (N:=2) rfl ?_);(try (refine gate_guard (by rfl) ?_;dsimp only));refine box_event ?hg (N:=2) ?hd (cs:=#[.int .i64 a0_0,.slice A0_1 l0_1.length c0_1]) (t:=26) ?hr ?_;(case hd=>rfl);(case hg=>rfl);(case hr=>exact zb_);intro gb437 hg w15 hbox hb;have n_:=z (below_step za_ hb)<|z (hbox)<|z ((by rw [hg];exact (below_size za_):w.heap.size≤gb437))<|z1 ((by rw [hg];exact (below_size za_):w.heap.size≤gb437));clear HB;obtain ⟨HB,BK437,GW437,GE437⟩:=n_;clear hb hbox hg;obtain ⟨hcz16_0,hcz16_1,hfz16_0,hfz16_1⟩:=zk2 BK437.out)|(go_at_call 50;(with_reducible refine (spec_ttGood.calls k a0_0 _ _ l0_1 true _ ?side1 ?side2 A3.out).mono ?_);(case side1=>exact zbc_);(case side2=>exact HC0_1.out);rintro e w17 ⟨rfl,hb⟩;have n_:=z (blk_below (zb BK437.out) hb)<|z1 (below_step zcg_ hb);clear BK437 HB;obtain ⟨BK437,HB⟩:=n_;clear hb;obtain ⟨hcz18_0,hcz18_1,hfz18_0,hfz18_1⟩:=zk2 BK437.out)|(go_at_call 63;(with_reducible refine (spec_l1All.calls k _ _ l1 0 1 false _ ?side1 ?side2 A6.out).mono ?_);(case side1=>exact zde_);(case side2=>exact HC1.out);rintro e w' ⟨rfl,⟨nd,rfl⟩⟩;(try exact q3d_)));try go_wp2_with (first | ((with_reducible refine gate_dst (N:=2) rfl ?_);(try (refine gate_guard (by rfl) ?_;dsimp only));refine box_event ?hg (N:=2) ?hd (cs:=#[.int .i64 a0_0,.slice A0_1 l0_1.length c0_1]) (t:=26) ?hr ?_;(case hd=>rfl);(case hg=>rfl);(case hr=>exact zb_);intro gb437 hg w15 hbox hb;have n_:=z (below_step za_ hb)<|z (hbox)<|z ((by rw [hg];exact (below_size za_):w.heap.size≤gb437))<|z1 ((by rw [hg];exact (below_size za_):w.heap.size≤gb437));clear HB;obtain ⟨HB,BK437,GW437,GE437⟩:=n_;clear hb hbox hg;obtain ⟨hcz16_0,hcz16_1,hfz16_0,hfz16_1⟩:=zk2 BK437.out)|(go_at_call 50;(with_reducible refine (spec_ttGood.calls k a0_0 _ _ l0_1 true _ ?side1 ?side2 A3.out).mono ?_);(case side1=>exact zbc_);(case side2=>exact HC0_1.out);rintro e w17 ⟨rfl,hb⟩;have n_:=z (blk_below (zb BK437.out) hb)<|z1 (below_step zcg_ hb);clear BK437 HB;obtain ⟨BK437,HB⟩:=n_;clear hb;obtain ⟨hcz18_0,hcz18_1,hfz18_0,hfz18_1⟩:=zk2 BK437.out)|(go_at_call 63;(with_reducible refine (spec_l1All.calls k _ _ l1 0 1 false _ ?side1 ?side2 A6.out).mono ?_);(case side1=>exact zde_);(case side2=>exact HC1.out);rintro e w' ⟨rfl,⟨nd,rfl⟩⟩;(try exact q3d_))))
    go_ret2
    exact ⟨zh_,zcg_⟩
  ·rw [if_neg c5] at H
   have c5b0:=beq_eq_false_iff_ne.mpr c5;have c5b1:=bne_iff_ne.mpr c5
   simp only [Option.some.injEq,Prod.mk.injEq] at H
   obtain ⟨rfl,rfl⟩:=H
   go_enter Tryd.func45,Tryd.ntmps45
   go_wp2_with (first | ((with_reducible refine gate_dst (N:=2) rfl ?_);(try (refine gate_guard (by rfl) ?_;dsimp only));refine box_event ?hg (N:=2) ?hd (cs:=#[.int .i64 a0_0,.slice A0_1 l0_1.length c0_1]) (t:=26) ?hr ?_;(case hd=>rfl);(case hg=>rfl);(case hr=>exact zb_);intro gb437 hg w19 hbox hb;have n_:=z (below_step za_ hb)<|z (hbox)<|z ((by rw [hg];exact (below_size za_):w.heap.size≤gb437))<|z1 ((by rw [hg];exact (below_size za_):w.heap.size≤gb437));clear HB;obtain ⟨HB,BK437,GW437,GE437⟩:=n_;clear hb hbox hg;obtain ⟨hcz20_0,hcz20_1,hfz20_0,hfz20_1⟩:=zk2 BK437.out)|(go_at_call 50;(with_reducible refine (spec_ttGood.calls k a0_0 _ _ l0_1 true _ ?side1 ?side2 A3.out).mono ?_);(case side1=>exact zbc_);(case side2=>exact HC0_1.out);rintro e w21 ⟨rfl,hb⟩;have n_:=z (blk_below (zb BK437.out) hb)<|z1 (below_step zcg_ hb);clear BK437 HB;obtain ⟨BK437,HB⟩:=n_;clear hb;obtain ⟨hcz22_0,hcz22_1,hfz22_0,hfz22_1⟩:=zk2 BK437.out))
   repeat (go_quiet (first | ((with_reducible refine gate_dst (N:=2) rfl ?_);(try (refine gate_guard (by rfl) ?_;dsimp only));refine box_event ?hg (N:=2) ?hd (cs:=#[.int .i64 a0_0,.slice A0_1 l0_1.length c0_1]) (t:=26) ?hr ?_;(case hd=>rfl);(case hg=>rfl);(case hr=>exact zb_);intro gb437 hg w19 hbox hb;have n_:=z (below_step za_ hb)<|z (hbox)<|z ((by rw [hg];exact (below_size za_):w.heap.size≤gb437))<|z1 ((by rw [hg];exact (below_size za_):w.heap.size≤gb437));clear HB;obtain ⟨HB,BK437,GW437,GE437⟩:=n_;clear hb hbox hg;obtain ⟨hcz20_0,hcz20_1,hfz20_0,hfz20_1⟩:=zk2 BK437.out)|(go_at_call 50;(with_reducible refine (spec_ttGood.calls k a0_0 _ _ l0_1 true _ ?side1 ?side2 A3.out).mono ?_);(case side1=>exact zbc_);(case side2=>exact HC0_1.out);rintro e w21 ⟨rfl,hb⟩;have n_:=z (blk_below (zb BK437.out) hb)<|z1 (below_step zcg_ hb);clear BK437 HB;obtain ⟨BK437,HB⟩:=n_;clear hb;obtain ⟨hcz22_0,hcz22_1,hfz22_0,hfz22_1⟩:=zk2 BK437.out));try go_wp2_with (first | ((with_reducible refine gate_dst (N:=2) rfl ?_);(try (refine gate_guard (by rfl) ?_;dsimp only));refine box_event ?hg (N:=2) ?hd (cs:=#[.int .i64 a0_0,.slice A0_1 l0_1.length c0_1]) (t:=26) ?hr ?_;(case hd=>rfl);(case hg=>rfl);(case hr=>exact zb_);intro gb437 hg w19 hbox hb;have n_:=z (below_step za_ hb)<|z (hbox)<|z ((by rw [hg];exact (below_size za_):w.heap.size≤gb437))<|z1 ((by rw [hg];exact (below_size za_):w.heap.size≤gb437));clear HB;obtain ⟨HB,BK437,GW437,GE437⟩:=n_;clear hb hbox hg;obtain ⟨hcz20_0,hcz20_1,hfz20_0,hfz20_1⟩:=zk2 BK437.out)|(go_at_call 50;(with_reducible refine (spec_ttGood.calls k a0_0 _ _ l0_1 true _ ?side1 ?side2 A3.out).mono ?_);(case side1=>exact zbc_);(case side2=>exact HC0_1.out);rintro e w21 ⟨rfl,hb⟩;have n_:=z (blk_below (zb BK437.out) hb)<|z1 (below_step zcg_ hb);clear BK437 HB;obtain ⟨BK437,HB⟩:=n_;clear hb;obtain ⟨hcz22_0,hcz22_1,hfz22_0,hfz22_1⟩:=zk2 BK437.out)))
   go_ret2
   exact ⟨zh_,zcg_⟩
 ·replace c4:=Bool.eq_false_iff.mpr c4
  subst c4;have H1:(some (0,false))=some (r1,r2):=by rw [if_neg (show ¬ (false=true) by decide)] at H;exact H
  clear H;have H:=H1;clear H1
  simp only [Option.some.injEq,Prod.mk.injEq] at H
  obtain ⟨rfl,rfl⟩:=H
  go_enter Tryd.func45,Tryd.ntmps45
  go_wp2_with (first | ((with_reducible refine gate_dst (N:=2) rfl ?_);(try (refine gate_guard (by rfl) ?_;dsimp only));refine box_event ?hg (N:=2) ?hd (cs:=#[.int .i64 a0_0,.slice A0_1 l0_1.length c0_1]) (t:=26) ?hr ?_;(case hd=>rfl);(case hg=>rfl);(case hr=>exact zb_);intro gb437 hg w23 hbox hb;have n_:=z (below_step za_ hb)<|z (hbox)<|z ((by rw [hg];exact (below_size za_):w.heap.size≤gb437))<|z1 ((by rw [hg];exact (below_size za_):w.heap.size≤gb437));clear HB;obtain ⟨HB,BK437,GW437,GE437⟩:=n_;clear hb hbox hg;obtain ⟨hcz24_0,hcz24_1,hfz24_0,hfz24_1⟩:=zk2 BK437.out)|(go_at_call 50;(with_reducible refine (spec_ttGood.calls k a0_0 _ _ l0_1 false _ ?side1 ?side2 A3.out).mono ?_);(case side1=>exact zbc_);(case side2=>exact HC0_1.out);rintro e w25 ⟨rfl,hb⟩;have n_:=z (blk_below (zb BK437.out) hb)<|z1 (below_step zcg_ hb);clear BK437 HB;obtain ⟨BK437,HB⟩:=n_;clear hb))
  repeat (go_quiet (first | ((with_reducible refine gate_dst (N:=2) rfl ?_);(try (refine gate_guard (by rfl) ?_;dsimp only));refine box_event ?hg (N:=2) ?hd (cs:=#[.int .i64 a0_0,.slice A0_1 l0_1.length c0_1]) (t:=26) ?hr ?_;(case hd=>rfl);(case hg=>rfl);(case hr=>exact zb_);intro gb437 hg w23 hbox hb;have n_:=z (below_step za_ hb)<|z (hbox)<|z ((by rw [hg];exact (below_size za_):w.heap.size≤gb437))<|z1 ((by rw [hg];exact (below_size za_):w.heap.size≤gb437));clear HB;obtain ⟨HB,BK437,GW437,GE437⟩:=n_;clear hb hbox hg;obtain ⟨hcz24_0,hcz24_1,hfz24_0,hfz24_1⟩:=zk2 BK437.out)|(go_at_call 50;(with_reducible refine (spec_ttGood.calls k a0_0 _ _ l0_1 false _ ?side1 ?side2 A3.out).mono ?_);(case side1=>exact zbc_);(case side2=>exact HC0_1.out);rintro e w25 ⟨rfl,hb⟩;have n_:=z (blk_below (zb BK437.out) hb)<|z1 (below_step zcg_ hb);clear BK437 HB;obtain ⟨BK437,HB⟩:=n_;clear hb));try go_wp2_with (first | ((with_reducible refine gate_dst (N:=2) rfl ?_);(try (refine gate_guard (by rfl) ?_;dsimp only));refine box_event ?hg (N:=2) ?hd (cs:=#[.int .i64 a0_0,.slice A0_1 l0_1.length c0_1]) (t:=26) ?hr ?_;(case hd=>rfl);(case hg=>rfl);(case hr=>exact zb_);intro gb437 hg w23 hbox hb;have n_:=z (below_step za_ hb)<|z (hbox)<|z ((by rw [hg];exact (below_size za_):w.heap.size≤gb437))<|z1 ((by rw [hg];exact (below_size za_):w.heap.size≤gb437));clear HB;obtain ⟨HB,BK437,GW437,GE437⟩:=n_;clear hb hbox hg;obtain ⟨hcz24_0,hcz24_1,hfz24_0,hfz24_1⟩:=zk2 BK437.out)|(go_at_call 50;(with_reducible refine (spec_ttGood.calls k a0_0 _ _ l0_1 false _ ?side1 ?side2 A3.out).mono ?_);(case side1=>exact zbc_);(case side2=>exact HC0_1.out);rintro e w25 ⟨rfl,hb⟩;have n_:=z (blk_below (zb BK437.out) hb)<|z1 (below_step zcg_ hb);clear BK437 HB;obtain ⟨BK437,HB⟩:=n_;clear hb)))
  go_ret2
  exact ⟨zh_,zcg_⟩
def laws_qInts.l0:Nat→List Int→List Int→Int→Int→Option (Bool)
 | 0,_,_,_,_=>none
 | k+1,x0,x1,x12,x13=>if x13<x12 then (if 0≤x13 then (if x13<(x0.length:Int) then (if x13<(x1.length:Int) then (if (rd x0 x13)=(rd x1 x13) then (laws_qInts.l0 k x0 x1 x12 (wrap64 (x13+1))) else (some false)) else (none)) else (none)) else (none)) else (some true)
def laws_qInts.f (k:Nat) (l0:List Int) (l1:List Int):Option (Bool):=if (l0.length:Int)=(l1.length:Int) then (laws_qInts.l0 k l0 l1 (l0.length:Int) 0) else (some false)
theorem laws_qInts.calls (k:Nat) (A0:Option Addr) (c0:Nat) (l0:List Int) (A1:Option Addr) (c1:Nat) (l1:List Int) (r:Bool) (w:World) (hr0:Kd.C (Kd.int .i64) w A0 l0.length l0) (hc0:l0.length≤c0) (hr1:Kd.C (Kd.int .i64) w A1 l1.length l1) (hc1:l1.length≤c1) (h:laws_qInts.f k l0 l1=some r) :
  Calls Tryd.prog 83 #[.slice A0 l0.length c0,.slice A1 l1.length c1] w fun e w'=>e = .returned (.bool r)∧Drawn0 w w':=by
 have HR0:=aM hr0
 have HC0:=aM hc0
 clear hr0 hc0
 have HR1:=aM hr1
 have HC1:=aM hc1
 clear hr1 hc1
 have H:(if (l0.length:Int)=(l1.length:Int) then (laws_qInts.l0 k l0 l1 (l0.length:Int) 0) else (some false))=some r:=h
 clear h
 by_cases c3:(l0.length:Int)=(l1.length:Int)
 ·rw [if_pos c3] at H
  have c3b0:=beq_iff_eq.mpr c3;have c3b1:=bne_eq_false_iff_eq.mpr c3;have c3b2:(l0.length == l1.length)=true:=by first | simpa using c3 | (simp at c3 ⊢;omega)
  clear c3;have H':=aM H;clear H
  go_enter Tryd.func83,Tryd.ntmps83
  go_wp2
  repeat (go_quiet (fail);try go_wp2)
  go_loopg [13] k (fun kq v13 w' => ∃ (x13_1:Int),v13 = .int .i64 x13_1∧Aside0 (laws_qInts.l0 kq l0 l1 (l0.length:Int) x13_1=some r)∧Aside0 (kq≤k)∧Drawn0 w w')
  case atStart=>exact ⟨(0),zc_,H',⟨Nat.le_refl _⟩,zj_⟩
  case round =>
   clear H';(try clear c3b0);(try clear c3b1);(try clear c3b2);obtain ⟨x13_1,rfl,HA,HK1,⟨m1,rfl⟩⟩:=hrel
   cases gk with
   | zero=>exact absurd HA.out (by simp [laws_qInts.l0])
   | succ k1 =>
    have H:=HA.out;clear HA
    simp only [laws_qInts.l0] at H
    by_cases c4:x13_1<(l0.length:Int)
    ·rw [if_pos c4] at H
     have c4b0:=decide_eq_true c4;clear c4
     by_cases c5:0≤x13_1
     ·rw [if_pos c5] at H
      have c5b0:=decide_eq_true c5;clear c5
      by_cases c6:x13_1<(l0.length:Int)
      ·rw [if_pos c6] at H
       have c6b0:=decide_eq_true c6;clear c6
       by_cases c7:x13_1<(l1.length:Int)
       ·rw [if_pos c7] at H
        have c7b0:=decide_eq_true c7;clear c7
        by_cases c8:(rd l0 x13_1)=(rd l1 x13_1)
        ·rw [if_pos c8] at H
         have c8b0:=beq_iff_eq.mpr c8;have c8b1:=bne_eq_false_iff_eq.mpr c8;clear c8;have H':=aM H;clear H;have p442:0≤(x13_1:Int):=of_decide_eq_true zd_;have q442:x13_1<(l0.length:Int):=of_decide_eq_true zd_;obtain ⟨ad442,e442,hx442_0⟩:=Kd.at_int HR0.out x13_1 p442 q442
         cases e442
         replace p442:=eq_true p442;replace q442:=eq_true q442;have p443:0≤(x13_1:Int):=of_decide_eq_true zd_;have q443:x13_1<(l1.length:Int):=of_decide_eq_true zd_;obtain ⟨ad443,e443,hx443_0⟩:=Kd.at_int HR1.out x13_1 p443 q443
         cases e443
         replace p443:=eq_true p443;replace q443:=eq_true q443
         go_wp2
         repeat (go_quiet (fail);try go_wp2)
         go_roundg k1
         case measure=>have:=HK1.out;omega
         case rel=>exact ⟨(wrap64 (x13_1+1)),zc_,H',⟨zcc_⟩,zj_⟩
        ·rw [if_neg c8] at H
         have c8b0:=beq_eq_false_iff_ne.mpr c8;have c8b1:=bne_iff_ne.mpr c8;obtain rfl:=Option.some.inj H;have p442:0≤(x13_1:Int):=of_decide_eq_true zd_;have q442:x13_1<(l0.length:Int):=of_decide_eq_true zd_;obtain ⟨ad442,e442,hx442_0⟩:=Kd.at_int HR0.out x13_1 p442 q442
         cases e442
         replace p442:=eq_true p442;replace q442:=eq_true q442;have p443:0≤(x13_1:Int):=of_decide_eq_true zd_;have q443:x13_1<(l1.length:Int):=of_decide_eq_true zd_;obtain ⟨ad443,e443,hx443_0⟩:=Kd.at_int HR1.out x13_1 p443 q443
         cases e443
         replace p443:=eq_true p443;replace q443:=eq_true q443
         go_wp2
         repeat (go_quiet (fail);try go_wp2)
         go_ret
         exact ⟨zc_,zj_⟩
       ·rw [if_neg c7] at H
        exact q3n_ H
      ·rw [if_neg c6] at H
       exact q3n_ H
     ·rw [if_neg c5] at H
      exact q3n_ H
    ·rw [if_neg c4] at H
     have c4b0:=decide_eq_false c4;clear c4;obtain rfl:=Option.some.inj H
     go_wp2
     repeat (go_quiet (fail);try go_wp2)
     go_ret
     exact ⟨zc_,zj_⟩
 ·rw [if_neg c3] at H
  have c3b0:=beq_eq_false_iff_ne.mpr c3;have c3b1:=bne_iff_ne.mpr c3;have c3b2:(l0.length == l1.length)=false:=by first | simpa using c3 | (simp at c3 ⊢;omega)
  obtain rfl:=Option.some.inj H
  go_enter Tryd.func83,Tryd.ntmps83
  go_wp2
  repeat (go_quiet (fail);try go_wp2)
  go_ret
  exact ⟨zc_,zj_⟩
def laws_qTable.f (k:Nat) (a0_0:Int) (l0_1:List Int) (a1_0:Int) (l1_1:List Int):Option (Bool):=if a0_0=a1_0 then ((laws_qInts.f k l0_1 l1_1).bind fun t446=>(some t446)) else (some false)
theorem laws_qTable.calls (k:Nat) (a0_0:Int) (A0_1:Option Addr) (c0_1:Nat) (l0_1:List Int) (a1_0:Int) (A1_1:Option Addr) (c1_1:Nat) (l1_1:List Int) (r:Bool) (w:World) (hr0_1:Kd.C (Kd.int .i64) w A0_1 l0_1.length l0_1) (hc0_1:l0_1.length≤c0_1) (hr1_1:Kd.C (Kd.int .i64) w A1_1 l1_1.length l1_1) (hc1_1:l1_1.length≤c1_1) (h:laws_qTable.f k a0_0 l0_1 a1_0 l1_1=some r) :
  Calls Tryd.prog 46 #[.agg #[.int .i64 a0_0,.slice A0_1 l0_1.length c0_1],.agg #[.int .i64 a1_0,.slice A1_1 l1_1.length c1_1]] w fun e w'=>e = .returned (.bool r)∧Below w.heap.size w w':=by
 have hu26:=Tryd.underlying26
 have HR0_1:=aM hr0_1
 have HC0_1:=aM hc0_1
 clear hr0_1 hc0_1
 have HR1_1:=aM hr1_1
 have HC1_1:=aM hc1_1
 clear hr1_1 hc1_1
 have HB:=aM (Below.refl w.heap.size w)
 have H:(if a0_0=a1_0 then ((laws_qInts.f k l0_1 l1_1).bind fun t446=>(some t446)) else (some false))=some r:=h
 clear h
 by_cases c3:a0_0=a1_0
 ·rw [if_pos c3] at H
  have c3b0:=beq_iff_eq.mpr c3;have c3b1:=bne_eq_false_iff_eq.mpr c3;clear c3;replace H:=oB.mp H;obtain ⟨t446,A40,H⟩:=H;replace H:(some t446)=some r:=H;have A4:=aM A40;clear A40;obtain rfl:=Option.some.inj H
  go_enter Tryd.func46,Tryd.ntmps46
  go_wp2_with (first | ((with_reducible refine gate_dst (N:=2) rfl ?_);refine box_event ?hg (N:=2) ?hd (cs:=#[.int .i64 a0_0,.slice A0_1 l0_1.length c0_1]) (t:=26) ?hr ?_;(case hd=>rfl);(case hg=>rfl);(case hr=>exact zb_);intro gb444 hg w5 hbox hb;have n_:=z (below_step za_ hb)<|z (hbox)<|z ((by rw [hg];exact (below_size za_):w.heap.size≤gb444))<|z1 ((by rw [hg];exact (below_size za_):w.heap.size≤gb444));clear HB;obtain ⟨HB,BK444,GW444,GE444⟩:=n_;clear hb hbox hg)|((with_reducible refine gate_dst (N:=3) rfl ?_);refine box_event ?hg (N:=3) ?hd (cs:=#[.int .i64 a1_0,.slice A1_1 l1_1.length c1_1]) (t:=26) ?hr ?_;(case hd=>rfl);(case hg=>rfl);(case hr=>exact zb_);intro gb445 hg w6 hbox hb;have n_:=z (blk_below (zb BK444.out) hb)<|z (below_step zha_ hb)<|z (hbox)<|z ((by rw [hg];exact (below_size zha_):w.heap.size≤gb445))<|z ((by rw [hg];exact (below_size zha_):w.heap.size≤gb445))<|z ((by rw [hg];exact Nat.ne_of_lt (blk_lt (zb BK444.out)):gb444≠gb445))<|z1 ((by rw [hg];exact Nat.ne_of_gt (blk_lt (zb BK444.out)):gb445≠gb444));clear BK444 HB;obtain ⟨BK444,HB,BK445,GW445,GE445,NB444_445,NB445_444⟩:=n_;clear hb hbox hg;have hnb7:=NB444_445.out;have hnc7:=NB445_444.out;obtain ⟨hcz8_0,hcz8_1,hfz8_0,hfz8_1⟩:=zk2 BK444.out;obtain ⟨hcz9_0,hcz9_1,hfz9_0,hfz9_1⟩:=zk2 BK445.out)|(go_at_call 83;(with_reducible refine (laws_qInts.calls k _ _ l0_1 _ _ l1_1 t446 _ ?side1 ?side2 ?side3 ?side4 A4.out).mono ?_);(case side1=>exact zbc_);(case side2=>exact HC0_1.out);(case side3=>repeat (first | exact (Kd.C_below HR1_1.out HB.out)|(with_reducible refine cA ?_ _)|(with_reducible refine cN ?_ _)|(with_reducible refine cD ?_)));(case side4=>exact HC1_1.out);rintro e w' ⟨rfl,⟨nd,rfl⟩⟩))
  go_ret
  exact ⟨zh_,by repeat (first | (with_reducible first | exact HB.out | apply pA | apply pN | apply p1 | refine below_set ?_ GE444.out | refine below_set ?_ GE445.out) | exact HB.out)⟩
 ·rw [if_neg c3] at H
  have c3b0:=beq_eq_false_iff_ne.mpr c3;have c3b1:=bne_iff_ne.mpr c3;obtain rfl:=Option.some.inj H
  go_enter Tryd.func46,Tryd.ntmps46
  go_wp2_with (first | ((with_reducible refine gate_dst (N:=2) rfl ?_);refine box_event ?hg (N:=2) ?hd (cs:=#[.int .i64 a0_0,.slice A0_1 l0_1.length c0_1]) (t:=26) ?hr ?_;(case hd=>rfl);(case hg=>rfl);(case hr=>exact zb_);intro gb444 hg w10 hbox hb;have n_:=z (below_step za_ hb)<|z (hbox)<|z ((by rw [hg];exact (below_size za_):w.heap.size≤gb444))<|z1 ((by rw [hg];exact (below_size za_):w.heap.size≤gb444));clear HB;obtain ⟨HB,BK444,GW444,GE444⟩:=n_;clear hb hbox hg)|((with_reducible refine gate_dst (N:=3) rfl ?_);refine box_event ?hg (N:=3) ?hd (cs:=#[.int .i64 a1_0,.slice A1_1 l1_1.length c1_1]) (t:=26) ?hr ?_;(case hd=>rfl);(case hg=>rfl);(case hr=>exact zb_);intro gb445 hg w11 hbox hb;have n_:=z (blk_below (zb BK444.out) hb)<|z (below_step zha_ hb)<|z (hbox)<|z ((by rw [hg];exact (below_size zha_):w.heap.size≤gb445))<|z ((by rw [hg];exact (below_size zha_):w.heap.size≤gb445))<|z ((by rw [hg];exact Nat.ne_of_lt (blk_lt (zb BK444.out)):gb444≠gb445))<|z1 ((by rw [hg];exact Nat.ne_of_gt (blk_lt (zb BK444.out)):gb445≠gb444));clear BK444 HB;obtain ⟨BK444,HB,BK445,GW445,GE445,NB444_445,NB445_444⟩:=n_;clear hb hbox hg;have hnb12:=NB444_445.out;have hnc12:=NB445_444.out;obtain ⟨hcz13_0,hcz13_1,hfz13_0,hfz13_1⟩:=zk2 BK444.out;obtain ⟨hcz14_0,hcz14_1,hfz14_0,hfz14_1⟩:=zk2 BK445.out))
  go_ret
  exact ⟨zh_,by repeat (first | (with_reducible first | exact HB.out | apply pA | apply pN | apply p1 | refine below_set ?_ GE444.out | refine below_set ?_ GE445.out) | exact HB.out)⟩
def laws_qSum.l0:Nat→Int→List Int→Int→Int→Option (Int)
 | 0,_,_,_,_=>none
 | k+1,x3,x6,x7,x8=>if x8<x7 then (if 0≤x8 then (if x8<(x6.length:Int) then (laws_qSum.l0 k (wrap64 (x3+(rd x6 x8))) x6 x7 (wrap64 (x8+1))) else (none)) else (none)) else (some x3)
def laws_qSum.f (k:Nat) (l0:List Int):Option (Int):=laws_qSum.l0 k 0 l0 (l0.length:Int) 0
theorem laws_qSum.calls (k:Nat) (A0:Option Addr) (c0:Nat) (l0:List Int) (r:Int) (w:World) (hr0:Kd.C (Kd.int .i64) w A0 l0.length l0) (hc0:l0.length≤c0) (h:laws_qSum.f k l0=some r) :
  Calls Tryd.prog 47 #[.slice A0 l0.length c0] w fun e w'=>e = .returned (.int .i64 r)∧Drawn0 w w':=by
 have HR0:=aM hr0
 have HC0:=aM hc0
 clear hr0 hc0
 have H:(laws_qSum.l0 k 0 l0 (l0.length:Int) 0)=some r:=h
 clear h
 have H':=aM H
 clear H
 go_enter Tryd.func47,Tryd.ntmps47
 go_wp2
 go_loopg [3,8] k (fun kq v3 v8 w' => ∃ (x3_1:Int) (x8_1:Int),v3 = .int .i64 x3_1∧v8 = .int .i64 x8_1∧Aside0 (laws_qSum.l0 kq x3_1 l0 (l0.length:Int) x8_1=some r)∧Aside0 (kq≤k)∧Drawn0 w w')
 case atStart=>exact ⟨(0),(0),zc_,zc_,H',⟨Nat.le_refl _⟩,zj_⟩
 case round =>
  clear H';obtain ⟨x3_1,x8_1,rfl,rfl,HA,HK1,⟨m1,rfl⟩⟩:=hrel
  cases gk with
  | zero=>exact absurd HA.out (by simp [laws_qSum.l0])
  | succ k1 =>
   have H:=HA.out;clear HA
   simp only [laws_qSum.l0] at H
   by_cases c2:x8_1<(l0.length:Int)
   ·rw [if_pos c2] at H
    have c2b0:=decide_eq_true c2;clear c2
    by_cases c3:0≤x8_1
    ·rw [if_pos c3] at H
     have c3b0:=decide_eq_true c3;clear c3
     by_cases c4:x8_1<(l0.length:Int)
     ·rw [if_pos c4] at H
      have c4b0:=decide_eq_true c4;clear c4;have H':=aM H;clear H;have p447:0≤(x8_1:Int):=of_decide_eq_true zd_;have q447:x8_1<(l0.length:Int):=of_decide_eq_true zd_;obtain ⟨ad447,e447,hx447_0⟩:=Kd.at_int HR0.out x8_1 p447 q447
      cases e447
      replace p447:=eq_true p447;replace q447:=eq_true q447
      go_wp2
      go_roundg k1
      case measure=>have:=HK1.out;omega
      case rel=>exact ⟨(wrap64 (x3_1+(rd l0 x8_1))),(wrap64 (x8_1+1)),zc_,zc_,H',⟨zcc_⟩,zj_⟩
     ·rw [if_neg c4] at H
      exact q3n_ H
    ·rw [if_neg c3] at H
     exact q3n_ H
   ·rw [if_neg c2] at H
    have c2b0:=decide_eq_false c2;clear c2;obtain rfl:=Option.some.inj H
    go_wp2
    go_ret
    exact ⟨zc_,zj_⟩

/-! ### laws_FnTables: function 4 -/
mutual
def laws_FnTables.j2:Nat→ByteArray→Bool→Int→List Int→Int→List Int→Int→List Int→Int→List Int→Option (Bool)
 | 0,_,_,_,_,_,_,_,_,_,_=>none
 | k+1,x6,x7,x453000,x453001,x463000,x463001,x469000,x469001,x475000,x475001=>if x7=true then ((impl_ParseTable.f k x6).bind fun bt537=>((impl_NotTable.f k x463000 x463001).bind fun bt543=>((impl_DualTable.f k x475000 x475001).bind fun bt549=>((impl_CombineTables.f k 1 x453000 x453001 x463000 x463001).bind fun bt555=>((impl_CombineTables.f k 2 x453000 x453001 x463000 x463001).bind fun bt561=>((spec_CombineTables.f k 1 x453000 x453001 x469000 x469001).bind fun bt567=>((spec_CombineTables.f k 2 x453000 x453001 x469000 x469001).bind fun bt573=>(if bt537.2.2=true then ((laws_qTable.f k bt537.1 bt537.2.1 x453000 x453001).bind fun t579=>(if t579=true then (if bt543.2.2=true then ((laws_qTable.f k bt543.1 bt543.2.1 x453000 x453001).bind fun t580=>(if t580=true then (if bt549.2.2=true then ((laws_qTable.f k bt549.1 bt549.2.1 x453000 x453001).bind fun t581=>(if t581=true then (if bt555.2.2=true then (if bt561.2.2=true then (if bt567.2.2=true then (if bt573.2.2=true then ((laws_qTable.f k bt555.1 bt555.2.1 bt567.1 bt567.2.1).bind fun t582=>(if t582=true then ((laws_qTable.f k bt561.1 bt561.2.1 bt573.1 bt573.2.1).bind fun t583=>(if t583=true then ((laws_qSum.f k bt567.2.1).bind fun t584=>(if t584=0 then ((laws_qSum.f k bt573.2.1).bind fun t585=>(some (t585 == (x453001.length:Int)))) else (none))) else (none))) else (none))) else (none)) else (none)) else (none)) else (none)) else (none))) else (none)) else (none))) else (none)) else (none))) else (none))))))))) else (some true)
def laws_FnTables.l0:Nat→ByteArray→Bool→Int→List Int→Int→Int→Int→List Int→Int→List Int→Int→List Int→Int→List Int→Int→List Int→Int→List Int→Option (Bool)
 | 0,_,_,_,_,_,_,_,_,_,_,_,_,_,_,_,_,_,_=>none
 | k+1,x6,x7,x18,x222,x223,x224,x453000,x453001,x463000,x463001,x469000,x469001,x475000,x475001,x491000,x491001,x492000,x492001=>if x224<x223 then (if 0≤x224 then (if x224<(x222.length:Int) then (if x224<(x491001.length:Int) then (if x224<(x492001.length:Int) then (if x18=1 then (if (rd x491001 x224)=1 then (if (((rd x222 x224) == 1) == ((rd x492001 x224) == 1))=true then (laws_FnTables.j1 k x6 x7 x18 true x222 x223 x224 x453000 x453001 x463000 x463001 x469000 x469001 x475000 x475001 x491000 x491001 x492000 x492001) else (if x18=2 then (if (((rd x222 x224) == 1) == true)=true then (laws_FnTables.j1 k x6 x7 x18 true x222 x223 x224 x453000 x453001 x463000 x463001 x469000 x469001 x475000 x475001 x491000 x491001 x492000 x492001) else (if x18=3 then (if (((rd x222 x224) == 1) == ((rd x491001 x224) != (rd x492001 x224)))=true then (laws_FnTables.j1 k x6 x7 x18 true x222 x223 x224 x453000 x453001 x463000 x463001 x469000 x469001 x475000 x475001 x491000 x491001 x492000 x492001) else (if x18=4 then (if (rd x491001 x224)=0 then (laws_FnTables.j1 k x6 x7 x18 (((rd x222 x224) == 1) == true) x222 x223 x224 x453000 x453001 x463000 x463001 x469000 x469001 x475000 x475001 x491000 x491001 x492000 x492001) else (laws_FnTables.j1 k x6 x7 x18 (((rd x222 x224) == 1) == ((rd x492001 x224) == 1)) x222 x223 x224 x453000 x453001 x463000 x463001 x469000 x469001 x475000 x475001 x491000 x491001 x492000 x492001)) else (none))) else (if x18=4 then (if (rd x491001 x224)=0 then (laws_FnTables.j1 k x6 x7 x18 (((rd x222 x224) == 1) == true) x222 x223 x224 x453000 x453001 x463000 x463001 x469000 x469001 x475000 x475001 x491000 x491001 x492000 x492001) else (laws_FnTables.j1 k x6 x7 x18 (((rd x222 x224) == 1) == ((rd x492001 x224) == 1)) x222 x223 x224 x453000 x453001 x463000 x463001 x469000 x469001 x475000 x475001 x491000 x491001 x492000 x492001)) else (none)))) else (if x18=3 then (if (((rd x222 x224) == 1) == ((rd x491001 x224) != (rd x492001 x224)))=true then (laws_FnTables.j1 k x6 x7 x18 true x222 x223 x224 x453000 x453001 x463000 x463001 x469000 x469001 x475000 x475001 x491000 x491001 x492000 x492001) else (if x18=4 then (if (rd x491001 x224)=0 then (laws_FnTables.j1 k x6 x7 x18 (((rd x222 x224) == 1) == true) x222 x223 x224 x453000 x453001 x463000 x463001 x469000 x469001 x475000 x475001 x491000 x491001 x492000 x492001) else (laws_FnTables.j1 k x6 x7 x18 (((rd x222 x224) == 1) == ((rd x492001 x224) == 1)) x222 x223 x224 x453000 x453001 x463000 x463001 x469000 x469001 x475000 x475001 x491000 x491001 x492000 x492001)) else (none))) else (if x18=4 then (if (rd x491001 x224)=0 then (laws_FnTables.j1 k x6 x7 x18 (((rd x222 x224) == 1) == true) x222 x223 x224 x453000 x453001 x463000 x463001 x469000 x469001 x475000 x475001 x491000 x491001 x492000 x492001) else (laws_FnTables.j1 k x6 x7 x18 (((rd x222 x224) == 1) == ((rd x492001 x224) == 1)) x222 x223 x224 x453000 x453001 x463000 x463001 x469000 x469001 x475000 x475001 x491000 x491001 x492000 x492001)) else (none))))) else (if (((rd x222 x224) == 1) == false)=true then (laws_FnTables.j1 k x6 x7 x18 true x222 x223 x224 x453000 x453001 x463000 x463001 x469000 x469001 x475000 x475001 x491000 x491001 x492000 x492001) else (if x18=2 then (if (((rd x222 x224) == 1) == ((rd x492001 x224) == 1))=true then (laws_FnTables.j1 k x6 x7 x18 true x222 x223 x224 x453000 x453001 x463000 x463001 x469000 x469001 x475000 x475001 x491000 x491001 x492000 x492001) else (if x18=3 then (if (((rd x222 x224) == 1) == ((rd x491001 x224) != (rd x492001 x224)))=true then (laws_FnTables.j1 k x6 x7 x18 true x222 x223 x224 x453000 x453001 x463000 x463001 x469000 x469001 x475000 x475001 x491000 x491001 x492000 x492001) else (if x18=4 then (if (rd x491001 x224)=0 then (laws_FnTables.j1 k x6 x7 x18 (((rd x222 x224) == 1) == true) x222 x223 x224 x453000 x453001 x463000 x463001 x469000 x469001 x475000 x475001 x491000 x491001 x492000 x492001) else (laws_FnTables.j1 k x6 x7 x18 (((rd x222 x224) == 1) == ((rd x492001 x224) == 1)) x222 x223 x224 x453000 x453001 x463000 x463001 x469000 x469001 x475000 x475001 x491000 x491001 x492000 x492001)) else (none))) else (if x18=4 then (if (rd x491001 x224)=0 then (laws_FnTables.j1 k x6 x7 x18 (((rd x222 x224) == 1) == true) x222 x223 x224 x453000 x453001 x463000 x463001 x469000 x469001 x475000 x475001 x491000 x491001 x492000 x492001) else (laws_FnTables.j1 k x6 x7 x18 (((rd x222 x224) == 1) == ((rd x492001 x224) == 1)) x222 x223 x224 x453000 x453001 x463000 x463001 x469000 x469001 x475000 x475001 x491000 x491001 x492000 x492001)) else (none)))) else (if x18=3 then (if (((rd x222 x224) == 1) == ((rd x491001 x224) != (rd x492001 x224)))=true then (laws_FnTables.j1 k x6 x7 x18 true x222 x223 x224 x453000 x453001 x463000 x463001 x469000 x469001 x475000 x475001 x491000 x491001 x492000 x492001) else (if x18=4 then (if (rd x491001 x224)=0 then (laws_FnTables.j1 k x6 x7 x18 (((rd x222 x224) == 1) == true) x222 x223 x224 x453000 x453001 x463000 x463001 x469000 x469001 x475000 x475001 x491000 x491001 x492000 x492001) else (laws_FnTables.j1 k x6 x7 x18 (((rd x222 x224) == 1) == ((rd x492001 x224) == 1)) x222 x223 x224 x453000 x453001 x463000 x463001 x469000 x469001 x475000 x475001 x491000 x491001 x492000 x492001)) else (none))) else (if x18=4 then (if (rd x491001 x224)=0 then (laws_FnTables.j1 k x6 x7 x18 (((rd x222 x224) == 1) == true) x222 x223 x224 x453000 x453001 x463000 x463001 x469000 x469001 x475000 x475001 x491000 x491001 x492000 x492001) else (laws_FnTables.j1 k x6 x7 x18 (((rd x222 x224) == 1) == ((rd x492001 x224) == 1)) x222 x223 x224 x453000 x453001 x463000 x463001 x469000 x469001 x475000 x475001 x491000 x491001 x492000 x492001)) else (none)))))) else (if x18=2 then (if (rd x491001 x224)=1 then (if (((rd x222 x224) == 1) == true)=true then (laws_FnTables.j1 k x6 x7 x18 true x222 x223 x224 x453000 x453001 x463000 x463001 x469000 x469001 x475000 x475001 x491000 x491001 x492000 x492001) else (if x18=3 then (if (((rd x222 x224) == 1) == ((rd x491001 x224) != (rd x492001 x224)))=true then (laws_FnTables.j1 k x6 x7 x18 true x222 x223 x224 x453000 x453001 x463000 x463001 x469000 x469001 x475000 x475001 x491000 x491001 x492000 x492001) else (if x18=4 then (if (rd x491001 x224)=0 then (laws_FnTables.j1 k x6 x7 x18 (((rd x222 x224) == 1) == true) x222 x223 x224 x453000 x453001 x463000 x463001 x469000 x469001 x475000 x475001 x491000 x491001 x492000 x492001) else (laws_FnTables.j1 k x6 x7 x18 (((rd x222 x224) == 1) == ((rd x492001 x224) == 1)) x222 x223 x224 x453000 x453001 x463000 x463001 x469000 x469001 x475000 x475001 x491000 x491001 x492000 x492001)) else (none))) else (if x18=4 then (if (rd x491001 x224)=0 then (laws_FnTables.j1 k x6 x7 x18 (((rd x222 x224) == 1) == true) x222 x223 x224 x453000 x453001 x463000 x463001 x469000 x469001 x475000 x475001 x491000 x491001 x492000 x492001) else (laws_FnTables.j1 k x6 x7 x18 (((rd x222 x224) == 1) == ((rd x492001 x224) == 1)) x222 x223 x224 x453000 x453001 x463000 x463001 x469000 x469001 x475000 x475001 x491000 x491001 x492000 x492001)) else (none)))) else (if (((rd x222 x224) == 1) == ((rd x492001 x224) == 1))=true then (laws_FnTables.j1 k x6 x7 x18 true x222 x223 x224 x453000 x453001 x463000 x463001 x469000 x469001 x475000 x475001 x491000 x491001 x492000 x492001) else (if x18=3 then (if (((rd x222 x224) == 1) == ((rd x491001 x224) != (rd x492001 x224)))=true then (laws_FnTables.j1 k x6 x7 x18 true x222 x223 x224 x453000 x453001 x463000 x463001 x469000 x469001 x475000 x475001 x491000 x491001 x492000 x492001) else (if x18=4 then (if (rd x491001 x224)=0 then (laws_FnTables.j1 k x6 x7 x18 (((rd x222 x224) == 1) == true) x222 x223 x224 x453000 x453001 x463000 x463001 x469000 x469001 x475000 x475001 x491000 x491001 x492000 x492001) else (laws_FnTables.j1 k x6 x7 x18 (((rd x222 x224) == 1) == ((rd x492001 x224) == 1)) x222 x223 x224 x453000 x453001 x463000 x463001 x469000 x469001 x475000 x475001 x491000 x491001 x492000 x492001)) else (none))) else (if x18=4 then (if (rd x491001 x224)=0 then (laws_FnTables.j1 k x6 x7 x18 (((rd x222 x224) == 1) == true) x222 x223 x224 x453000 x453001 x463000 x463001 x469000 x469001 x475000 x475001 x491000 x491001 x492000 x492001) else (laws_FnTables.j1 k x6 x7 x18 (((rd x222 x224) == 1) == ((rd x492001 x224) == 1)) x222 x223 x224 x453000 x453001 x463000 x463001 x469000 x469001 x475000 x475001 x491000 x491001 x492000 x492001)) else (none))))) else (if x18=3 then (if (((rd x222 x224) == 1) == ((rd x491001 x224) != (rd x492001 x224)))=true then (laws_FnTables.j1 k x6 x7 x18 true x222 x223 x224 x453000 x453001 x463000 x463001 x469000 x469001 x475000 x475001 x491000 x491001 x492000 x492001) else (if x18=4 then (if (rd x491001 x224)=0 then (laws_FnTables.j1 k x6 x7 x18 (((rd x222 x224) == 1) == true) x222 x223 x224 x453000 x453001 x463000 x463001 x469000 x469001 x475000 x475001 x491000 x491001 x492000 x492001) else (laws_FnTables.j1 k x6 x7 x18 (((rd x222 x224) == 1) == ((rd x492001 x224) == 1)) x222 x223 x224 x453000 x453001 x463000 x463001 x469000 x469001 x475000 x475001 x491000 x491001 x492000 x492001)) else (none))) else (if x18=4 then (if (rd x491001 x224)=0 then (laws_FnTables.j1 k x6 x7 x18 (((rd x222 x224) == 1) == true) x222 x223 x224 x453000 x453001 x463000 x463001 x469000 x469001 x475000 x475001 x491000 x491001 x492000 x492001) else (laws_FnTables.j1 k x6 x7 x18 (((rd x222 x224) == 1) == ((rd x492001 x224) == 1)) x222 x223 x224 x453000 x453001 x463000 x463001 x469000 x469001 x475000 x475001 x491000 x491001 x492000 x492001)) else (none))))) else (none)) else (none)) else (none)) else (none)) else (laws_FnTables.j2 k x6 x7 x453000 x453001 x463000 x463001 x469000 x469001 x475000 x475001)
def laws_FnTables.j1:Nat→ByteArray→Bool→Int→Bool→List Int→Int→Int→Int→List Int→Int→List Int→Int→List Int→Int→List Int→Int→List Int→Int→List Int→Option (Bool)
 | 0,_,_,_,_,_,_,_,_,_,_,_,_,_,_,_,_,_,_,_=>none
 | k+1,x6,x7,x18,x40,x222,x223,x224,x453000,x453001,x463000,x463001,x469000,x469001,x475000,x475001,x491000,x491001,x492000,x492001=>if x40=true then (laws_FnTables.l0 k x6 x7 x18 x222 x223 (wrap64 (x224+1)) x453000 x453001 x463000 x463001 x469000 x469001 x475000 x475001 x491000 x491001 x492000 x492001) else (none)
end
def laws_FnTables.f (k:Nat) (l0:List Int) (l1:List Int):Option (Bool):=if (wrap64 ((l0.length:Int)+(l1.length:Int)))>1048576 then (some true) else ((spec_DrawTableText.f k l0).bind fun bt448=>((impl_TableText.f k bt448.1 bt448.2).bind fun bt453=>((spec_TableText.f k bt448.1 bt448.2).bind fun bt455=>((impl_NotTable.f k bt448.1 bt448.2).bind fun bt457=>((spec_NotTable.f k bt448.1 bt448.2).bind fun bt463=>((impl_DualTable.f k bt448.1 bt448.2).bind fun bt469=>((spec_DualTable.f k bt448.1 bt448.2).bind fun bt475=>((spec_DrawCombineTables.f k l1).bind fun bt481=>((impl_CombineTables.f k bt481.1 bt481.2.1 bt481.2.2.1 bt481.2.2.2.1 bt481.2.2.2.2).bind fun bt492=>((spec_CombineTables.f k bt481.1 bt481.2.1 bt481.2.2.1 bt481.2.2.2.1 bt481.2.2.2.2).bind fun bt498=>((spec_DrawParseTable.f k l1).bind fun t504=>((impl_ParseTable.f k t504).bind fun bt505=>((spec_ParseTable.f k t504).bind fun bt511=>((spec_DrawValueAt.f k l1).bind fun bt517=>((impl_ValueAt.f k bt517.1 bt517.2.1 bt517.2.2).bind fun bt525=>((spec_ValueAt.f k bt517.1 bt517.2.1 bt517.2.2).bind fun bt527=>(if (bt453.2 != bt455.2)=true then (none) else (if bt453.1.toList=bt455.1.toList then (if (bt457.2.2 != bt463.2.2)=true then (none) else ((laws_qTable.f k bt457.1 bt457.2.1 bt463.1 bt463.2.1).bind fun t529=>(if t529=true then (if (bt469.2.2 != bt475.2.2)=true then (none) else ((laws_qTable.f k bt469.1 bt469.2.1 bt475.1 bt475.2.1).bind fun t530=>(if t530=true then (if (bt492.2.2 != bt498.2.2)=true then (none) else ((laws_qTable.f k bt492.1 bt492.2.1 bt498.1 bt498.2.1).bind fun t531=>(if t531=true then (if (bt505.2.2 != bt511.2.2)=true then (none) else ((laws_qTable.f k bt505.1 bt505.2.1 bt511.1 bt511.2.1).bind fun t532=>(if t532=true then (if (bt525.2 != bt527.2)=true then (none) else (if bt525.1=bt527.1 then ((impl_IsTable.f k bt448.1 bt448.2).bind fun t533=>(if (t533 != bt453.2)=true then (none) else (if (bt457.2.2 != bt453.2)=true then (none) else (if (bt469.2.2 != bt453.2)=true then (none) else (if bt492.2.2=true then (laws_FnTables.l0 k bt453.1 bt453.2 bt481.1 bt498.2.1 (bt498.2.1.length:Int) 0 bt448.1 bt448.2 bt457.1 bt457.2.1 bt463.1 bt463.2.1 bt469.1 bt469.2.1 bt481.2.1 bt481.2.2.1 bt481.2.2.2.1 bt481.2.2.2.2) else (laws_FnTables.j2 k bt453.1 bt453.2 bt448.1 bt448.2 bt457.1 bt457.2.1 bt463.1 bt463.2.1 bt469.1 bt469.2.1)))))) else (none))) else (none)))) else (none)))) else (none)))) else (none)))) else (none)))))))))))))))))))
def laws_FnTables.T25:Bool×List (List Nat×List Nat):=(true,[([],[]),([0],[0]),([],[]),([1,2],[1,2]),([3],[3]),([],[]),([5],[5]),([],[]),([6,7],[6,7]),([8],[8]),([4,0,1,2,3,4],[4]),([9,10,0,1,2,3,4,5,6,7,8,9,10],[9])])
def laws_FnTables.B25:List Nat:=[0,1,0,7,15,0,32,0,224,480,31,2047]
theorem laws_FnTables.tab25:rtab .any (opsOf Tryd.f4 25)=laws_FnTables.T25:=by kernel_rfl
theorem laws_FnTables.bits25:waitsOk laws_FnTables.T25.2 laws_FnTables.B25=true:=by kernel_rfl
def laws_FnTables.T39:Bool×List (List Nat×List Nat):=(true,[([],[]),([0],[0]),([1],[1]),([1],[1]),([2,3,1,1],[1,2,3]),([1,4],[1,4]),([5,4],[5]),([6],[6]),([6,7],[6,7]),([8,6],[8]),([9],[9]),([9],[9]),([10,11,9,9],[9,10,11]),([9,12],[9,12]),([13,12],[13]),([14],[14]),([14,15],[14,15]),([16,14],[16]),([17],[17]),([17],[17]),([18,19,17,17],[17,18,19]),([17,20],[17,20]),([21,20],[21]),([22],[22]),([22,23],[22,23]),([24,22],[24]),([25],[25]),([25,26],[25,26]),([27,25],[27]),([28],[28]),([28,29],[28,29]),([30,28],[30]),([31],[31]),([31,32],[31,32]),([33,31],[33]),([34],[34]),([34],[34]),([35,36,34,34],[34,35,36]),([34,37],[34,37]),([38,37],[38]),([39],[39]),([39],[39]),([40,41,39,39],[39,40,41]),([39,42],[39,42]),([43,42],[43]),([44],[44]),([45,44],[44,45]),([46,44,44],[44,46]),([47,44],[44,47]),([44,48],[44,48]),([49,47],[49]),([50],[50]),([51,50],[50,51]),([52,50,50],[50,52]),([50],[50]),([54,50],[50,54]),([55,50],[50,55]),([53,56,50],[50,53,56]),([50,57],[50,57]),([58,53,0,1,2,3,4,5,6,7,8,9,10,11,12,13,14,15,16,17,18,19,20,21,22,23,24,25,26,27,28,29,30,31,32,33,34,35,36,37,38,39,40,41,42,43,44,45,46,47,48,49,50,51,52,53,54,55,56,57,58],[58])])
def laws_FnTables.B39:List Nat:=[0,1,3,3,15,31,63,127,255,511,1023,1023,4095,8191,16383,32767,65535,131071,262143,262143,1048575,2097151,4194303,8388607,16777215,33554431,67108863,134217727,268435455,536870911,1073741823,2147483647,4294967295,8589934591,17179869183,34359738367,34359738367,137438953471,274877906943,549755813887,1099511627775,1099511627775,4398046511103,8796093022207,17592186044415,35184372088831,70368744177663,140737488355327,281474976710655,562949953421311,1125899906842623,2251799813685247,4503599627370495,9007199254740991,2251799813685247,20266198323167231,56294995342131199,144115188075855871,288230376151711743,576460752303423487]
theorem laws_FnTables.tab39:rtab .any (opsOf Tryd.f4 39)=laws_FnTables.T39:=by kernel_rfl
theorem laws_FnTables.bits39:waitsOk laws_FnTables.T39.2 laws_FnTables.B39=true:=by kernel_rfl

end Go.Proofs.YtlnhpkjioppbiaaDoor.QFnTables
