/- Functions of FnTables, each as a Lean function, with the proof that the Go code comes to its answers. -/
import Derived.Test.YtlnhpkjioppbiaaDoorSFnTablesx0
import Derived.Test.YtlnhpkjioppbiaaDoorSFnTablesx1
namespace Go.Proofs.YtlnhpkjioppbiaaDoor.QFnTables
open Go.RowKit Go.Proofs.YtlnhpkjioppbiaaDoorW.PrintWords Go.Proofs.YtlnhpkjioppbiaaDoorW.PrintLast Go.Proofs.YtlnhpkjioppbiaaDoorW.PrintMore
open Go.Proofs.YtlnhpkjioppbiaaDoorW.PrintWords renaming pw_below_drewN→pN,below_drew1→p1,below_alloc→pA
open Go.Proofs.YtlnhpkjioppbiaaDoorW.PrintWords.Kd renaming R_alloc→kA,R_drewN→kN,R_drew→kD,Q_alloc→qA,Q_drewN→qN,Q_drew→qD,C_alloc→cA,C_drewN→cN,C_drew→cD
open Go.Proofs.YtlnhpkjioppbiaaDoorW.PrintWords.Aside0 renaming mk→aM
open List renaming setIfInBounds_toArray→sI,set_cons_zero→s0,set_cons_succ→sS,map_toArray→mT,length_take→lT,length_drop→lD,map_cons→mC,map_nil→mN
open Option renaming bind_eq_some_iff→oB,bind_some→oS
attribute [local go_sem] max2_int min2_int max_two min_two max_three min_three max_four min_four
set_option maxHeartbeats 8000000
set_option maxRecDepth 100000
set_option linter.unusedVariables false
set_option linter.unusedSimpArgs false
def spec_l1Cur_anyTable.f (k:Nat) (s0_0:List Int) (s0_1:Int) (s0_2:Int):Option (Int×List Int×Int×Int):=(spec_l1Cur_table.f k s0_0 s0_1 s0_2).bind fun bt153=>((spec_l1Cur_pick.f s0_0 bt153.2.2.1 bt153.2.2.2 30).bind fun bt160=>(if bt160.1=0 then ((spec_l1Cur_among.f s0_0 bt160.2.1 bt160.2.2 (([(-1),wrap64 (bt153.1+1)]:List Int))).bind fun bt166=>(some (bt166.1,bt153.2.1,bt166.2.1,bt166.2.2))) else (if bt160.1=1 then ((spec_l1Cur_pick.f s0_0 bt160.2.1 bt160.2.2 (bt153.2.1.length:Int)).bind fun bt169=>((spec_l1Cur_among.f s0_0 bt169.2.1 bt169.2.2 (([(-1),2]:List Int))).bind fun bt175=>(if 0≤bt169.1 then (if bt169.1<(bt153.2.1.length:Int) then (some (bt153.1,(bt153.2.1.set (bt169.1:Int).toNat bt175.1),bt175.2.1,bt175.2.2)) else (none)) else (none)))) else (if bt160.1=2 then (if 1≤(bt153.2.1.length:Int) then (some (bt153.1,(bt153.2.1.drop (1:Int).toNat),bt160.2.1,bt160.2.2)) else (none)) else (if bt160.1=3 then (if 32≤35184372088832 then (some (5,(List.replicate 32 0),bt160.2.1,bt160.2.2)) else (none)) else (some (bt153.1,bt153.2.1,bt160.2.1,bt160.2.2)))))))
def spec_l1Cur_anyTable.T6:Bool×List (List Nat×List Nat):=(true,[([],[]),([0],[0]),([],[]),([],[]),([3],[3]),([4],[4]),([2,5],[2,5]),([],[]),([],[]),([7,8,6],[7,8]),([1,6,0,1,2,3,4,5,6,7,8,9],[1,6]),([10,9,9,0,1,2,3,4,5,6,7,8,9],[9,10])])
def spec_l1Cur_anyTable.B6:List Nat:=[0,1,0,0,8,24,60,0,0,508,1023,2047]
theorem spec_l1Cur_anyTable.tab6:rtab .any (opsOf Tryd.f48 6)=spec_l1Cur_anyTable.T6:=by kernel_rfl
theorem spec_l1Cur_anyTable.bits6:waitsOk spec_l1Cur_anyTable.T6.2 spec_l1Cur_anyTable.B6=true:=by kernel_rfl
theorem spec_l1Cur_anyTable.calls (k:Nat) (g:Nat) (s0_0:List Int) (s0_1:Int) (s0_2:Int) (r1:Int) (r2:List Int) (r3:Int) (r4:Int) (w0 w:World) (hI:IsS66 w0 w g s0_0 s0_1 s0_2) (hB:Below w0.heap.size w0 w) (h:spec_l1Cur_anyTable.f k s0_0 s0_1 s0_2=some (r1,r2,r3,r4)) :
  Calls Tryd.prog 48 #[.pointer (some ⟨g,0,none⟩)] w fun e w' => ∃ v1_:Value,e = .returned (.agg #[.int .i64 r1,v1_])∧Kd.Q (Kd.int .i64) 3 w' w.heap.size (fun _=>True) v1_ r2∧IsS66 w0 w' g s0_0 r3 r4∧Below w0.heap.size w0 w'∧KeepBut w w' g none:=by
 have hu26:=Tryd.underlying26
 have HI0:=aM hI
 have HK:=aM (KeepBut.refl w g none)
 have HL:=aM hB.size
 clear hI
 have HW0:=aM hB.size
 have HB:=aM hB
 clear hB
 have H:((spec_l1Cur_table.f k s0_0 s0_1 s0_2).bind fun bt153=>((spec_l1Cur_pick.f s0_0 bt153.2.2.1 bt153.2.2.2 30).bind fun bt160=>(if bt160.1=0 then ((spec_l1Cur_among.f s0_0 bt160.2.1 bt160.2.2 (([(-1),wrap64 (bt153.1+1)]:List Int))).bind fun bt166=>(some (bt166.1,bt153.2.1,bt166.2.1,bt166.2.2))) else (if bt160.1=1 then ((spec_l1Cur_pick.f s0_0 bt160.2.1 bt160.2.2 (bt153.2.1.length:Int)).bind fun bt169=>((spec_l1Cur_among.f s0_0 bt169.2.1 bt169.2.2 (([(-1),2]:List Int))).bind fun bt175=>(if 0≤bt169.1 then (if bt169.1<(bt153.2.1.length:Int) then (some (bt153.1,(bt153.2.1.set (bt169.1:Int).toNat bt175.1),bt175.2.1,bt175.2.2)) else (none)) else (none)))) else (if bt160.1=2 then (if 1≤(bt153.2.1.length:Int) then (some (bt153.1,(bt153.2.1.drop (1:Int).toNat),bt160.2.1,bt160.2.2)) else (none)) else (if bt160.1=3 then (if 32≤35184372088832 then (some (5,(List.replicate 32 0),bt160.2.1,bt160.2.2)) else (none)) else (some (bt153.1,bt153.2.1,bt160.2.1,bt160.2.2))))))))=some (r1,r2,r3,r4):=h
 clear h
 replace H:=oB.mp H
 obtain ⟨⟨t153,t154,t157,t158⟩,A20,H⟩:=H
 replace H:((spec_l1Cur_pick.f s0_0 t157 t158 30).bind fun bt160=>(if bt160.1=0 then ((spec_l1Cur_among.f s0_0 bt160.2.1 bt160.2.2 (([(-1),wrap64 (t153+1)]:List Int))).bind fun bt166=>(some (bt166.1,t154,bt166.2.1,bt166.2.2))) else (if bt160.1=1 then ((spec_l1Cur_pick.f s0_0 bt160.2.1 bt160.2.2 (t154.length:Int)).bind fun bt169=>((spec_l1Cur_among.f s0_0 bt169.2.1 bt169.2.2 (([(-1),2]:List Int))).bind fun bt175=>(if 0≤bt169.1 then (if bt169.1<(t154.length:Int) then (some (t153,(t154.set (bt169.1:Int).toNat bt175.1),bt175.2.1,bt175.2.2)) else (none)) else (none)))) else (if bt160.1=2 then (if 1≤(t154.length:Int) then (some (t153,(t154.drop (1:Int).toNat),bt160.2.1,bt160.2.2)) else (none)) else (if bt160.1=3 then (if 32≤35184372088832 then (some (5,(List.replicate 32 0),bt160.2.1,bt160.2.2)) else (none)) else (some (t153,t154,bt160.2.1,bt160.2.2)))))))=some (r1,r2,r3,r4):=H
 have A2:=aM A20
 clear A20
 replace H:=oB.mp H
 obtain ⟨⟨t160,t161,t162⟩,A30,H⟩:=H
 replace H:(if t160=0 then ((spec_l1Cur_among.f s0_0 t161 t162 (([(-1),wrap64 (t153+1)]:List Int))).bind fun bt166=>(some (bt166.1,t154,bt166.2.1,bt166.2.2))) else (if t160=1 then ((spec_l1Cur_pick.f s0_0 t161 t162 (t154.length:Int)).bind fun bt169=>((spec_l1Cur_among.f s0_0 bt169.2.1 bt169.2.2 (([(-1),2]:List Int))).bind fun bt175=>(if 0≤bt169.1 then (if bt169.1<(t154.length:Int) then (some (t153,(t154.set (bt169.1:Int).toNat bt175.1),bt175.2.1,bt175.2.2)) else (none)) else (none)))) else (if t160=2 then (if 1≤(t154.length:Int) then (some (t153,(t154.drop (1:Int).toNat),t161,t162)) else (none)) else (if t160=3 then (if 32≤35184372088832 then (some (5,(List.replicate 32 0),t161,t162)) else (none)) else (some (t153,t154,t161,t162))))))=some (r1,r2,r3,r4):=H
 have A3:=aM A30
 clear A30
 by_cases c4:t160=0
 ·rw [if_pos c4] at H
  have c4b0:=beq_iff_eq.mpr c4;have c4b1:=bne_eq_false_iff_eq.mpr c4;clear c4;obtain ⟨y163,hy163⟩:∃ y_:List Int,y_=(([(-1),wrap64 (t153+1)]:List Int)):=⟨_,rfl⟩;replace H:((spec_l1Cur_among.f s0_0 t161 t162 y163).bind fun bt166=>(some (bt166.1,t154,bt166.2.1,bt166.2.2)))=some (r1,r2,r3,r4):=q3y_ hy163 H
  have Ny163:=aM hy163;clear hy163;replace H:=oB.mp H;obtain ⟨⟨t166,t167,t168⟩,A50,H⟩:=H;replace H:(some (t166,t154,t167,t168))=some (r1,r2,r3,r4):=H;have A5:=aM A50;clear A50
  simp only [Option.some.injEq,Prod.mk.injEq] at H
  obtain ⟨rfl,rfl,rfl,rfl⟩:=H
  go_enter Tryd.func48,Tryd.ntmps48
  go_wp2_with (first | ((with_reducible refine gate_dst (N:=2) rfl ?_);refine box_event ?hg (N:=2) ?hd (cs:=#[.int .i64 0,.slice none 0 0]) (t:=26) ?hr ?_;(case hd=>rfl);(case hg=>rfl);(case hr=>exact zb_);intro gb152 hg w6 hbox hb;have n_:=z (IsS66.below zf_ hb)<|z (KeepBut.trans zg_ (KeepBut.of_below hb g none) (.inl rfl))<|z (below_step zi_ hb)<|z (hbox)<|z ((by rw [hg];exact (keep_size (w:=w) (g:=g) (row:=none) zg_):w.heap.size≤gb152))<|z ((Nat.le_trans HW0.out (by rw [hg];exact (keep_size (w:=w) (g:=g) (row:=none) zg_):w.heap.size≤gb152):w0.heap.size≤gb152))<|z ((by rw [hg];exact Nat.ne_of_lt (IsS66.lt (show IsS66 w0 _ g s0_0 s0_1 s0_2 from zf_)):g≠gb152))<|z1 ((by rw [hg];exact Nat.ne_of_gt (IsS66.lt (show IsS66 w0 _ g s0_0 s0_1 s0_2 from zf_)):gb152≠g));clear HI0 HK HB;obtain ⟨HI0,HK,HB,BK152,GW152,GE152,NB0_152,NB152_0⟩:=n_;clear hb hbox hg)|((with_reducible refine gate_callee (f:=78) rfl ?_);refine goesL_ (some 5) rfl rfl Tryd.func78 (by kernel_rfl) rfl #[.pointer (some ⟨g,0,none⟩)] rfl ze_ ?_;(with_reducible refine (spec_l1Cur_table.calls k g s0_0 s0_1 s0_2 t153 t154 t157 t158 w0 _ ?side1 ?side2 A2.out).mono ?_);(case side1=>exact zbi_);(case side2=>exact zdh_);rintro e w7 ⟨v155,rfl,ho0,hi,hb,hk⟩;refine ⟨_,rfl,?_⟩;have n_:=z (KeepBut.blk hk (zb BK152.out) NB152_0.out (by simp))<|z (Kd.R_lower ho0 (keep_size (w:=w) (g:=g) (row:=none) zbf_))<|z (KeepBut.trans zbf_ hk (.inl rfl))<|z (hb)<|z1 (hi);clear BK152 HK HB HI0;obtain ⟨BK152,HO156,HK,HB,HI0⟩:=n_;clear hb hk hi;(try clear ho0))|((with_reducible refine gate_dst (N:=3) rfl ?_);refine box_event ?hg (N:=3) ?hd (cs:=#[.int .i64 0,.slice none 0 0]) (t:=26) ?hr ?_;(case hd=>rfl);(case hg=>rfl);(case hr=>exact zb_);intro gb159 hg w8 hbox hb;have n_:=z (Kd.R_below (zr HO156.out) hb)<|z (IsS66.below zbi_ hb)<|z (blk_below (zb BK152.out) hb)<|z (KeepBut.trans zbf_ (KeepBut.of_below hb g none) (.inl rfl))<|z (below_step zdh_ hb)<|z (hbox)<|z ((by rw [hg];exact (keep_size (w:=w) (g:=g) (row:=none) zbf_):w.heap.size≤gb159))<|z ((Nat.le_trans HW0.out (by rw [hg];exact (keep_size (w:=w) (g:=g) (row:=none) zbf_):w.heap.size≤gb159):w0.heap.size≤gb159))<|z ((by rw [hg];exact Nat.ne_of_lt (blk_lt (zb BK152.out)):gb152≠gb159))<|z ((by rw [hg];exact Nat.ne_of_gt (blk_lt (zb BK152.out)):gb159≠gb152))<|z ((by rw [hg];exact Nat.ne_of_lt (IsS66.lt (show IsS66 w0 _ g s0_0 t157 t158 from zbi_)):g≠gb159))<|z1 ((by rw [hg];exact Nat.ne_of_gt (IsS66.lt (show IsS66 w0 _ g s0_0 t157 t158 from zbi_)):gb159≠g));clear HO156 HI0 BK152 HK HB;obtain ⟨HO156,HI0,BK152,HK,HB,BK159,GW159,GE159,NB152_159,NB159_152,NB0_159,NB159_0⟩:=n_;clear hb hbox hg;have hnb9:=NB159_152.out;have hnc9:=NB152_159.out;have hnb10:=NB159_0.out;have hnc10:=NB0_159.out;obtain ⟨hcz11_0,hcz11_1,hfz11_0,hfz11_1⟩:=zk2 BK159.out;obtain ⟨Ao12,co12,eo12⟩:=Kd.R_slice HO156.out;subst eo12)|((with_reducible refine gate_callee (f:=59) rfl ?_);refine goesL_ (some 7) rfl rfl Tryd.func59 (by kernel_rfl) rfl #[.pointer (some ⟨g,0,none⟩),.int .i64 30] rfl ze_ ?_;(with_reducible refine (spec_l1Cur_pick.calls g s0_0 t157 t158 30 t160 t161 t162 w0 _ ?side1 ?side2 A3.out).mono ?_);(case side1=>exact zbe_);(case side2=>exact zbj_);rintro e w13 ⟨rfl,hi,hb,hk⟩;refine ⟨_,rfl,?_⟩;have n_:=z (KeepBut.blk hk (g':=gb152) (o := .cells #[.int .i64 0,.slice none 0 0] 26 (0,0)) zhb_ NB152_0.out (by simp))<|z (Kd.R_mono (Kd.R_keep (IsS66.apart (show IsS66 w0 _ g s0_0 t157 t158 from zbe_) (by refine zr ?_;exact (Kd.R_mono (Kd.R_far (p:=⟨gb159,1,none⟩) (Kd.R_far (p:=⟨gb159,0,none⟩) (Kd.R_types HO156.out BK159.out (by decide)) (fun _ hk=>hk.2) (.int .i64 t153)) (fun _ hk=>hk.2) (.slice Ao12 t154.length co12)) (fun _ h_=>h_.1))) (by decide)) hk (fun _ h=>h.2)) (fun _ h=>h.1))<|z (KeepBut.blk hk (g':=gb159) (o := .cells #[.int .i64 t153,.slice Ao12 t154.length co12] 26 (0,0)) zhc_ NB159_0.out (by simp))<|z (KeepBut.trans zbg_ hk (.inl rfl))<|z (hb)<|z1 (hi);clear BK152 HO156 BK159 HK HB HI0;obtain ⟨BK152,HO156,BK159,HK,HB,HI0⟩:=n_;clear hb hk hi;obtain ⟨hcz14_0,hcz14_1,hfz14_0,hfz14_1⟩:=zk2 BK159.out)|((with_reducible refine gate_dst (N:=14) rfl ?_);refine Kd.R_lit (Kd.int .i64) _ 3 ?hg (N:=14) ?hd (xs:=([(-1),wrap64 (t153+1)]:List Int)) (inner:=[.int .i64 (-1),.int .i64 (wrap64 (t153+1))]) (ok:=fun _=>True) (okp:=fun _=>True) ?hr ?hp (fun _ hk=>hk) trivial (Below.refl _ _) (Nat.le_refl _) (by simp) ?_;(case hd=>rfl);(case hg=>rfl);(case hr=>exact zb_);(case hp=>exact (Reps.one (show Kd.M (Kd.int .i64) _ _ _ (-1) [.int .i64 (-1)] from rfl) (Reps.one (show Kd.M (Kd.int .i64) _ _ _ (wrap64 (t153+1)) [.int .i64 (wrap64 (t153+1))] from rfl) (Reps.none _ _))));intro v164 w15 ho16 hb hg_ hnew_;clear hg_ hnew_;(first | rw [← Ny163.out] at ho16 | (simp only [Int.reduceToNat] at ho16;rw [← Ny163.out] at ho16));have n_:=z (Kd.R_elder' (zr HO156.out) (Kd.R_base ho16) hb)<|z (Kd.R_lower (Kd.R_new' ho16 (Kd.R_lt (zr HO156.out))) (keep_size (w:=w) (g:=g) (row:=none) zbg_))<|z (IsS66.below zbe_ hb)<|z (blk_below (zb BK152.out) hb)<|z (blk_below (zb BK159.out) hb)<|z (KeepBut.trans zbg_ (KeepBut.of_below hb g none) (.inl rfl))<|z1 (below_step zbj_ hb);clear HO156 HI0 BK152 BK159 HK HB;obtain ⟨HO156,HO165,HI0,BK152,BK159,HK,HB⟩:=n_;clear hb ho16;obtain ⟨Ao17,co17,eo17⟩:=Kd.R_slice HO165.out;subst eo17)|((with_reducible refine gate_callee (f:=61) rfl ?_);refine goesL_ (some 15) rfl rfl Tryd.func61 (by kernel_rfl) rfl #[.pointer (some ⟨g,0,none⟩),.slice Ao17 y163.length co17] rfl ze_ ?_;(with_reducible refine (spec_l1Cur_among.calls g s0_0 t161 t162 _ _ y163 t166 t167 t168 w0 _ ?side1 ?side2 ?side3 ?side4 ?side5 A5.out).mono ?_);(case side1=>exact zbe_);(case side2=>exact zbj_);(case side3=>repeat (first | exact (Kd.R_reads' HO165.out).2.2 | (with_reducible refine cA ?_ _)|(with_reducible refine cN ?_ _)|(with_reducible refine cD ?_)));(case side4=>exact (Kd.R_reads' HO165.out).2.1);(case side5=>exact far_slice (IsS66.own_ne HI0.out HO165.out (by decide)));rintro e w18 ⟨rfl,hi,hb,hk⟩;refine ⟨_,rfl,?_⟩;have n_:=z (KeepBut.blk hk (zb BK152.out) NB152_0.out (by simp))<|z (Kd.R_mono (Kd.R_keep (IsS66.apart (show IsS66 w0 _ g s0_0 t161 t162 from zbe_) (zr HO156.out) (by decide)) hk (fun _ h=>h.2)) (fun _ h=>h.1))<|z (KeepBut.blk hk (zb BK159.out) NB159_0.out (by simp))<|z (Kd.R_mono (Kd.R_keep (IsS66.apart (show IsS66 w0 _ g s0_0 t161 t162 from zbe_) (zr HO165.out) (by decide)) hk (fun _ h=>h.2)) (fun _ h=>h.1))<|z (KeepBut.trans zbg_ hk (.inl rfl))<|z (hb)<|z1 (hi);clear BK152 HO156 BK159 HO165 HK HB HI0;obtain ⟨BK152,HO156,BK159,HO165,HK,HB,HI0⟩:=n_;clear hb hk hi;obtain ⟨hcz19_0,hcz19_1,hfz19_0,hfz19_1⟩:=zk2 BK159.out;have hnb20:=NB152_0.out;have hnc20:=NB0_152.out;obtain ⟨hcz21_0,hcz21_1,hfz21_0,hfz21_1⟩:=zk2 BK152.out))
  refine bodyPost_ret (results_cell_row rfl _ _ gb152 26 #[.int .i64 t166,.slice Ao12 t154.length co12] (0,0) _ rfl (by refine zb ?_;refine blk_put (cs:=#[.int .i64 t166,.slice none 0 0]) ?_ 1 _ rfl;refine zb ?_;refine blk_put (cs:=#[.int .i64 0,.slice none 0 0]) ?_ 0 _ rfl;refine zb ?_;refine blk_far ?_ NB152_159.out _;refine zb ?_;exact BK152.out) Tryd.underlying26 rfl (by kernel_rfl)) rfl ?_
  exact ⟨_,zh_,Kd.Q_of_R (by refine zr ?_;exact Kd.R_mono (Kd.R_far (p:=⟨gb152,1,none⟩) (Kd.R_far (p:=⟨gb152,0,none⟩) (Kd.R_far (p:=⟨gb159,0,none⟩) (Kd.R_types (Kd.R_types HO156.out BK159.out (by decide)) BK152.out (by decide)) (fun _ hk=>hk.1.2) (.int .i64 t166)) (fun _ hk=>hk.2) (.int .i64 t166)) (fun _ hk=>hk.2) (.slice Ao12 t154.length co12)) (fun _ hk=>trivial)),zbe_,zbj_,zbg_⟩
 ·rw [if_neg c4] at H
  have c4b0:=beq_eq_false_iff_ne.mpr c4;have c4b1:=bne_iff_ne.mpr c4
  by_cases c22:t160=1
  ·rw [if_pos c22] at H
   have c22b0:=beq_iff_eq.mpr c22;have c22b1:=bne_eq_false_iff_eq.mpr c22;clear c22;replace H:=oB.mp H;obtain ⟨⟨t169,t170,t171⟩,A230,H⟩:=H;replace H:((spec_l1Cur_among.f s0_0 t170 t171 (([(-1),2]:List Int))).bind fun bt175=>(if 0≤t169 then (if t169<(t154.length:Int) then (some (t153,(t154.set (t169:Int).toNat bt175.1),bt175.2.1,bt175.2.2)) else (none)) else (none)))=some (r1,r2,r3,r4):=H;have A23:=aM A230;clear A230;obtain ⟨y172,hy172⟩:∃ y_:List Int,y_=(([(-1),2]:List Int)):=⟨_,rfl⟩;replace H:((spec_l1Cur_among.f s0_0 t170 t171 y172).bind fun bt175=>(if 0≤t169 then (if t169<(t154.length:Int) then (some (t153,(t154.set (t169:Int).toNat bt175.1),bt175.2.1,bt175.2.2)) else (none)) else (none)))=some (r1,r2,r3,r4):=q3y_ hy172 H
   have Ny172:=aM hy172;clear hy172;replace H:=oB.mp H;obtain ⟨⟨t175,t176,t177⟩,A240,H⟩:=H;replace H:(if 0≤t169 then (if t169<(t154.length:Int) then (some (t153,(t154.set (t169:Int).toNat t175),t176,t177)) else (none)) else (none))=some (r1,r2,r3,r4):=H;have A24:=aM A240;clear A240
   by_cases c25:0≤t169
   ·rw [if_pos c25] at H
    have c25b0:=decide_eq_true c25;clear c25
    by_cases c26:t169<(t154.length:Int)
    ·rw [if_pos c26] at H
     have c26b0:=decide_eq_true c26;clear c26;obtain ⟨y178,hy178⟩:∃ y_:List Int,y_=(t154.set (t169:Int).toNat t175):=⟨_,rfl⟩;replace H:(some (t153,y178,t176,t177))=some (r1,r2,r3,r4):=q3y_ hy178 H
     have Ny178:=aM hy178;clear hy178
     simp only [Option.some.injEq,Prod.mk.injEq] at H
     obtain ⟨rfl,rfl,rfl,rfl⟩:=H
     go_enter Tryd.func48,Tryd.ntmps48
     (try go_wp2_with (first | ((with_reducible refine gate_dst (N:=2) rfl ?_);refine box_event ?hg (N:=2) ?hd (cs:=#[.int .i64 0,.slice none 0 0]) (t:=26) ?hr ?_;(case hd=>rfl);(case hg=>rfl);(case hr=>exact zb_);intro gb152 hg w28 hbox hb;have n_:=z (IsS66.below zf_ hb)<|z (KeepBut.trans zg_ (KeepBut.of_below hb g none) (.inl rfl))<|z (below_step zi_ hb)<|z (hbox)<|z ((by rw [hg];exact (keep_size (w:=w) (g:=g) (row:=none) zg_):w.heap.size≤gb152))<|z ((Nat.le_trans HW0.out (by rw [hg];exact (keep_size (w:=w) (g:=g) (row:=none) zg_):w.heap.size≤gb152):w0.heap.size≤gb152))<|z ((by rw [hg];exact Nat.ne_of_lt (IsS66.lt (show IsS66 w0 _ g s0_0 s0_1 s0_2 from zf_)):g≠gb152))<|z1 ((by rw [hg];exact Nat.ne_of_gt (IsS66.lt (show IsS66 w0 _ g s0_0 s0_1 s0_2 from zf_)):gb152≠g));clear HI0 HK HB;obtain ⟨HI0,HK,HB,BK152,GW152,GE152,NB0_152,NB152_0⟩:=n_;clear hb hbox hg)|((with_reducible refine gate_callee (f:=78) rfl ?_);refine goesL_ (some 5) rfl rfl Tryd.func78 (by kernel_rfl) rfl #[.pointer (some ⟨g,0,none⟩)] rfl ze_ ?_;(with_reducible refine (spec_l1Cur_table.calls k g s0_0 s0_1 s0_2 t153 t154 t157 t158 w0 _ ?side1 ?side2 A2.out).mono ?_);(case side1=>exact zbi_);(case side2=>exact zdh_);rintro e w29 ⟨v155,rfl,ho0,hi,hb,hk⟩;refine ⟨_,rfl,?_⟩;have n_:=z (KeepBut.blk hk (zb BK152.out) NB152_0.out (by simp))<|z (Kd.R_lower ho0 (keep_size (w:=w) (g:=g) (row:=none) zbf_))<|z (KeepBut.trans zbf_ hk (.inl rfl))<|z (hb)<|z1 (hi);clear BK152 HK HB HI0;obtain ⟨BK152,HO156,HK,HB,HI0⟩:=n_;clear hb hk hi;(try clear ho0))|((with_reducible refine gate_dst (N:=3) rfl ?_);refine box_event ?hg (N:=3) ?hd (cs:=#[.int .i64 0,.slice none 0 0]) (t:=26) ?hr ?_;(case hd=>rfl);(case hg=>rfl);(case hr=>exact zb_);intro gb159 hg w30 hbox hb;have n_:=z (Kd.R_below (zr HO156.out) hb)<|z (IsS66.below zbi_ hb)<|z (blk_below (zb BK152.out) hb)<|z (KeepBut.trans zbf_ (KeepBut.of_below hb g none) (.inl rfl))<|z (below_step zdh_ hb)<|z (hbox)<|z ((by rw [hg];exact (keep_size (w:=w) (g:=g) (row:=none) zbf_):w.heap.size≤gb159))<|z ((Nat.le_trans HW0.out (by rw [hg];exact (keep_size (w:=w) (g:=g) (row:=none) zbf_):w.heap.size≤gb159):w0.heap.size≤gb159))<|z ((by rw [hg];exact Nat.ne_of_lt (blk_lt (zb BK152.out)):gb152≠gb159))<|z ((by rw [hg];exact Nat.ne_of_gt (blk_lt (zb BK152.out)):gb159≠gb152))<|z ((by rw [hg];exact Nat.ne_of_lt (IsS66.lt (show IsS66 w0 _ g s0_0 t157 t158 from zbi_)):g≠gb159))<|z1 ((by rw [hg];exact Nat.ne_of_gt (IsS66.lt (show IsS66 w0 _ g s0_0 t157 t158 from zbi_)):gb159≠g));clear HO156 HI0 BK152 HK HB;obtain ⟨HO156,HI0,BK152,HK,HB,BK159,GW159,GE159,NB152_159,NB159_152,NB0_159,NB159_0⟩:=n_;clear hb hbox hg;have hnb31:=NB159_152.out;have hnc31:=NB152_159.out;have hnb32:=NB159_0.out;have hnc32:=NB0_159.out;obtain ⟨hcz33_0,hcz33_1,hfz33_0,hfz33_1⟩:=zk2 BK159.out;obtain ⟨Ao34,co34,eo34⟩:=Kd.R_slice HO156.out;subst eo34)|((with_reducible refine gate_callee (f:=59) rfl ?_);refine goesL_ (some 7) rfl rfl Tryd.func59 (by kernel_rfl) rfl #[.pointer (some ⟨g,0,none⟩),.int .i64 30] rfl ze_ ?_;(with_reducible refine (spec_l1Cur_pick.calls g s0_0 t157 t158 30 t160 t161 t162 w0 _ ?side1 ?side2 A3.out).mono ?_);(case side1=>exact zbe_);(case side2=>exact zbj_);rintro e w35 ⟨rfl,hi,hb,hk⟩;refine ⟨_,rfl,?_⟩;have n_:=z (KeepBut.blk hk (g':=gb152) (o := .cells #[.int .i64 0,.slice none 0 0] 26 (0,0)) zhb_ NB152_0.out (by simp))<|z (Kd.R_mono (Kd.R_keep (IsS66.apart (show IsS66 w0 _ g s0_0 t157 t158 from zbe_) (by refine zr ?_;exact (Kd.R_mono (Kd.R_far (p:=⟨gb159,1,none⟩) (Kd.R_far (p:=⟨gb159,0,none⟩) (Kd.R_types HO156.out BK159.out (by decide)) (fun _ hk=>hk.2) (.int .i64 t153)) (fun _ hk=>hk.2) (.slice Ao34 t154.length co34)) (fun _ h_=>h_.1))) (by decide)) hk (fun _ h=>h.2)) (fun _ h=>h.1))<|z (KeepBut.blk hk (g':=gb159) (o := .cells #[.int .i64 t153,.slice Ao34 t154.length co34] 26 (0,0)) zhc_ NB159_0.out (by simp))<|z (KeepBut.trans zbg_ hk (.inl rfl))<|z (hb)<|z1 (hi);clear BK152 HO156 BK159 HK HB HI0;obtain ⟨BK152,HO156,BK159,HK,HB,HI0⟩:=n_;clear hb hk hi)));have n_:=z (kD HO156.out)<|z (blk_drew BK152.out)<|z (blk_drew BK159.out)<|z (IsS66.drew HI0.out)<|z (keep_drew HK.out)<|z1 (p1 HB.out)
     clear HO156 BK152 BK159 HI0 HK HB;obtain ⟨HO156,BK152,BK159,HI0,HK,HB⟩:=n_
     refine start_ (n:=12) (S:=fun w'=>w'.cell? ⟨gb159,0,none⟩=some (.int .i64 t153)∧w'.cell? ⟨gb159,1,none⟩=some (.slice Ao34 t154.length co34)) (ds:=[11]) #[fi,fi,fi,fi,fi,fi,fi,fi,fi,fi,fi,fi] (by kernel_rfl) rfl rfl ⟨(blk_cell BK159.out 0).trans rfl,(blk_cell BK159.out 1).trans rfl⟩ (fun hHeld=>?_);refine with_tabW spec_l1Cur_anyTable.tab6 spec_l1Cur_anyTable.bits6 (fun HT_ HW_=>?_)
     generalize w35.drew=w36 at HO156 BK152 BK159 HI0 HK HB hHeld ⊢;refine py_ 0 19 HT_.out ?_;refine py_ 2 21 HT_.out ?_;refine py_ 3 22 HT_.out ?_;refine py_ 7 26 HT_.out ?_
     refine tw2_ 1 20 HT_.out HW_.out hHeld ?_
     refine tw2_ 4 23 HT_.out HW_.out hHeld ?_
     refine py_ 5 24 HT_.out ?_
     refine join_ (σ:=Value) 3 #[ti,ti,ti,ti,ti,ti,ti,ti,ti,fi,fi,fi] (fun s_ => [(25,.int .i64 t169),(27,s_)]) (fun s_ w'=>(w'.cell? ⟨gb159,0,none⟩=some (.int .i64 t153)∧w'.cell? ⟨gb159,1,none⟩=some (.slice Ao34 t154.length co34))∧(Kd.R (Kd.int .i64) 3 w' w.heap.size (fun k_=>some k_≠(s_:Value).ownBlock) (.slice Ao34 t154.length co34) t154)∧(Kd.R (Kd.int .i64) 3 w' w.heap.size (fun k_=>some k_≠(.slice Ao34 t154.length co34:Value).ownBlock) s_ y172)∧(w'.heap[gb152]?=some (.cells #[.int .i64 0,.slice none 0 0] 26 (0,0)))∧(w'.heap[gb159]?=some (.cells #[.int .i64 t153,.slice Ao34 t154.length co34] 26 (0,0)))∧(IsS66 w0 w' g s0_0 t170 t171)∧(KeepBut w w' g none)∧(Below w0.heap.size w0 w')) ?_ ?_
     rotate_left
     ·intro hCont
      refine two_ (i:=6) (j:=8) (Ni:=some 25) (Nj:=some 27) #[ti,ti,ti,ti,ti,ti,ti,ti,fi,fi,fi,fi] #[ti,ti,ti,ti,ti,ti,fi,ti,ti,fi,fi,fi] rfl rfl rfl rfl (two_of HT_.out (by kernel_rfl)) (by decide) (by decide) (fun K hK=>?_) (fun K hK=>?_)
      ·skip
       refine goes_ Tryd.func59 (by kernel_rfl) rfl #[.pointer (some ⟨g,0,none⟩),.int .i64 (t154.length:Int)] (by rfl) rfl rfl ze_ ?_
       with_reducible refine (spec_l1Cur_pick.calls g s0_0 t161 t162 (t154.length:Int) t169 t170 t171 w0 _ ?side1 ?side2 A23.out).mono ?_
       (case side1=>exact zbe_)
       (case side2=>exact zbj_)
       rintro e w37 ⟨rfl,hi,hb,hk⟩
       refine ⟨_,rfl,?_⟩
       have n_:=z (KeepBut.blk hk (zb BK152.out) NB152_0.out (by simp))<|z (Kd.R_mono (Kd.R_keep (IsS66.apart (show IsS66 w0 _ g s0_0 t161 t162 from zbe_) (zr HO156.out) (by decide)) hk (fun _ h=>h.2)) (fun _ h=>h.1))<|z (KeepBut.blk hk (zb BK159.out) NB159_0.out (by simp))<|z (KeepBut.trans zbg_ hk (.inl rfl))<|z (hb)<|z1 (hi)
       clear BK152 HO156 BK159 HK HB HI0;obtain ⟨BK152,HO156,BK159,HK,HB,HI0⟩:=n_;(try clear hb);(try clear hb2);(try clear hk);(try clear hi)
       refine hK.out _ _ ⟨(blk_cell BK159.out 0).trans rfl,(blk_cell BK159.out 1).trans rfl⟩ (fun hHeld=>?_)
       clear hK K
       refine nz_ 25 ?_
       refine one_ (i:=8) (N:=some 27) #[ti,ti,ti,ti,ti,ti,ti,ti,ti,fi,fi,fi] rfl rfl (one_of HT_.out (by kernel_rfl)) (by decide) (fun K hK=>?_)
       refine Kd.R_lit_step (Kd.int .i64) _ 3 ?hg (N:=27) ?hd (xs:=([(-1),2]:List Int)) (inner:=[.int .i64 (-1),.int .i64 2]) (ok:=fun _=>True) (okp:=fun _=>True) ?hr ?hp (fun _ hk=>hk) trivial (Below.refl _ _) (Nat.le_refl _) (by simp) ?_;(case hd=>rfl);(case hg=>rfl);(case hr=>exact zb_);(case hp=>exact zbaf_)
       intro v173 w38 ho39 hb hg_ hnew_
       clear hg_ hnew_;(first | rw [← Ny172.out] at ho39 | (simp only [Int.reduceToNat] at ho39;rw [← Ny172.out] at ho39));have n_:=z (Kd.R_elder' (zr HO156.out) (Kd.R_base ho39) hb)<|z (Kd.R_lower (Kd.R_new' ho39 (Kd.R_lt (zr HO156.out))) (keep_size (w:=w) (g:=g) (row:=none) zbg_))<|z (IsS66.below zbe_ hb)<|z (blk_below (zb BK152.out) hb)<|z (blk_below (zb BK159.out) hb)<|z (KeepBut.trans zbg_ (KeepBut.of_below hb g none) (.inl rfl))<|z1 (below_step zbj_ hb)
       clear HO156 HI0 BK152 BK159 HK HB;obtain ⟨HO156,HO174,HI0,BK152,BK159,HK,HB⟩:=n_;clear hb ho39
       refine hK.out _ _ ⟨(blk_cell BK159.out 0).trans rfl,(blk_cell BK159.out 1).trans rfl⟩ (fun hHeld=>?_)
       clear hK K
       refine nz_ 27 ?_
       exact norm_ (by simp only [putAll,Act.put,sI,s0,sS]) (hCont (v173) _ ⟨hHeld,(by refine zr ?_;exact Kd.R_mono HO156.out (fun _ hk=>hk.2)),(by refine zr ?_;exact Kd.R_mono HO174.out (fun _ hk=>hk.2)),(zb BK152.out),(zb BK159.out),zbe_,zbg_,zbj_⟩)
      ·skip
       refine Kd.R_lit_step (Kd.int .i64) _ 3 ?hg (N:=27) ?hd (xs:=([(-1),2]:List Int)) (inner:=[.int .i64 (-1),.int .i64 2]) (ok:=fun _=>True) (okp:=fun _=>True) ?hr ?hp (fun _ hk=>hk) trivial (Below.refl _ _) (Nat.le_refl _) (by simp) ?_;(case hd=>rfl);(case hg=>rfl);(case hr=>exact zb_);(case hp=>exact zbaf_)
       intro v173 w37 ho38 hb hg_ hnew_
       clear hg_ hnew_;(first | rw [← Ny172.out] at ho38 | (simp only [Int.reduceToNat] at ho38;rw [← Ny172.out] at ho38));have n_:=z (Kd.R_elder' (zr HO156.out) (Kd.R_base ho38) hb)<|z (Kd.R_lower (Kd.R_new' ho38 (Kd.R_lt (zr HO156.out))) (keep_size (w:=w) (g:=g) (row:=none) zbg_))<|z (IsS66.below zbe_ hb)<|z (blk_below (zb BK152.out) hb)<|z (blk_below (zb BK159.out) hb)<|z (KeepBut.trans zbg_ (KeepBut.of_below hb g none) (.inl rfl))<|z1 (below_step zbj_ hb)
       clear HO156 HI0 BK152 BK159 HK HB;obtain ⟨HO156,HO174,HI0,BK152,BK159,HK,HB⟩:=n_;clear hb ho38
       refine hK.out _ _ ⟨(blk_cell BK159.out 0).trans rfl,(blk_cell BK159.out 1).trans rfl⟩ (fun hHeld=>?_)
       clear hK K
       refine nz_ 27 ?_
       refine one_ (i:=6) (N:=some 25) #[ti,ti,ti,ti,ti,ti,ti,ti,ti,fi,fi,fi] rfl rfl (one_of HT_.out (by kernel_rfl)) (by decide) (fun K hK=>?_)
       refine goes_ Tryd.func59 (by kernel_rfl) rfl #[.pointer (some ⟨g,0,none⟩),.int .i64 (t154.length:Int)] (by rfl) rfl rfl ze_ ?_
       with_reducible refine (spec_l1Cur_pick.calls g s0_0 t161 t162 (t154.length:Int) t169 t170 t171 w0 _ ?side1 ?side2 A23.out).mono ?_
       (case side1=>exact zbe_)
       (case side2=>exact zbj_)
       rintro e w39 ⟨rfl,hi,hb,hk⟩
       refine ⟨_,rfl,?_⟩
       have n_:=z (KeepBut.blk hk (zb BK152.out) NB152_0.out (by simp))<|z (Kd.R_mono (Kd.R_keep (IsS66.apart (show IsS66 w0 _ g s0_0 t161 t162 from zbe_) (zr HO156.out) (by decide)) hk (fun _ h=>h.2)) (fun _ h=>h.1))<|z (KeepBut.blk hk (zb BK159.out) NB159_0.out (by simp))<|z (Kd.R_mono (Kd.R_keep (IsS66.apart (show IsS66 w0 _ g s0_0 t161 t162 from zbe_) (zr HO174.out) (by decide)) hk (fun _ h=>h.2)) (fun _ h=>h.1))<|z (KeepBut.trans zbg_ hk (.inl rfl))<|z (hb)<|z1 (hi)
       clear BK152 HO156 BK159 HO174 HK HB HI0;obtain ⟨BK152,HO156,BK159,HO174,HK,HB,HI0⟩:=n_;(try clear hb);(try clear hb2);(try clear hk);(try clear hi)
       refine hK.out _ _ ⟨(blk_cell BK159.out 0).trans rfl,(blk_cell BK159.out 1).trans rfl⟩ (fun hHeld=>?_)
       clear hK K
       refine nz_ 25 ?_
       exact norm_ (by simp only [putAll,Act.put,sI,s0,sS]) (hCont (v173) _ ⟨hHeld,(by refine zr ?_;exact Kd.R_mono HO156.out (fun _ hk=>hk.2)),(by refine zr ?_;exact Kd.R_mono HO174.out (fun _ hk=>hk.2)),(zb BK152.out),(zb BK159.out),zbe_,zbg_,zbj_⟩)
     rintro v173 w40 ⟨hS_,h0_,h1_,h2_,h3_,h4_,h5_,h6_⟩
     have n0_:Aside0 (Kd.R (Kd.int .i64) 3 w40 w.heap.size (fun k_=>some k_≠(v173:Value).ownBlock) (.slice Ao34 t154.length co34) t154):=⟨h0_⟩;have n1_:Aside0 (Kd.R (Kd.int .i64) 3 w40 w.heap.size (fun k_=>some k_≠(.slice Ao34 t154.length co34:Value).ownBlock) v173 y172):=⟨h1_⟩;have n2_:Aside0 (w40.heap[gb152]?=some (.cells #[.int .i64 0,.slice none 0 0] 26 (0,0))):=⟨h2_⟩;have n3_:Aside0 (w40.heap[gb159]?=some (.cells #[.int .i64 t153,.slice Ao34 t154.length co34] 26 (0,0))):=⟨h3_⟩;have n4_:Aside0 (IsS66 w0 w40 g s0_0 t170 t171):=⟨h4_⟩;have n5_:Aside0 (KeepBut w w40 g none):=⟨h5_⟩;have n6_:Aside0 (Below w0.heap.size w0 w40):=⟨h6_⟩;clear HO156 BK152 BK159 HI0 HK HB h0_ h1_ h2_ h3_ h4_ h5_ h6_;have HO156:=n0_;have HO174:=n1_;have BK152:=n2_;have BK159:=n3_;have HI0:=n4_;have HK:=n5_;have HB:=n6_;clear n0_ n1_ n2_ n3_ n4_ n5_ n6_;have hHeld:w40.cell? ⟨gb159,0,none⟩=some (.int .i64 t153)∧w40.cell? ⟨gb159,1,none⟩=some (.slice Ao34 t154.length co34):=hS_;obtain ⟨Ao41,co41,eo41⟩:=Kd.R_slice HO174.out;(first | subst eo41 | (injection eo41 with f1_ f2_ f3_;have f4_:=f1_.symm;have f5_:=f3_.symm;clear f1_ f2_ f3_;subst f4_;subst f5_))
     refine norm_ (a':=?_) ?_ ?_
     rotate_left
     ·simp only [putAll,Act.put,sI,s0,sS]
      rfl
     refine one_ (i:=9) (N:=some 28) #[ti,ti,ti,ti,ti,ti,ti,ti,ti,ti,fi,fi] rfl rfl (one_of HT_.out (by kernel_rfl)) (by decide) (fun K hK=>?_)
     refine goes_ Tryd.func61 (by kernel_rfl) rfl #[.pointer (some ⟨g,0,none⟩),.slice Ao41 y172.length co41] (by rfl) rfl rfl ze_ ?_
     with_reducible refine (spec_l1Cur_among.calls g s0_0 t170 t171 _ _ y172 t175 t176 t177 w0 _ ?side1 ?side2 ?side3 ?side4 ?side5 A24.out).mono ?_
     (case side1=>exact zbe_)
     (case side2=>exact zbj_)
     (case side3=>repeat (first | exact (Kd.R_reads' HO174.out).2.2 | (with_reducible refine cA ?_ _)|(with_reducible refine cN ?_ _)|(with_reducible refine cD ?_)))
     (case side4=>exact (Kd.R_reads' HO174.out).2.1)
     (case side5=>exact far_slice (IsS66.own_ne HI0.out HO174.out (by decide)))
     rintro e w42 ⟨rfl,hi,hb,hk⟩
     refine ⟨_,rfl,?_⟩
     have n_:=z (KeepBut.blk hk (zb BK152.out) NB152_0.out (by simp))<|z (Kd.R_mono (Kd.R_keep (IsS66.apart (show IsS66 w0 _ g s0_0 t170 t171 from zbe_) (zr HO156.out) (by decide)) hk (fun _ h=>h.2)) (fun _ h=>h.1))<|z (KeepBut.blk hk (zb BK159.out) NB159_0.out (by simp))<|z (Kd.R_mono (Kd.R_keep (IsS66.apart (show IsS66 w0 _ g s0_0 t170 t171 from zbe_) (zr HO174.out) (by decide)) hk (fun _ h=>h.2)) (fun _ h=>h.1))<|z (KeepBut.trans zbg_ hk (.inl rfl))<|z (hb)<|z1 (hi)
     clear BK152 HO156 BK159 HO174 HK HB HI0;obtain ⟨BK152,HO156,BK159,HO174,HK,HB,HI0⟩:=n_;(try clear hb);(try clear hb2);(try clear hk);(try clear hi);have p27:0≤(t169:Int):=of_decide_eq_true zd_;have q27:(t169:Int)<((t154.length:Int):Int):=of_decide_eq_true zd_;obtain ⟨go27,co27,eo27,gb27,gl27,cl27,HG27⟩:=Kd.R_form HO156.out (by omega);(first | cases eo27 | (injection eo27 with ea_ en_ ec_;(first | subst ea_ | (injection ea_ with ea_;subst ea_));subst ec_;clear en_));have GB27:=aM gb27;have GG27:=aM HG27;clear gb27 gl27 HG27;obtain ⟨hx27_0,hf27_0⟩:=Kd.R_celln 0 HO156.out (t169:Int) p27 q27;replace p27:=eq_true p27;replace q27:=eq_true q27;have HN0_go27:=aM (show g≠go27 from by have h_:=IsS66.own_ne HI0.out HO156.out (by decide);intro e_;exact h_ (by rw [e_];rfl));have HP43:=Kd.R_putn HO156.out (t169:Int) t175;rw [← Ny178.out] at HP43;have HQ43:=aM HP43;clear HP43
     refine hK.out _ _ ⟨(blk_cell BK159.out 0).trans rfl,(blk_cell BK159.out 1).trans rfl⟩ (fun hHeld=>?_)
     clear hK K
     refine nz_ 28 ?_
     refine py_ 10 29 HT_.out ?_
     refine last_ (i:=11) (N:=none) #[ti,ti,ti,ti,ti,ti,ti,ti,ti,ti,ti,ti] rfl rfl (one_of HT_.out (by kernel_rfl)) (by decide) (fun K hK=>?_)
     refine skip_ (w1:=?_) (by rfl) rfl ?_ ?_
     rotate_left
     ·go_simp
      rfl
     refine hK.out _ _ ?_
     clear hK K
     refine done_ (done_of HT_.out (by kernel_rfl)) ?_
     have n0_:Aside0 (Kd.R (Kd.int .i64) 3 (w42.setCell ⟨go27,(t169:Int).toNat,none⟩ (.int .i64 t175)) w.heap.size (fun k_=>some k_≠(.slice Ao41 y172.length co41:Value).ownBlock) (.slice (some ⟨go27,0,none⟩) t154.length co34) y178):=⟨zr HQ43.out⟩;have n1_:Aside0 (Kd.R (Kd.int .i64) 3 (w42.setCell ⟨go27,(t169:Int).toNat,none⟩ (.int .i64 t175)) w.heap.size (fun k_=>some k_≠(.slice (some ⟨go27,0,none⟩) t154.length co34:Value).ownBlock) (.slice Ao41 y172.length co41) y172):=⟨by refine zr ?_;exact Kd.R_mono (Kd.R_far (p:=⟨go27,(t169:Int).toNat,none⟩) (Kd.R_mono HO174.out (fun k_ hk=>(⟨hk,fun e_=>hk (by rw [e_];rfl)⟩:_∧k_≠go27))) (fun _ hk=>hk.2) (.int .i64 t175)) (fun _ hk=>hk.1)⟩;have n2_:Aside0 ((w42.setCell ⟨go27,(t169:Int).toNat,none⟩ (.int .i64 t175)).heap[gb152]?=some (.cells #[.int .i64 0,.slice none 0 0] 26 (0,0))):=⟨by refine zb ?_;refine blk_far ?_ (by have h_:=Kd.R_ne HO156.out BK152.out (by decide);intro e_;exact h_ (by rw [e_];rfl)) _;refine zb ?_;exact BK152.out⟩;have n3_:Aside0 ((w42.setCell ⟨go27,(t169:Int).toNat,none⟩ (.int .i64 t175)).heap[gb159]?=some (.cells #[.int .i64 t153,.slice (some ⟨go27,0,none⟩) t154.length co34] 26 (0,0))):=⟨by refine zb ?_;refine blk_far ?_ (by have h_:=Kd.R_ne HO156.out BK159.out (by decide);intro e_;exact h_ (by rw [e_];rfl)) _;refine zb ?_;exact BK159.out⟩;have n4_:Aside0 (IsS66 w0 (w42.setCell ⟨go27,(t169:Int).toNat,none⟩ (.int .i64 t175)) g s0_0 t176 t177):=⟨by repeat (first | (with_reducible first | exact HI0.out | apply IsS66.alloc | apply IsS66.drewN | apply IsS66.drew | apply IsS66.set_1 | apply IsS66.set_2 | refine IsS66.far ?_ HN0_go27.out _ | refine IsS66.far ?_ NB0_152.out _ | refine IsS66.far ?_ NB0_159.out _) | exact HI0.out)⟩;have n5_:Aside0 (KeepBut w (w42.setCell ⟨go27,(t169:Int).toNat,none⟩ (.int .i64 t175)) g none):=⟨by repeat (first | (with_reducible first | exact HK.out | apply KeepBut.set_ | apply keep_drewN | apply keep_drew | apply keep_alloc | refine keep_far ?_ GB27.out _ | refine keep_far ?_ GW152.out _ | refine keep_far ?_ GW159.out _) | exact HK.out)⟩;have n6_:Aside0 (Below w0.heap.size w0 (w42.setCell ⟨go27,(t169:Int).toNat,none⟩ (.int .i64 t175))):=⟨by repeat (first | (with_reducible first | exact HB.out | apply pA | apply pN | apply p1 | refine below_set ?_ (Nat.le_trans HL.out GB27.out) | refine below_set ?_ (IsS66.ge HI0.out) | refine below_set ?_ GE152.out | refine below_set ?_ GE159.out) | exact HB.out)⟩;(try clear HO156);(try clear HO174);(try clear BK152);(try clear BK159);(try clear HI0);(try clear HK);(try clear HB);generalize (w42.setCell ⟨go27,(t169:Int).toNat,none⟩ (.int .i64 t175))=w44 at n0_ n1_ n2_ n3_ n4_ n5_ n6_ ⊢;have HO156:=n0_;have HO174:=n1_;have BK152:=n2_;have BK159:=n3_;have HI0:=n4_;have HK:=n5_;have HB:=n6_;clear n0_ n1_ n2_ n3_ n4_ n5_ n6_;obtain ⟨hcz45_0,hcz45_1,hfz45_0,hfz45_1⟩:=zk2 BK159.out;have hnb46:=NB152_0.out;have hnc46:=NB0_152.out;obtain ⟨hcz47_0,hcz47_1,hfz47_0,hfz47_1⟩:=zk2 BK152.out;(try go_wp2)
     refine bodyPost_ret (results_cell_row rfl _ _ gb152 26 #[.int .i64 t153,.slice (some ⟨go27,0,none⟩) t154.length co34] (0,0) _ rfl (by refine zb ?_;refine blk_put (cs:=#[.int .i64 t153,.slice none 0 0]) ?_ 1 _ rfl;refine zb ?_;refine blk_put (cs:=#[.int .i64 0,.slice none 0 0]) ?_ 0 _ rfl;refine zb ?_;exact BK152.out) Tryd.underlying26 rfl (by kernel_rfl)) rfl ?_
     exact ⟨_,zh_,Kd.Q_of_R (by refine zr ?_;exact Kd.R_mono (Kd.R_far (p:=⟨gb152,1,none⟩) (Kd.R_far (p:=⟨gb152,0,none⟩) (Kd.R_types HO156.out BK152.out (by decide)) (fun _ hk=>hk.2) (.int .i64 t153)) (fun _ hk=>hk.2) (.slice (some ⟨go27,0,none⟩) t154.length co34)) (fun _ hk=>trivial)),zbe_,zbj_,zbg_⟩
    ·rw [if_neg c26] at H
     exact q3n_ H
   ·rw [if_neg c25] at H
    exact q3n_ H
  ·rw [if_neg c22] at H
   have c22b0:=beq_eq_false_iff_ne.mpr c22;have c22b1:=bne_iff_ne.mpr c22
   by_cases c48:t160=2
   ·rw [if_pos c48] at H
    have c48b0:=beq_iff_eq.mpr c48;have c48b1:=bne_eq_false_iff_eq.mpr c48;clear c48
    by_cases c49:1≤(t154.length:Int)
    ·rw [if_pos c49] at H
     have c49b0:=eq_true c49;have c49b1:=decide_eq_true c49;clear c49;obtain ⟨y179,hy179⟩:∃ y_:List Int,y_=(t154.drop (1:Int).toNat):=⟨_,rfl⟩;replace H:(some (t153,y179,t161,t162))=some (r1,r2,r3,r4):=q3y_ hy179 H
     have Ny179:=aM hy179;clear hy179
     simp only [Option.some.injEq,Prod.mk.injEq] at H
     obtain ⟨rfl,rfl,rfl,rfl⟩:=H
     go_enter Tryd.func48,Tryd.ntmps48
     go_wp2_with (first | ((with_reducible refine gate_dst (N:=2) rfl ?_);refine box_event ?hg (N:=2) ?hd (cs:=#[.int .i64 0,.slice none 0 0]) (t:=26) ?hr ?_;(case hd=>rfl);(case hg=>rfl);(case hr=>exact zb_);intro gb152 hg w50 hbox hb;have n_:=z (IsS66.below zf_ hb)<|z (KeepBut.trans zg_ (KeepBut.of_below hb g none) (.inl rfl))<|z (below_step zi_ hb)<|z (hbox)<|z ((by rw [hg];exact (keep_size (w:=w) (g:=g) (row:=none) zg_):w.heap.size≤gb152))<|z ((Nat.le_trans HW0.out (by rw [hg];exact (keep_size (w:=w) (g:=g) (row:=none) zg_):w.heap.size≤gb152):w0.heap.size≤gb152))<|z ((by rw [hg];exact Nat.ne_of_lt (IsS66.lt (show IsS66 w0 _ g s0_0 s0_1 s0_2 from zf_)):g≠gb152))<|z1 ((by rw [hg];exact Nat.ne_of_gt (IsS66.lt (show IsS66 w0 _ g s0_0 s0_1 s0_2 from zf_)):gb152≠g));clear HI0 HK HB;obtain ⟨HI0,HK,HB,BK152,GW152,GE152,NB0_152,NB152_0⟩:=n_;clear hb hbox hg)|((with_reducible refine gate_callee (f:=78) rfl ?_);refine goesL_ (some 5) rfl rfl Tryd.func78 (by kernel_rfl) rfl #[.pointer (some ⟨g,0,none⟩)] rfl ze_ ?_;(with_reducible refine (spec_l1Cur_table.calls k g s0_0 s0_1 s0_2 t153 t154 t157 t158 w0 _ ?side1 ?side2 A2.out).mono ?_);(case side1=>exact zbi_);(case side2=>exact zdh_);rintro e w51 ⟨v155,rfl,ho0,hi,hb,hk⟩;refine ⟨_,rfl,?_⟩;have n_:=z (KeepBut.blk hk (zb BK152.out) NB152_0.out (by simp))<|z (Kd.R_lower ho0 (keep_size (w:=w) (g:=g) (row:=none) zbf_))<|z (KeepBut.trans zbf_ hk (.inl rfl))<|z (hb)<|z1 (hi);clear BK152 HK HB HI0;obtain ⟨BK152,HO156,HK,HB,HI0⟩:=n_;clear hb hk hi;(try clear ho0))|((with_reducible refine gate_dst (N:=3) rfl ?_);refine box_event ?hg (N:=3) ?hd (cs:=#[.int .i64 0,.slice none 0 0]) (t:=26) ?hr ?_;(case hd=>rfl);(case hg=>rfl);(case hr=>exact zb_);intro gb159 hg w52 hbox hb;have n_:=z (Kd.R_below (zr HO156.out) hb)<|z (IsS66.below zbi_ hb)<|z (blk_below (zb BK152.out) hb)<|z (KeepBut.trans zbf_ (KeepBut.of_below hb g none) (.inl rfl))<|z (below_step zdh_ hb)<|z (hbox)<|z ((by rw [hg];exact (keep_size (w:=w) (g:=g) (row:=none) zbf_):w.heap.size≤gb159))<|z ((Nat.le_trans HW0.out (by rw [hg];exact (keep_size (w:=w) (g:=g) (row:=none) zbf_):w.heap.size≤gb159):w0.heap.size≤gb159))<|z ((by rw [hg];exact Nat.ne_of_lt (blk_lt (zb BK152.out)):gb152≠gb159))<|z ((by rw [hg];exact Nat.ne_of_gt (blk_lt (zb BK152.out)):gb159≠gb152))<|z ((by rw [hg];exact Nat.ne_of_lt (IsS66.lt (show IsS66 w0 _ g s0_0 t157 t158 from zbi_)):g≠gb159))<|z1 ((by rw [hg];exact Nat.ne_of_gt (IsS66.lt (show IsS66 w0 _ g s0_0 t157 t158 from zbi_)):gb159≠g));clear HO156 HI0 BK152 HK HB;obtain ⟨HO156,HI0,BK152,HK,HB,BK159,GW159,GE159,NB152_159,NB159_152,NB0_159,NB159_0⟩:=n_;clear hb hbox hg;have hnb53:=NB159_152.out;have hnc53:=NB152_159.out;have hnb54:=NB159_0.out;have hnc54:=NB0_159.out;obtain ⟨hcz55_0,hcz55_1,hfz55_0,hfz55_1⟩:=zk2 BK159.out;obtain ⟨Ao56,co56,eo56⟩:=Kd.R_slice HO156.out;subst eo56)|((with_reducible refine gate_callee (f:=59) rfl ?_);refine goesL_ (some 7) rfl rfl Tryd.func59 (by kernel_rfl) rfl #[.pointer (some ⟨g,0,none⟩),.int .i64 30] rfl ze_ ?_;(with_reducible refine (spec_l1Cur_pick.calls g s0_0 t157 t158 30 t160 t161 t162 w0 _ ?side1 ?side2 A3.out).mono ?_);(case side1=>exact zbe_);(case side2=>exact zbj_);rintro e w57 ⟨rfl,hi,hb,hk⟩;refine ⟨_,rfl,?_⟩;have n_:=z (KeepBut.blk hk (g':=gb152) (o := .cells #[.int .i64 0,.slice none 0 0] 26 (0,0)) zhb_ NB152_0.out (by simp))<|z (Kd.R_mono (Kd.R_keep (IsS66.apart (show IsS66 w0 _ g s0_0 t157 t158 from zbe_) (by refine zr ?_;exact (Kd.R_mono (Kd.R_far (p:=⟨gb159,1,none⟩) (Kd.R_far (p:=⟨gb159,0,none⟩) (Kd.R_types HO156.out BK159.out (by decide)) (fun _ hk=>hk.2) (.int .i64 t153)) (fun _ hk=>hk.2) (.slice Ao56 t154.length co56)) (fun _ h_=>h_.1))) (by decide)) hk (fun _ h=>h.2)) (fun _ h=>h.1))<|z (KeepBut.blk hk (g':=gb159) (o := .cells #[.int .i64 t153,.slice Ao56 t154.length co56] 26 (0,0)) zhc_ NB159_0.out (by simp))<|z (KeepBut.trans zbg_ hk (.inl rfl))<|z (hb)<|z1 (hi);clear BK152 HO156 BK159 HK HB HI0;obtain ⟨BK152,HO156,BK159,HK,HB,HI0⟩:=n_;clear hb hk hi;obtain ⟨hcz58_0,hcz58_1,hfz58_0,hfz58_1⟩:=zk2 BK159.out;have q59:(1:Int)≤((t154.length:Int):Int):=of_decide_eq_true zd_;obtain ⟨i059,hi059,_,hsz59,_⟩:=info_parts info3;have hcut59:=cut_from (P:=Tryd.prog) 24 3 .i64 Tryd.underlying24 hi059 1 hsz59 Ao56 t154.length co56 1 (by omega) q59;have hr59:=Kd.Q_drop (k:=(1:Int).toNat) (Kd.Q_of_R HO156.out) (by omega);obtain ⟨A59,hA59⟩:∃ A1,A1=(if co56=(1:Int).toNat then Ao56 else (Ao56:Option Addr).map (·.add ((1:Int).toNat * 1))):=⟨_,rfl⟩;obtain ⟨c59,hc59⟩:∃ c1,c1=co56 - (1:Int).toNat:=⟨_,rfl⟩;have hy59:y179.length=t154.length - (1:Int).toNat:=(by rw [Ny179.out,lD]);rw [← Ny179.out] at hr59;rw [← hy59,← hA59,← hc59] at hcut59;replace hr59:Kd.Q (Kd.int .i64) 3 w57 w.heap.size (fun _=>True) (.slice A59 y179.length c59) y179:=(by rw [hA59,hc59,hy59];exact hr59);have HE59:Aside0 ((Value.slice A59 y179.length c59).ownBlock=(.slice Ao56 t154.length co56:Value).ownBlock):=⟨by rw [hA59];split <;> (cases (Ao56:Option Addr) <;> first | rfl | (simp only [Value.ownBlock,Option.map,Go.Addr.add];split <;> rfl))⟩;clear hy59 hi059 hsz59 HO156 hA59 hc59;have HO181:=aM hr59;clear hr59;replace q59:=eq_true q59;have hnb60:=NB152_0.out;have hnc60:=NB0_152.out;obtain ⟨hcz61_0,hcz61_1,hfz61_0,hfz61_1⟩:=zk2 BK152.out))
     refine bodyPost_ret (results_cell_row rfl _ _ gb152 26 #[.int .i64 t153,.slice A59 y179.length c59] (0,0) _ rfl (by refine zb ?_;refine blk_put (cs:=#[.int .i64 t153,.slice none 0 0]) ?_ 1 _ rfl;refine zb ?_;refine blk_put (cs:=#[.int .i64 0,.slice none 0 0]) ?_ 0 _ rfl;refine zb ?_;refine blk_far ?_ NB152_159.out _;refine zb ?_;exact BK152.out) Tryd.underlying26 rfl (by kernel_rfl)) rfl ?_
     exact ⟨_,zh_,by refine zq ?_;exact Kd.Q_mono (Kd.Q_far (p:=⟨gb152,1,none⟩) (Kd.Q_far (p:=⟨gb152,0,none⟩) (Kd.Q_far (p:=⟨gb159,1,none⟩) (Kd.Q_types (Kd.Q_types HO181.out BK159.out (by decide)) BK152.out (by decide)) (fun _ hk=>hk.1.2) (.slice A59 y179.length c59)) (fun _ hk=>hk.2) (.int .i64 t153)) (fun _ hk=>hk.2) (.slice A59 y179.length c59)) (fun _ hk=>trivial),zbe_,zbj_,zbg_⟩
    ·rw [if_neg c49] at H
     exact q3n_ H
   ·rw [if_neg c48] at H
    have c48b0:=beq_eq_false_iff_ne.mpr c48;have c48b1:=bne_iff_ne.mpr c48
    by_cases c62:t160=3
    ·rw [if_pos c62] at H
     have c62b0:=beq_iff_eq.mpr c62;have c62b1:=bne_eq_false_iff_eq.mpr c62;clear c62
     by_cases c63:32≤35184372088832
     ·rw [if_pos c63] at H
      have c63b0:=eq_true c63;have c63b1:=decide_eq_true c63;clear c63;obtain ⟨y182,hy182⟩:∃ y_:List Int,y_=(List.replicate 32 0):=⟨_,rfl⟩;replace H:(some (5,y182,t161,t162))=some (r1,r2,r3,r4):=q3y_ hy182 H
      have Ny182:=aM hy182;clear hy182
      simp only [Option.some.injEq,Prod.mk.injEq] at H
      obtain ⟨rfl,rfl,rfl,rfl⟩:=H
      go_enter Tryd.func48,Tryd.ntmps48
      go_wp2_with (first | ((with_reducible refine gate_dst (N:=2) rfl ?_);refine box_event ?hg (N:=2) ?hd (cs:=#[.int .i64 0,.slice none 0 0]) (t:=26) ?hr ?_;(case hd=>rfl);(case hg=>rfl);(case hr=>exact zb_);intro gb152 hg w64 hbox hb;have n_:=z (IsS66.below zf_ hb)<|z (KeepBut.trans zg_ (KeepBut.of_below hb g none) (.inl rfl))<|z (below_step zi_ hb)<|z (hbox)<|z ((by rw [hg];exact (keep_size (w:=w) (g:=g) (row:=none) zg_):w.heap.size≤gb152))<|z ((Nat.le_trans HW0.out (by rw [hg];exact (keep_size (w:=w) (g:=g) (row:=none) zg_):w.heap.size≤gb152):w0.heap.size≤gb152))<|z ((by rw [hg];exact Nat.ne_of_lt (IsS66.lt (show IsS66 w0 _ g s0_0 s0_1 s0_2 from zf_)):g≠gb152))<|z1 ((by rw [hg];exact Nat.ne_of_gt (IsS66.lt (show IsS66 w0 _ g s0_0 s0_1 s0_2 from zf_)):gb152≠g));clear HI0 HK HB;obtain ⟨HI0,HK,HB,BK152,GW152,GE152,NB0_152,NB152_0⟩:=n_;clear hb hbox hg)|((with_reducible refine gate_callee (f:=78) rfl ?_);refine goesL_ (some 5) rfl rfl Tryd.func78 (by kernel_rfl) rfl #[.pointer (some ⟨g,0,none⟩)] rfl ze_ ?_;(with_reducible refine (spec_l1Cur_table.calls k g s0_0 s0_1 s0_2 t153 t154 t157 t158 w0 _ ?side1 ?side2 A2.out).mono ?_);(case side1=>exact zbi_);(case side2=>exact zdh_);rintro e w65 ⟨v155,rfl,ho0,hi,hb,hk⟩;refine ⟨_,rfl,?_⟩;have n_:=z (KeepBut.blk hk (zb BK152.out) NB152_0.out (by simp))<|z (Kd.R_lower ho0 (keep_size (w:=w) (g:=g) (row:=none) zbf_))<|z (KeepBut.trans zbf_ hk (.inl rfl))<|z (hb)<|z1 (hi);clear BK152 HK HB HI0;obtain ⟨BK152,HO156,HK,HB,HI0⟩:=n_;clear hb hk hi;(try clear ho0))|((with_reducible refine gate_dst (N:=3) rfl ?_);refine box_event ?hg (N:=3) ?hd (cs:=#[.int .i64 0,.slice none 0 0]) (t:=26) ?hr ?_;(case hd=>rfl);(case hg=>rfl);(case hr=>exact zb_);intro gb159 hg w66 hbox hb;have n_:=z (Kd.R_below (zr HO156.out) hb)<|z (IsS66.below zbi_ hb)<|z (blk_below (zb BK152.out) hb)<|z (KeepBut.trans zbf_ (KeepBut.of_below hb g none) (.inl rfl))<|z (below_step zdh_ hb)<|z (hbox)<|z ((by rw [hg];exact (keep_size (w:=w) (g:=g) (row:=none) zbf_):w.heap.size≤gb159))<|z ((Nat.le_trans HW0.out (by rw [hg];exact (keep_size (w:=w) (g:=g) (row:=none) zbf_):w.heap.size≤gb159):w0.heap.size≤gb159))<|z ((by rw [hg];exact Nat.ne_of_lt (blk_lt (zb BK152.out)):gb152≠gb159))<|z ((by rw [hg];exact Nat.ne_of_gt (blk_lt (zb BK152.out)):gb159≠gb152))<|z ((by rw [hg];exact Nat.ne_of_lt (IsS66.lt (show IsS66 w0 _ g s0_0 t157 t158 from zbi_)):g≠gb159))<|z1 ((by rw [hg];exact Nat.ne_of_gt (IsS66.lt (show IsS66 w0 _ g s0_0 t157 t158 from zbi_)):gb159≠g));clear HO156 HI0 BK152 HK HB;obtain ⟨HO156,HI0,BK152,HK,HB,BK159,GW159,GE159,NB152_159,NB159_152,NB0_159,NB159_0⟩:=n_;clear hb hbox hg;have hnb67:=NB159_152.out;have hnc67:=NB152_159.out;have hnb68:=NB159_0.out;have hnc68:=NB0_159.out;obtain ⟨hcz69_0,hcz69_1,hfz69_0,hfz69_1⟩:=zk2 BK159.out;obtain ⟨Ao70,co70,eo70⟩:=Kd.R_slice HO156.out;subst eo70)|((with_reducible refine gate_callee (f:=59) rfl ?_);refine goesL_ (some 7) rfl rfl Tryd.func59 (by kernel_rfl) rfl #[.pointer (some ⟨g,0,none⟩),.int .i64 30] rfl ze_ ?_;(with_reducible refine (spec_l1Cur_pick.calls g s0_0 t157 t158 30 t160 t161 t162 w0 _ ?side1 ?side2 A3.out).mono ?_);(case side1=>exact zbe_);(case side2=>exact zbj_);rintro e w71 ⟨rfl,hi,hb,hk⟩;refine ⟨_,rfl,?_⟩;have n_:=z (KeepBut.blk hk (g':=gb152) (o := .cells #[.int .i64 0,.slice none 0 0] 26 (0,0)) zhb_ NB152_0.out (by simp))<|z (Kd.R_mono (Kd.R_keep (IsS66.apart (show IsS66 w0 _ g s0_0 t157 t158 from zbe_) (by refine zr ?_;exact (Kd.R_mono (Kd.R_far (p:=⟨gb159,1,none⟩) (Kd.R_far (p:=⟨gb159,0,none⟩) (Kd.R_types HO156.out BK159.out (by decide)) (fun _ hk=>hk.2) (.int .i64 t153)) (fun _ hk=>hk.2) (.slice Ao70 t154.length co70)) (fun _ h_=>h_.1))) (by decide)) hk (fun _ h=>h.2)) (fun _ h=>h.1))<|z (KeepBut.blk hk (g':=gb159) (o := .cells #[.int .i64 t153,.slice Ao70 t154.length co70] 26 (0,0)) zhc_ NB159_0.out (by simp))<|z (KeepBut.trans zbg_ hk (.inl rfl))<|z (hb)<|z1 (hi);clear BK152 HO156 BK159 HK HB HI0;obtain ⟨BK152,HO156,BK159,HK,HB,HI0⟩:=n_;clear hb hk hi)|((with_reducible refine gate_dst (N:=38) rfl ?_);refine Kd.R_make (Kd.int .i64) _ 3 rfl (N:=38) rfl 24 _ _ rfl 32 rfl rfl Tryd.underlying24 (.int .i64 0) 8 info3 rfl (by decide) (by omega) 0 (ok:=fun _=>True) (okp:=fun _=>True) rfl (fun _ hk=>hk) trivial (by omega) (by omega) (Below.refl _ _) (Nat.le_refl _) ?_;intro v183 w72 ho73 hb hg_ hnew_;clear hg_ hnew_;(first | rw [← Ny182.out] at ho73 | (simp only [Int.reduceToNat] at ho73;rw [← Ny182.out] at ho73));have n_:=z (Kd.R_elder' (zr HO156.out) (Kd.R_base ho73) hb)<|z (Kd.R_lower (Kd.R_new' ho73 (Kd.R_lt (zr HO156.out))) (keep_size (w:=w) (g:=g) (row:=none) zbg_))<|z (IsS66.below zbe_ hb)<|z (blk_below (zb BK152.out) hb)<|z (blk_below (zb BK159.out) hb)<|z (KeepBut.trans zbg_ (KeepBut.of_below hb g none) (.inl rfl))<|z1 (below_step zbj_ hb);clear HO156 HI0 BK152 BK159 HK HB;obtain ⟨HO156,HO184,HI0,BK152,BK159,HK,HB⟩:=n_;clear hb ho73;obtain ⟨Ao74,co74,eo74⟩:=Kd.R_slice HO184.out;subst eo74;obtain ⟨hcz75_0,hcz75_1,hfz75_0,hfz75_1⟩:=zk2 BK159.out;have hnb76:=NB152_0.out;have hnc76:=NB0_152.out;obtain ⟨hcz77_0,hcz77_1,hfz77_0,hfz77_1⟩:=zk2 BK152.out))
      refine bodyPost_ret (results_cell_row rfl _ _ gb152 26 #[.int .i64 5,.slice Ao74 y182.length co74] (0,0) _ rfl (by refine zb ?_;refine blk_put (cs:=#[.int .i64 5,.slice none 0 0]) ?_ 1 _ rfl;refine zb ?_;refine blk_put (cs:=#[.int .i64 0,.slice none 0 0]) ?_ 0 _ rfl;refine zb ?_;refine blk_far ?_ NB152_159.out _;refine zb ?_;refine blk_far ?_ NB152_159.out _;refine zb ?_;exact BK152.out) Tryd.underlying26 rfl (by kernel_rfl)) rfl ?_
      exact ⟨_,zh_,Kd.Q_of_R (by refine zr ?_;exact Kd.R_mono (Kd.R_far (p:=⟨gb152,1,none⟩) (Kd.R_far (p:=⟨gb152,0,none⟩) (Kd.R_far (p:=⟨gb159,1,none⟩) (Kd.R_far (p:=⟨gb159,0,none⟩) (Kd.R_types (Kd.R_types HO184.out BK159.out (by decide)) BK152.out (by decide)) (fun _ hk=>hk.1.2) (.int .i64 5)) (fun _ hk=>hk.1.2) (.slice Ao74 y182.length co74)) (fun _ hk=>hk.2) (.int .i64 5)) (fun _ hk=>hk.2) (.slice Ao74 y182.length co74)) (fun _ hk=>trivial)),zbe_,zbj_,zbg_⟩
     ·rw [if_neg c63] at H
      exact q3n_ H
    ·rw [if_neg c62] at H
     have c62b0:=beq_eq_false_iff_ne.mpr c62;have c62b1:=bne_iff_ne.mpr c62
     simp only [Option.some.injEq,Prod.mk.injEq] at H
     obtain ⟨rfl,rfl,rfl,rfl⟩:=H
     go_enter Tryd.func48,Tryd.ntmps48
     go_wp2_with (first | ((with_reducible refine gate_dst (N:=2) rfl ?_);refine box_event ?hg (N:=2) ?hd (cs:=#[.int .i64 0,.slice none 0 0]) (t:=26) ?hr ?_;(case hd=>rfl);(case hg=>rfl);(case hr=>exact zb_);intro gb152 hg w78 hbox hb;have n_:=z (IsS66.below zf_ hb)<|z (KeepBut.trans zg_ (KeepBut.of_below hb g none) (.inl rfl))<|z (below_step zi_ hb)<|z (hbox)<|z ((by rw [hg];exact (keep_size (w:=w) (g:=g) (row:=none) zg_):w.heap.size≤gb152))<|z ((Nat.le_trans HW0.out (by rw [hg];exact (keep_size (w:=w) (g:=g) (row:=none) zg_):w.heap.size≤gb152):w0.heap.size≤gb152))<|z ((by rw [hg];exact Nat.ne_of_lt (IsS66.lt (show IsS66 w0 _ g s0_0 s0_1 s0_2 from zf_)):g≠gb152))<|z1 ((by rw [hg];exact Nat.ne_of_gt (IsS66.lt (show IsS66 w0 _ g s0_0 s0_1 s0_2 from zf_)):gb152≠g));clear HI0 HK HB;obtain ⟨HI0,HK,HB,BK152,GW152,GE152,NB0_152,NB152_0⟩:=n_;clear hb hbox hg)|((with_reducible refine gate_callee (f:=78) rfl ?_);refine goesL_ (some 5) rfl rfl Tryd.func78 (by kernel_rfl) rfl #[.pointer (some ⟨g,0,none⟩)] rfl ze_ ?_;(with_reducible refine (spec_l1Cur_table.calls k g s0_0 s0_1 s0_2 t153 t154 t157 t158 w0 _ ?side1 ?side2 A2.out).mono ?_);(case side1=>exact zbi_);(case side2=>exact zdh_);rintro e w79 ⟨v155,rfl,ho0,hi,hb,hk⟩;refine ⟨_,rfl,?_⟩;have n_:=z (KeepBut.blk hk (zb BK152.out) NB152_0.out (by simp))<|z (Kd.R_lower ho0 (keep_size (w:=w) (g:=g) (row:=none) zbf_))<|z (KeepBut.trans zbf_ hk (.inl rfl))<|z (hb)<|z1 (hi);clear BK152 HK HB HI0;obtain ⟨BK152,HO156,HK,HB,HI0⟩:=n_;clear hb hk hi;(try clear ho0))|((with_reducible refine gate_dst (N:=3) rfl ?_);refine box_event ?hg (N:=3) ?hd (cs:=#[.int .i64 0,.slice none 0 0]) (t:=26) ?hr ?_;(case hd=>rfl);(case hg=>rfl);(case hr=>exact zb_);intro gb159 hg w80 hbox hb;have n_:=z (Kd.R_below (zr HO156.out) hb)<|z (IsS66.below zbi_ hb)<|z (blk_below (zb BK152.out) hb)<|z (KeepBut.trans zbf_ (KeepBut.of_below hb g none) (.inl rfl))<|z (below_step zdh_ hb)<|z (hbox)<|z ((by rw [hg];exact (keep_size (w:=w) (g:=g) (row:=none) zbf_):w.heap.size≤gb159))<|z ((Nat.le_trans HW0.out (by rw [hg];exact (keep_size (w:=w) (g:=g) (row:=none) zbf_):w.heap.size≤gb159):w0.heap.size≤gb159))<|z ((by rw [hg];exact Nat.ne_of_lt (blk_lt (zb BK152.out)):gb152≠gb159))<|z ((by rw [hg];exact Nat.ne_of_gt (blk_lt (zb BK152.out)):gb159≠gb152))<|z ((by rw [hg];exact Nat.ne_of_lt (IsS66.lt (show IsS66 w0 _ g s0_0 t157 t158 from zbi_)):g≠gb159))<|z1 ((by rw [hg];exact Nat.ne_of_gt (IsS66.lt (show IsS66 w0 _ g s0_0 t157 t158 from zbi_)):gb159≠g));clear HO156 HI0 BK152 HK HB;obtain ⟨HO156,HI0,BK152,HK,HB,BK159,GW159,GE159,NB152_159,NB159_152,NB0_159,NB159_0⟩:=n_;clear hb hbox hg;have hnb81:=NB159_152.out;have hnc81:=NB152_159.out;have hnb82:=NB159_0.out;have hnc82:=NB0_159.out;obtain ⟨hcz83_0,hcz83_1,hfz83_0,hfz83_1⟩:=zk2 BK159.out;obtain ⟨Ao84,co84,eo84⟩:=Kd.R_slice HO156.out;subst eo84)|((with_reducible refine gate_callee (f:=59) rfl ?_);refine goesL_ (some 7) rfl rfl Tryd.func59 (by kernel_rfl) rfl #[.pointer (some ⟨g,0,none⟩),.int .i64 30] rfl ze_ ?_;(with_reducible refine (spec_l1Cur_pick.calls g s0_0 t157 t158 30 t160 t161 t162 w0 _ ?side1 ?side2 A3.out).mono ?_);(case side1=>exact zbe_);(case side2=>exact zbj_);rintro e w85 ⟨rfl,hi,hb,hk⟩;refine ⟨_,rfl,?_⟩;have n_:=z (KeepBut.blk hk (g':=gb152) (o := .cells #[.int .i64 0,.slice none 0 0] 26 (0,0)) zhb_ NB152_0.out (by simp))<|z (Kd.R_mono (Kd.R_keep (IsS66.apart (show IsS66 w0 _ g s0_0 t157 t158 from zbe_) (by refine zr ?_;exact (Kd.R_mono (Kd.R_far (p:=⟨gb159,1,none⟩) (Kd.R_far (p:=⟨gb159,0,none⟩) (Kd.R_types HO156.out BK159.out (by decide)) (fun _ hk=>hk.2) (.int .i64 t153)) (fun _ hk=>hk.2) (.slice Ao84 t154.length co84)) (fun _ h_=>h_.1))) (by decide)) hk (fun _ h=>h.2)) (fun _ h=>h.1))<|z (KeepBut.blk hk (g':=gb159) (o := .cells #[.int .i64 t153,.slice Ao84 t154.length co84] 26 (0,0)) zhc_ NB159_0.out (by simp))<|z (KeepBut.trans zbg_ hk (.inl rfl))<|z (hb)<|z1 (hi);clear BK152 HO156 BK159 HK HB HI0;obtain ⟨BK152,HO156,BK159,HK,HB,HI0⟩:=n_;clear hb hk hi;obtain ⟨hcz86_0,hcz86_1,hfz86_0,hfz86_1⟩:=zk2 BK159.out;have hnb87:=NB152_0.out;have hnc87:=NB0_152.out;obtain ⟨hcz88_0,hcz88_1,hfz88_0,hfz88_1⟩:=zk2 BK152.out))
     refine bodyPost_ret (results_cell_row rfl _ _ gb152 26 #[.int .i64 t153,.slice Ao84 t154.length co84] (0,0) _ rfl (by refine zb ?_;refine blk_put (cs:=#[.int .i64 t153,.slice none 0 0]) ?_ 1 _ rfl;refine zb ?_;refine blk_put (cs:=#[.int .i64 0,.slice none 0 0]) ?_ 0 _ rfl;refine zb ?_;exact BK152.out) Tryd.underlying26 rfl (by kernel_rfl)) rfl ?_
     exact ⟨_,zh_,Kd.Q_of_R (by refine zr ?_;exact Kd.R_mono (Kd.R_far (p:=⟨gb152,1,none⟩) (Kd.R_far (p:=⟨gb152,0,none⟩) (Kd.R_types HO156.out BK152.out (by decide)) (fun _ hk=>hk.2) (.int .i64 t153)) (fun _ hk=>hk.2) (.slice Ao84 t154.length co84)) (fun _ hk=>trivial)),zbe_,zbj_,zbg_⟩
def spec_DrawIsTable.f (k:Nat) (l0:List Int):Option (Int×List Int):=(spec_l1Cur_anyTable.f k l0 0 0).bind fun bt187=>(some (bt187.1,bt187.2.1))
theorem spec_DrawIsTable.calls (k:Nat) (A0:Option Addr) (c0:Nat) (l0:List Int) (r1:Int) (r2:List Int) (w:World) (hr0:Kd.C (Kd.int .u8) w A0 l0.length l0) (hc0:l0.length≤c0) (h:spec_DrawIsTable.f k l0=some (r1,r2)) :
  Calls Tryd.prog 70 #[.slice A0 l0.length c0] w fun e w' => ∃ v1_:Value,e = .returned (.agg #[.int .i64 r1,v1_])∧Kd.Q (Kd.int .i64) 3 w' w.heap.size (fun _=>True) v1_ r2∧Below w.heap.size w w':=by
 have hu26:=Tryd.underlying26
 have hu66:=Tryd.underlying66
 have HR0:=aM hr0
 have HC0:=aM hc0
 clear hr0 hc0
 have HB:=aM (Below.refl w.heap.size w)
 have H:((spec_l1Cur_anyTable.f k l0 0 0).bind fun bt187=>(some (bt187.1,bt187.2.1)))=some (r1,r2):=h
 clear h
 replace H:=oB.mp H
 obtain ⟨⟨t187,t188,t191,t192⟩,A20,H⟩:=H
 replace H:(some (t187,t188))=some (r1,r2):=H
 have A2:=aM A20
 clear A20
 simp only [Option.some.injEq,Prod.mk.injEq] at H
 obtain ⟨rfl,rfl⟩:=H
 go_enter Tryd.func70,Tryd.ntmps70
 go_wp2_with (first | ((with_reducible refine gate_dst (N:=2) rfl ?_);refine box_event ?hg (N:=2) ?hd (cs:=#[.int .i64 0,.slice none 0 0]) (t:=26) ?hr ?_;(case hd=>rfl);(case hg=>rfl);(case hr=>exact zb_);intro gb185 hg w3 hbox hb;have n_:=z (below_step za_ hb)<|z (hbox)<|z ((by rw [hg];exact (below_size za_):w.heap.size≤gb185))<|z1 ((by rw [hg];exact (below_size za_):w.heap.size≤gb185));clear HB;obtain ⟨HB,BK185,GW185,GE185⟩:=n_;clear hb hbox hg)|((with_reducible refine gate_dst (N:=6) rfl ?_);refine box_event ?hg (N:=6) ?hd (cs:=#[.slice A0 l0.length c0,.int .i64 0,.int .u64 0]) (t:=66) ?hr ?_;(case hd=>rfl);(case hg=>rfl);(case hr=>exact zb_);intro gb186 hg w4 hbox hb;have n_:=z (blk_below (zb BK185.out) hb)<|z (below_step zjg_ hb)<|z ((by rw [hg];exact (below_size zjg_):w.heap.size≤gb186))<|z ((by rw [hg];exact (below_size zjg_):w.heap.size≤gb186))<|z ((by rw [hg];exact Nat.ne_of_lt (blk_lt (zb BK185.out)):gb185≠gb186))<|z ((by rw [hg];exact Nat.ne_of_gt (blk_lt (zb BK185.out)):gb186≠gb185))<|z1 ((⟨_,_,hbox,(by rw [hg];exact (below_size zjg_):w.heap.size≤gb186),HR0.out⟩:IsS66 w w4 gb186 l0 0 0));clear BK185 HB;obtain ⟨BK185,HB,GW186,GE186,NB185_186,NB186_185,HI186⟩:=n_;clear hb hbox hg)|((with_reducible refine gate_callee (f:=48) rfl ?_);refine goesL_ (some 8) rfl rfl Tryd.func48 (by kernel_rfl) rfl #[.pointer (some ⟨gb186,0,none⟩)] rfl ze_ ?_;(with_reducible refine (spec_l1Cur_anyTable.calls k gb186 l0 0 0 t187 t188 t191 t192 w _ ?side1 ?side2 A2.out).mono ?_);(case side1=>repeat (first | (with_reducible first | exact HI186.out | apply IsS66.alloc | apply IsS66.drewN | apply IsS66.drew | apply IsS66.set_1 | apply IsS66.set_2 | refine IsS66.far ?_ NB186_185.out _) | exact HI186.out));(case side2=>exact zbag_);rintro e w5 ⟨v189,rfl,ho0,hi,hb,hk⟩;refine ⟨_,rfl,?_⟩;have n_:=z (KeepBut.blk hk (zb BK185.out) NB185_186.out (by simp))<|z (Kd.Q_lower ho0 (below_size zbag_))<|z (hb)<|z1 (hi);clear BK185 HB HI186;obtain ⟨BK185,HO190,HB,HI186⟩:=n_;clear hb hk hi;(try clear ho0);have hnb6:=NB185_186.out;have hnc6:=NB186_185.out;obtain ⟨hcz7_0,hcz7_1,hfz7_0,hfz7_1⟩:=zk2 BK185.out;obtain ⟨Ao8,co8,eo8,_⟩:=Kd.Q_slice HO190.out;subst eo8))
 refine bodyPost_ret (results_cell_row rfl _ _ gb185 26 #[.int .i64 t187,.slice Ao8 t188.length co8] (0,0) _ rfl (by refine zb ?_;refine blk_put (cs:=#[.int .i64 t187,.slice none 0 0]) ?_ 1 _ rfl;refine zb ?_;refine blk_put (cs:=#[.int .i64 0,.slice none 0 0]) ?_ 0 _ rfl;refine zb ?_;exact BK185.out) Tryd.underlying26 rfl (by kernel_rfl)) rfl ?_
 exact ⟨_,zh_,by refine zq ?_;exact Kd.Q_mono (Kd.Q_far (p:=⟨gb185,1,none⟩) (Kd.Q_far (p:=⟨gb185,0,none⟩) (Kd.Q_types HO190.out BK185.out (by decide)) (fun _ hk=>hk.2) (.int .i64 t187)) (fun _ hk=>hk.2) (.slice Ao8 t188.length co8)) (fun _ hk=>trivial),zbag_⟩
def spec_DrawTableText.f (k:Nat) (l0:List Int):Option (Int×List Int):=(spec_DrawIsTable.f k l0).bind fun bt194=>(some (bt194.1,bt194.2))
theorem spec_DrawTableText.calls (k:Nat) (A0:Option Addr) (c0:Nat) (l0:List Int) (r1:Int) (r2:List Int) (w:World) (hr0:Kd.C (Kd.int .u8) w A0 l0.length l0) (hc0:l0.length≤c0) (h:spec_DrawTableText.f k l0=some (r1,r2)) :
  Calls Tryd.prog 30 #[.slice A0 l0.length c0] w fun e w' => ∃ v1_:Value,e = .returned (.agg #[.int .i64 r1,v1_])∧Kd.Q (Kd.int .i64) 3 w' w.heap.size (fun _=>True) v1_ r2∧Below w.heap.size w w':=by
 have hu26:=Tryd.underlying26
 have HR0:=aM hr0
 have HC0:=aM hc0
 clear hr0 hc0
 have HB:=aM (Below.refl w.heap.size w)
 have H:((spec_DrawIsTable.f k l0).bind fun bt194=>(some (bt194.1,bt194.2)))=some (r1,r2):=h
 clear h
 replace H:=oB.mp H
 obtain ⟨⟨t194,t195⟩,A20,H⟩:=H
 replace H:(some (t194,t195))=some (r1,r2):=H
 have A2:=aM A20
 clear A20
 simp only [Option.some.injEq,Prod.mk.injEq] at H
 obtain ⟨rfl,rfl⟩:=H
 go_enter Tryd.func30,Tryd.ntmps30
 go_wp2_with (first | ((with_reducible refine gate_dst (N:=2) rfl ?_);refine box_event ?hg (N:=2) ?hd (cs:=#[.int .i64 0,.slice none 0 0]) (t:=26) ?hr ?_;(case hd=>rfl);(case hg=>rfl);(case hr=>exact zb_);intro gb193 hg w3 hbox hb;have n_:=z (below_step za_ hb)<|z (hbox)<|z ((by rw [hg];exact (below_size za_):w.heap.size≤gb193))<|z1 ((by rw [hg];exact (below_size za_):w.heap.size≤gb193));clear HB;obtain ⟨HB,BK193,GW193,GE193⟩:=n_;clear hb hbox hg)|((with_reducible refine gate_callee (f:=70) rfl ?_);refine goesL_ (some 4) rfl rfl Tryd.func70 (by kernel_rfl) rfl #[.slice A0 l0.length c0] rfl ze_ ?_;(with_reducible refine (spec_DrawIsTable.calls k _ _ l0 t194 t195 _ ?side1 ?side2 A2.out).mono ?_);(case side1=>repeat (first | exact (Kd.C_below HR0.out HB.out)|(with_reducible refine cA ?_ _)|(with_reducible refine cN ?_ _)|(with_reducible refine cD ?_)));(case side2=>exact HC0.out);rintro e w4 ⟨v196,rfl,ho0,hb⟩;refine ⟨_,rfl,?_⟩;have n_:=z (Kd.Q_lower ho0 (below_size zbah_))<|z (blk_below (zb BK193.out) hb)<|z1 (below_step zbah_ hb);clear BK193 HB;obtain ⟨HO197,BK193,HB⟩:=n_;clear hb;(try clear ho0);obtain ⟨hcz5_0,hcz5_1,hfz5_0,hfz5_1⟩:=zk2 BK193.out;obtain ⟨Ao6,co6,eo6,_⟩:=Kd.Q_slice HO197.out;subst eo6))
 refine bodyPost_ret (results_cell_row rfl _ _ gb193 26 #[.int .i64 t194,.slice Ao6 t195.length co6] (0,0) _ rfl (by refine zb ?_;refine blk_put (cs:=#[.int .i64 t194,.slice none 0 0]) ?_ 1 _ rfl;refine zb ?_;refine blk_put (cs:=#[.int .i64 0,.slice none 0 0]) ?_ 0 _ rfl;refine zb ?_;exact BK193.out) Tryd.underlying26 rfl (by kernel_rfl)) rfl ?_
 exact ⟨_,zh_,by refine zq ?_;exact Kd.Q_mono (Kd.Q_far (p:=⟨gb193,1,none⟩) (Kd.Q_far (p:=⟨gb193,0,none⟩) (Kd.Q_types HO197.out BK193.out (by decide)) (fun _ hk=>hk.2) (.int .i64 t194)) (fun _ hk=>hk.2) (.slice Ao6 t195.length co6)) (fun _ hk=>trivial),zbah_⟩
def strconv_Itoa.f (a0:Int):Option ByteArray:=if 0≤a0∧a0<100 then some ⟨(Lib.decDigits a0.toNat).toArray⟩ else none
theorem strconv_Itoa.calls (a0:Int) (r:ByteArray) (w:World) (h:strconv_Itoa.f a0=some r) :
  Calls Tryd.prog 68 #[.int .i64 a0] w fun e w'=>e = .returned (.string r)∧Drawn0 w w':=by
 unfold strconv_Itoa.f at h
 by_cases hc:0≤a0∧a0<100
 ·rw [if_pos hc] at h
  obtain rfl:=Option.some.inj h;obtain ⟨n,rfl⟩:=Int.eq_ofNat_of_zero_le hc.1
  refine (Tryd.strconv_Itoa_small n (by omega) w).mono ?_
  rintro e w' ⟨rfl,rfl⟩
  exact ⟨rfl,Drawn0.refl _⟩
 ·rw [if_neg hc] at h
  cases h
def impl_digitsOf.l0:Nat→List Int→List Int→Int→Int→Option (ByteArray)
 | 0,_,_,_,_=>none
 | k+1,x3,x7,x8,x9=>if x9<x8 then (if 0≤x9 then (if x9<(x7.length:Int) then (if x3.length<140737488355328 then (impl_digitsOf.l0 k (x3 ++ [(wrap64 (48+(rd x7 x9))) % 256]) x7 x8 (wrap64 (x9+1))) else (none)) else (none)) else (none)) else (some (strOfNums x3))
def impl_digitsOf.f (k:Nat) (l0:List Int):Option (ByteArray):=impl_digitsOf.l0 k (([]:List Int)) l0 (l0.length:Int) 0
theorem impl_digitsOf.calls (k:Nat) (A0:Option Addr) (c0:Nat) (l0:List Int) (r:ByteArray) (w:World) (hr0:Kd.C (Kd.int .i64) w A0 l0.length l0) (hc0:l0.length≤c0) (h:impl_digitsOf.f k l0=some r) :
  Calls Tryd.prog 71 #[.slice A0 l0.length c0] w fun e w'=>e = .returned (.string r)∧Below w.heap.size w w':=by
 have HR0:=aM hr0
 have HC0:=aM hc0
 clear hr0 hc0
 have HB:=aM (Below.refl w.heap.size w)
 have H:(impl_digitsOf.l0 k (([]:List Int)) l0 (l0.length:Int) 0)=some r:=h
 clear h
 obtain ⟨y198,hy198⟩:∃ y_:List Int,y_=(([]:List Int)):=⟨_,rfl⟩
 replace H:(impl_digitsOf.l0 k y198 l0 (l0.length:Int) 0)=some r:=q3y_ hy198 H
 have Ny198:=aM hy198
 clear hy198
 have H':=aM H
 clear H
 go_enter Tryd.func71,Tryd.ntmps71
 go_wp2_with (first | ((with_reducible refine gate_dst (N:=6) rfl ?_);refine Kd.R_lit (Kd.int .u8) _ 5 ?hg (N:=6) ?hd (xs:=([]:List Int)) (inner:=[]) (ok:=fun _=>True) (okp:=fun _=>True) ?hr ?hp (fun _ hk=>hk) trivial (Below.refl _ _) (Nat.le_refl _) (by simp) ?_;(case hd=>rfl);(case hg=>rfl);(case hr=>exact zb_);(case hp=>exact (Reps.none _ _));intro v199 w2 ho3 hb hg_ hnew_;clear hg_ hnew_;(first | rw [← Ny198.out] at ho3 | (simp only [Int.reduceToNat] at ho3;rw [← Ny198.out] at ho3));have n_:=z (Kd.R_lower ho3 (below_size za_))<|z1 (below_step za_ hb);clear HB;obtain ⟨HO200,HB⟩:=n_;clear hb ho3))
 go_loopg [3,9] k (fun kq v3 v9 w' => ∃ (x3_1:List Int) (x9_1:Int),v9 = .int .i64 x9_1∧Aside0 (impl_digitsOf.l0 kq x3_1 l0 (l0.length:Int) x9_1=some r)∧Aside0 (kq≤k)∧Aside0 (Kd.R (Kd.int .u8) 5 w' w.heap.size (fun _=>True) v3 x3_1)∧Aside0 (Below w.heap.size w w'))
 case atStart=>exact ⟨(y198),(0),zc_,H',⟨Nat.le_refl _⟩,⟨zr HO200.out⟩,⟨za_⟩⟩
 case round =>
  clear H';obtain ⟨x3_1,x9_1,rfl,HA,HK1,HO_3,HB⟩:=hrel
  cases gk with
  | zero=>exact absurd HA.out (by simp [impl_digitsOf.l0])
  | succ k1 =>
   have H:=HA.out;clear HA
   simp only [impl_digitsOf.l0] at H
   by_cases c4:x9_1<(l0.length:Int)
   ·rw [if_pos c4] at H
    have c4b0:=decide_eq_true c4;clear c4
    by_cases c5:0≤x9_1
    ·rw [if_pos c5] at H
     have c5b0:=decide_eq_true c5;clear c5
     by_cases c6:x9_1<(l0.length:Int)
     ·rw [if_pos c6] at H
      have c6b0:=decide_eq_true c6;clear c6
      by_cases c7:x3_1.length<140737488355328
      ·rw [if_pos c7] at H
       have LMc7:=aM c7;clear c7;obtain ⟨y202,hy202⟩:∃ y_:List Int,y_=(x3_1 ++ [(wrap64 (48+(rd l0 x9_1))) % 256]):=⟨_,rfl⟩;replace H:(impl_digitsOf.l0 k1 y202 l0 (l0.length:Int) (wrap64 (x9_1+1)))=some r:=q3y_ hy202 H
       have Ny202:=aM hy202;clear hy202;have H':=aM H;clear H;have p201:0≤(x9_1:Int):=of_decide_eq_true zd_;have q201:x9_1<(l0.length:Int):=of_decide_eq_true zd_;obtain ⟨ad201,e201,hx201_0⟩:=Kd.at_int HR0.out x9_1 p201 q201
       cases e201
       (try (replace hx201_0:=q3h_ HB.out hx201_0));replace p201:=eq_true p201;replace q201:=eq_true q201
       go_wp2_with (first | ((with_reducible refine gate_builtin (b := .append) (xs:=#[.tmp 13,.tmp 17]) rfl ?_);at_builtin;refine Kd.R_append (Kd.int .u8) (w0:=w) w.heap.size rfl (.tmp 13) (.tmp 17) 22 5 (.int .u8 0) 1 rfl Tryd.underlying22 info5 rfl (by decide) (by omega) u3 x3_1 ((wrap64 (48+(rd l0 x9_1))) % 256) [.int .u8 ((wrap64 (48+(rd l0 x9_1))) % 256)] (fun _=>True) (fun _=>False) rfl rfl ?aP (fun _ hk=>hk.elim) ?aF ?aO ?aB ?aS ?aL ?_;(case aP=>exact rfl);(case aB=>exact zbai_);(case aF=>exact zdc_);(case aO=>exact (zr HO_3.out));(case aS=>exact zbaj_);(case aL=>have:=LMc7.out;omega);intro v203 w8 ho hb hg hat;rw [← Ny202.out] at ho;have n_:=z (hb)<|z1 (ho);clear HB HO_3;obtain ⟨HB,HO204⟩:=n_;clear ho hb hg hat))
       go_roundg k1
       case measure=>have:=HK1.out;omega
       case rel=>exact ⟨(y202),(wrap64 (x9_1+1)),zc_,H',⟨zcc_⟩,⟨zr HO204.out⟩,⟨za_⟩⟩
      ·rw [if_neg c7] at H
       exact q3n_ H
     ·rw [if_neg c6] at H
      exact q3n_ H
    ·rw [if_neg c5] at H
     exact q3n_ H
   ·rw [if_neg c4] at H
    have c4b0:=decide_eq_false c4;clear c4;obtain rfl:=Option.some.inj H;have hcv9:=own_string (P:=Tryd.prog) Tryd.underlying22 Tryd.underlying5 Tryd.underlying9 (Kd.own_of_R HO_3.out)
    go_wp2
    go_ret
    exact ⟨zh_,za_⟩
def impl_TableText.f (k:Nat) (a0_0:Int) (l0_1:List Int):Option (ByteArray×Bool):=(impl_IsTable.f k a0_0 l0_1).bind fun t206=>(if t206=true then ((strconv_Itoa.f a0_0).bind fun t207=>(if t207.size+1≤9223372036854775807 then ((impl_digitsOf.f k l0_1).bind fun t208=>(if (t207++(⟨#[58]⟩:ByteArray)).size+t208.size≤9223372036854775807 then (some ((t207++(⟨#[58]⟩:ByteArray))++t208,true)) else (none))) else (none))) else (some ((⟨#[]⟩:ByteArray),false)))
def impl_TableText.T3:Bool×List (List Nat×List Nat):=(true,[([],[]),([0],[0]),([1],[1]),([2],[2]),([],[]),([4],[4]),([5,2],[5]),([3,6],[3,6]),([7,6,0,1,2,3,4,5,6,7],[7]),([8,0,1,2,3,4,5,6,7,8],[])])
def impl_TableText.B3:List Nat:=[0,1,3,7,0,16,55,127,255,511]
theorem impl_TableText.tab3:rtab .any (opsOf Tryd.f31 3)=impl_TableText.T3:=by kernel_rfl
theorem impl_TableText.bits3:waitsOk impl_TableText.T3.2 impl_TableText.B3=true:=by kernel_rfl
theorem impl_TableText.calls (k:Nat) (a0_0:Int) (A0_1:Option Addr) (c0_1:Nat) (l0_1:List Int) (r1:ByteArray) (r2:Bool) (w:World) (hr0_1:Kd.C (Kd.int .i64) w A0_1 l0_1.length l0_1) (hc0_1:l0_1.length≤c0_1) (h:impl_TableText.f k a0_0 l0_1=some (r1,r2)) :
  Calls Tryd.prog 31 #[.agg #[.int .i64 a0_0,.slice A0_1 l0_1.length c0_1]] w fun e w'=>e = .returned (.tuple #[.string r1,.bool r2])∧Below w.heap.size w w':=by
 have hu26:=Tryd.underlying26
 have HR0_1:=aM hr0_1
 have HC0_1:=aM hc0_1
 clear hr0_1 hc0_1
 have HB:=aM (Below.refl w.heap.size w)
 have H:((impl_IsTable.f k a0_0 l0_1).bind fun t206=>(if t206=true then ((strconv_Itoa.f a0_0).bind fun t207=>(if t207.size+1≤9223372036854775807 then ((impl_digitsOf.f k l0_1).bind fun t208=>(if (t207++(⟨#[58]⟩:ByteArray)).size+t208.size≤9223372036854775807 then (some ((t207++(⟨#[58]⟩:ByteArray))++t208,true)) else (none))) else (none))) else (some ((⟨#[]⟩:ByteArray),false))))=some (r1,r2):=h
 clear h
 replace H:=oB.mp H
 obtain ⟨t206,A20,H⟩:=H
 replace H:(if t206=true then ((strconv_Itoa.f a0_0).bind fun t207=>(if t207.size+1≤9223372036854775807 then ((impl_digitsOf.f k l0_1).bind fun t208=>(if (t207++(⟨#[58]⟩:ByteArray)).size+t208.size≤9223372036854775807 then (some ((t207++(⟨#[58]⟩:ByteArray))++t208,true)) else (none))) else (none))) else (some ((⟨#[]⟩:ByteArray),false)))=some (r1,r2):=H
 have A2:=aM A20
 clear A20
 by_cases c3:t206=true
 ·subst c3
  have H1:((strconv_Itoa.f a0_0).bind fun t207=>(if t207.size+1≤9223372036854775807 then ((impl_digitsOf.f k l0_1).bind fun t208=>(if (t207++(⟨#[58]⟩:ByteArray)).size+t208.size≤9223372036854775807 then (some ((t207++(⟨#[58]⟩:ByteArray))++t208,true)) else (none))) else (none)))=some (r1,r2):=by rw [if_pos rfl] at H;exact H
  clear H;have H:=H1;clear H1;replace H:=oB.mp H;obtain ⟨t207,A40,H⟩:=H;replace H:(if t207.size+1≤9223372036854775807 then ((impl_digitsOf.f k l0_1).bind fun t208=>(if (t207++(⟨#[58]⟩:ByteArray)).size+t208.size≤9223372036854775807 then (some ((t207++(⟨#[58]⟩:ByteArray))++t208,true)) else (none))) else (none))=some (r1,r2):=H;have A4:=aM A40;clear A40
  by_cases c5:t207.size+1≤9223372036854775807
  ·rw [if_pos c5] at H
   have c5b0:=eq_true c5;have c5b1:=decide_eq_true c5;(try have c5b2:(9223372036854775807<t207.size+1)=False:=eq_false (Nat.not_lt.2 c5));replace H:=oB.mp H;obtain ⟨t208,A60,H⟩:=H;replace H:(if (t207++(⟨#[58]⟩:ByteArray)).size+t208.size≤9223372036854775807 then (some ((t207++(⟨#[58]⟩:ByteArray))++t208,true)) else (none))=some (r1,r2):=H;have A6:=aM A60;clear A60
   by_cases c7:(t207++(⟨#[58]⟩:ByteArray)).size+t208.size≤9223372036854775807
   ·rw [if_pos c7] at H
    have c7b0:=eq_true c7;have c7b1:=decide_eq_true c7;(try have c7b3:(t207.size+1+t208.size≤9223372036854775807)=True:=eq_true (by have h_:=c7;(repeat rw [ByteArray.size_append] at h_);exact h_));(try have c7b4:(9223372036854775807<t207.size+1+t208.size)=False:=eq_false (by have h_:=c7;(repeat rw [ByteArray.size_append] at h_);exact Nat.not_lt.2 h_));(try have c7b2:(9223372036854775807<(t207++(⟨#[58]⟩:ByteArray)).size+t208.size)=False:=eq_false (Nat.not_lt.2 c7))
    simp only [Option.some.injEq,Prod.mk.injEq] at H
    obtain ⟨rfl,rfl⟩:=H
    go_enter Tryd.func31,Tryd.ntmps31
    (try go_wp2_with (first | ((with_reducible refine gate_dst (N:=1) rfl ?_);refine box_event ?hg (N:=1) ?hd (cs:=#[.int .i64 a0_0,.slice A0_1 l0_1.length c0_1]) (t:=26) ?hr ?_;(case hd=>rfl);(case hg=>rfl);(case hr=>exact zb_);intro gb205 hg w8 hbox hb;have n_:=z (below_step za_ hb)<|z (hbox)<|z ((by rw [hg];exact (below_size za_):w.heap.size≤gb205))<|z1 ((by rw [hg];exact (below_size za_):w.heap.size≤gb205));clear HB;obtain ⟨HB,BK205,GW205,GE205⟩:=n_;clear hb hbox hg;obtain ⟨hcz9_0,hcz9_1,hfz9_0,hfz9_1⟩:=zk2 BK205.out)|((with_reducible refine gate_callee (f:=10) rfl ?_);refine goesL_ (some 5) rfl rfl Tryd.func10 (by kernel_rfl) rfl #[.agg #[.int .i64 a0_0,.slice A0_1 l0_1.length c0_1]] rfl ze_ ?_;(with_reducible refine (impl_IsTable.calls k a0_0 _ _ l0_1 true _ ?side1 ?side2 A2.out).mono ?_);(case side1=>exact zbc_);(case side2=>exact HC0_1.out);rintro e w10 ⟨rfl,hb⟩;refine ⟨_,rfl,?_⟩;have n_:=z (blk_below (zb BK205.out) hb)<|z1 (below_step zfi_ hb);clear BK205 HB;obtain ⟨BK205,HB⟩:=n_;clear hb)));have n_:=z (blk_drew BK205.out)<|z1 (p1 HB.out)
    clear BK205 HB;obtain ⟨BK205,HB⟩:=n_
    refine start_ (n:=10) (S:=fun w'=>w'.cell? ⟨gb205,0,none⟩=some (.int .i64 a0_0)∧w'.cell? ⟨gb205,1,none⟩=some (.slice A0_1 l0_1.length c0_1)) (ds:=[]) #[fi,fi,fi,fi,fi,fi,fi,fi,fi,fi] (by kernel_rfl) rfl rfl ⟨(blk_cell BK205.out 0).trans rfl,(blk_cell BK205.out 1).trans rfl⟩ (fun hHeld=>?_);refine with_tabW impl_TableText.tab3 impl_TableText.bits3 (fun HT_ HW_=>?_)
    generalize w10.drew=w11 at BK205 HB hHeld ⊢;refine py_ 0 7 HT_.out ?_;refine py_ 4 11 HT_.out ?_
    refine tw2_ 1 8 HT_.out HW_.out hHeld ?_
    refine tw2_ 5 12 HT_.out HW_.out hHeld ?_
    refine one_ (i:=2) (N:=some 9) #[ti,ti,ti,fi,ti,ti,fi,fi,fi,fi] rfl rfl (one_of HT_.out (by kernel_rfl)) (by decide) (fun K hK=>?_)
    refine goes_ Tryd.func68 (by kernel_rfl) rfl #[.int .i64 a0_0] (by rfl) rfl rfl ze_ ?_
    with_reducible refine (strconv_Itoa.calls a0_0 t207 _ A4.out).mono ?_
    rintro e w' ⟨rfl,⟨nd,rfl⟩⟩
    refine ⟨_,rfl,?_⟩
    refine hK.out _ _ ⟨(blk_cell BK205.out 0).trans rfl,(blk_cell BK205.out 1).trans rfl⟩ (fun hHeld=>?_)
    clear hK K
    refine nz_ 9 ?_
    refine py_ 3 10 HT_.out ?_
    refine one_ (i:=6) (N:=some 13) #[ti,ti,ti,ti,ti,ti,ti,fi,fi,fi] rfl rfl (one_of HT_.out (by kernel_rfl)) (by decide) (fun K hK=>?_)
    refine goes_ Tryd.func71 (by kernel_rfl) rfl #[.slice A0_1 l0_1.length c0_1] (by rfl) rfl rfl ze_ ?_
    with_reducible refine (impl_digitsOf.calls k _ _ l0_1 t208 _ ?side1 ?side2 A6.out).mono ?_
    (case side1=>repeat (first | exact (Kd.C_below HR0_1.out zfi_)|(with_reducible refine cA ?_ _)|(with_reducible refine cN ?_ _)|(with_reducible refine cD ?_)))
    (case side2=>exact HC0_1.out)
    rintro e w12 ⟨rfl,hb⟩
    refine ⟨_,rfl,?_⟩
    have n_:=z (blk_below (zb BK205.out) hb)<|z1 (below_step zfi_ hb)
    clear BK205 HB;obtain ⟨BK205,HB⟩:=n_;(try clear hb);(try clear hb2);(try clear hk);(try clear hi)
    refine hK.out _ _ ⟨(blk_cell BK205.out 0).trans rfl,(blk_cell BK205.out 1).trans rfl⟩ (fun hHeld=>?_)
    clear hK K
    refine nz_ 13 ?_
    refine py_ 7 14 HT_.out ?_;refine py_ 8 2 HT_.out ?_;refine py_ 9 3 HT_.out ?_
    refine done_ (done_of HT_.out (by kernel_rfl)) ?_
    (try go_wp2)
    go_ret2
    exact ⟨zh_,zfi_⟩
   ·rw [if_neg c7] at H
    exact q3n_ H
  ·rw [if_neg c5] at H
   exact q3n_ H
 ·replace c3:=Bool.eq_false_iff.mpr c3
  subst c3;have H1:(some ((⟨#[]⟩:ByteArray),false))=some (r1,r2):=by rw [if_neg (show ¬ (false=true) by decide)] at H;exact H
  clear H;have H:=H1;clear H1
  simp only [Option.some.injEq,Prod.mk.injEq] at H
  obtain ⟨rfl,rfl⟩:=H
  go_enter Tryd.func31,Tryd.ntmps31
  go_wp2_with (first | ((with_reducible refine gate_dst (N:=1) rfl ?_);refine box_event ?hg (N:=1) ?hd (cs:=#[.int .i64 a0_0,.slice A0_1 l0_1.length c0_1]) (t:=26) ?hr ?_;(case hd=>rfl);(case hg=>rfl);(case hr=>exact zb_);intro gb205 hg w13 hbox hb;have n_:=z (below_step za_ hb)<|z (hbox)<|z ((by rw [hg];exact (below_size za_):w.heap.size≤gb205))<|z1 ((by rw [hg];exact (below_size za_):w.heap.size≤gb205));clear HB;obtain ⟨HB,BK205,GW205,GE205⟩:=n_;clear hb hbox hg;obtain ⟨hcz14_0,hcz14_1,hfz14_0,hfz14_1⟩:=zk2 BK205.out)|((with_reducible refine gate_callee (f:=10) rfl ?_);refine goesL_ (some 5) rfl rfl Tryd.func10 (by kernel_rfl) rfl #[.agg #[.int .i64 a0_0,.slice A0_1 l0_1.length c0_1]] rfl ze_ ?_;(with_reducible refine (impl_IsTable.calls k a0_0 _ _ l0_1 false _ ?side1 ?side2 A2.out).mono ?_);(case side1=>exact zbc_);(case side2=>exact HC0_1.out);rintro e w15 ⟨rfl,hb⟩;refine ⟨_,rfl,?_⟩;have n_:=z (blk_below (zb BK205.out) hb)<|z1 (below_step zfi_ hb);clear BK205 HB;obtain ⟨BK205,HB⟩:=n_;clear hb))
  go_ret2
  exact ⟨zh_,zfi_⟩
def spec_l1In.f (a0:Int) (a1:Int) (a2:Int):Option (Bool):=if a0≥a1 then (some (decide (a0≤a2))) else (some false)
theorem spec_l1In.calls (a0:Int) (a1:Int) (a2:Int) (r:Bool) (w:World) (h:spec_l1In.f a0 a1 a2=some r) :
  Calls Tryd.prog 76 #[.int .i64 a0,.int .i64 a1,.int .i64 a2] w fun e w'=>e = .returned (.bool r)∧Drawn0 w w':=by
 have H:(if a0≥a1 then (some (decide (a0≤a2))) else (some false))=some r:=h
 clear h
 by_cases c4:a0≥a1
 ·rw [if_pos c4] at H
  have c4b0:decide (a1≤a0)=true:=decide_eq_true c4;clear c4;obtain rfl:=Option.some.inj H
  go_enter Tryd.func76,Tryd.ntmps76
  go_wp2
  go_ret
  exact ⟨zc_,zj_⟩
 ·rw [if_neg c4] at H
  have c4b0:decide (a1≤a0)=false:=decide_eq_false c4;clear c4;obtain rfl:=Option.some.inj H
  go_enter Tryd.func76,Tryd.ntmps76
  go_wp2
  go_ret
  exact ⟨zc_,zj_⟩
def spec_l1All.l0:Nat→Int→Int→List Int→Int→Int→Option (Bool)
 | 0,_,_,_,_,_=>none
 | k+1,x1,x2,x9,x10,x11=>if x11<x10 then (if 0≤x11 then (if x11<(x9.length:Int) then ((spec_l1In.f (rd x9 x11) x1 x2).bind fun t210=>(if t210=true then (spec_l1All.l0 k x1 x2 x9 x10 (wrap64 (x11+1))) else (some false))) else (none)) else (none)) else (some true)
def spec_l1All.f (k:Nat) (l0:List Int) (a1:Int) (a2:Int):Option (Bool):=spec_l1All.l0 k a1 a2 l0 (l0.length:Int) 0
theorem spec_l1All.calls (k:Nat) (A0:Option Addr) (c0:Nat) (l0:List Int) (a1:Int) (a2:Int) (r:Bool) (w:World) (hr0:Kd.C (Kd.int .i64) w A0 l0.length l0) (hc0:l0.length≤c0) (h:spec_l1All.f k l0 a1 a2=some r) :
  Calls Tryd.prog 63 #[.slice A0 l0.length c0,.int .i64 a1,.int .i64 a2] w fun e w'=>e = .returned (.bool r)∧Drawn0 w w':=by
 have HR0:=aM hr0
 have HC0:=aM hc0
 clear hr0 hc0
 have H:(spec_l1All.l0 k a1 a2 l0 (l0.length:Int) 0)=some r:=h
 clear h
 have H':=aM H
 clear H
 go_enter Tryd.func63,Tryd.ntmps63
 go_wp2
 go_loopg [11] k (fun kq v11 w' => ∃ (x11_1:Int),v11 = .int .i64 x11_1∧Aside0 (spec_l1All.l0 kq a1 a2 l0 (l0.length:Int) x11_1=some r)∧Aside0 (kq≤k)∧Drawn0 w w')
 case atStart=>exact ⟨(0),zc_,H',⟨Nat.le_refl _⟩,zj_⟩
 case round =>
  clear H';obtain ⟨x11_1,rfl,HA,HK1,⟨m1,rfl⟩⟩:=hrel
  cases gk with
  | zero=>exact absurd HA.out (by simp [spec_l1All.l0])
  | succ k1 =>
   have H:=HA.out;clear HA
   simp only [spec_l1All.l0] at H
   by_cases c4:x11_1<(l0.length:Int)
   ·rw [if_pos c4] at H
    have c4b0:=decide_eq_true c4;clear c4
    by_cases c5:0≤x11_1
    ·rw [if_pos c5] at H
     have c5b0:=decide_eq_true c5;clear c5
     by_cases c6:x11_1<(l0.length:Int)
     ·rw [if_pos c6] at H
      have c6b0:=decide_eq_true c6;clear c6;replace H:=oB.mp H;obtain ⟨t210,A70,H⟩:=H;replace H:(if t210=true then (spec_l1All.l0 k1 a1 a2 l0 (l0.length:Int) (wrap64 (x11_1+1))) else (some false))=some r:=H;have A7:=aM A70;clear A70
      by_cases c8:t210=true
      ·subst c8
       have H1:(spec_l1All.l0 k1 a1 a2 l0 (l0.length:Int) (wrap64 (x11_1+1)))=some r:=by rw [if_pos rfl] at H;exact H
       clear H;have H:=H1;clear H1;have H':=aM H;clear H;have p209:0≤(x11_1:Int):=of_decide_eq_true zd_;have q209:x11_1<(l0.length:Int):=of_decide_eq_true zd_;obtain ⟨ad209,e209,hx209_0⟩:=Kd.at_int HR0.out x11_1 p209 q209
       cases e209
       replace p209:=eq_true p209;replace q209:=eq_true q209
       go_wp2_with (first | ((with_reducible refine gate_callee (f:=76) rfl ?_);refine goesL_ (some 18) rfl rfl Tryd.func76 (by kernel_rfl) rfl #[.int .i64 (rd l0 x11_1),.int .i64 a1,.int .i64 a2] rfl ze_ ?_;(with_reducible refine (spec_l1In.calls (rd l0 x11_1) a1 a2 true _ A7.out).mono ?_);rintro e w' ⟨rfl,⟨nd,rfl⟩⟩;refine ⟨_,rfl,?_⟩))
       go_roundg k1
       case measure=>have:=HK1.out;omega
       case rel=>exact ⟨(wrap64 (x11_1+1)),zc_,H',⟨zcc_⟩,zj_⟩
      ·replace c8:=Bool.eq_false_iff.mpr c8
       subst c8;have H1:(some false)=some r:=by rw [if_neg (show ¬ (false=true) by decide)] at H;exact H
       clear H;have H:=H1;clear H1;obtain rfl:=Option.some.inj H;have p209:0≤(x11_1:Int):=of_decide_eq_true zd_;have q209:x11_1<(l0.length:Int):=of_decide_eq_true zd_;obtain ⟨ad209,e209,hx209_0⟩:=Kd.at_int HR0.out x11_1 p209 q209
       cases e209
       replace p209:=eq_true p209;replace q209:=eq_true q209
       go_wp2_with (first | ((with_reducible refine gate_callee (f:=76) rfl ?_);refine goesL_ (some 18) rfl rfl Tryd.func76 (by kernel_rfl) rfl #[.int .i64 (rd l0 x11_1),.int .i64 a1,.int .i64 a2] rfl ze_ ?_;(with_reducible refine (spec_l1In.calls (rd l0 x11_1) a1 a2 false _ A7.out).mono ?_);rintro e w' ⟨rfl,⟨nd,rfl⟩⟩;refine ⟨_,rfl,?_⟩))
       go_ret
       exact ⟨zc_,zj_⟩
     ·rw [if_neg c6] at H
      exact q3n_ H
    ·rw [if_neg c5] at H
     exact q3n_ H
   ·rw [if_neg c4] at H
    have c4b0:=decide_eq_false c4;clear c4;obtain rfl:=Option.some.inj H
    go_wp2
    go_ret
    exact ⟨zc_,zj_⟩
def spec_ttInputs.f (a0:Int):Option (Bool):=(spec_l1In.f a0 0 4).bind fun t211=>(some t211)
theorem spec_ttInputs.calls (a0:Int) (r:Bool) (w:World) (h:spec_ttInputs.f a0=some r) :
  Calls Tryd.prog 85 #[.int .i64 a0] w fun e w'=>e = .returned (.bool r)∧Drawn0 w w':=by
 have H:((spec_l1In.f a0 0 4).bind fun t211=>(some t211))=some r:=h
 clear h
 replace H:=oB.mp H
 obtain ⟨t211,A20,H⟩:=H
 replace H:(some t211)=some r:=H
 have A2:=aM A20
 clear A20
 obtain rfl:=Option.some.inj H
 go_enter Tryd.func85,Tryd.ntmps85
 go_wp2_with (first | ((with_reducible refine gate_callee (f:=76) rfl ?_);refine goesL_ (some 4) rfl rfl Tryd.func76 (by kernel_rfl) rfl #[.int .i64 a0,.int .i64 0,.int .i64 4] rfl ze_ ?_;(with_reducible refine (spec_l1In.calls a0 0 4 t211 _ A2.out).mono ?_);rintro e w' ⟨rfl,⟨nd,rfl⟩⟩;refine ⟨_,rfl,?_⟩))
 go_ret
 exact ⟨zc_,zj_⟩
def spec_ttGood.f (k:Nat) (a0_0:Int) (l0_1:List Int):Option (Bool):=(spec_ttInputs.f a0_0).bind fun t213=>(if t213=true then (if 0≤(IntKind.u64.wrap (a0_0)) then (if (l0_1.length:Int)=(shl .i64 1 (IntKind.u64.wrap (a0_0))) then ((spec_l1All.f k l0_1 0 1).bind fun t214=>(some t214)) else (some false)) else (none)) else (some false))
theorem spec_ttGood.calls (k:Nat) (a0_0:Int) (A0_1:Option Addr) (c0_1:Nat) (l0_1:List Int) (r:Bool) (w:World) (hr0_1:Kd.C (Kd.int .i64) w A0_1 l0_1.length l0_1) (hc0_1:l0_1.length≤c0_1) (h:spec_ttGood.f k a0_0 l0_1=some r) :
  Calls Tryd.prog 50 #[.agg #[.int .i64 a0_0,.slice A0_1 l0_1.length c0_1]] w fun e w'=>e = .returned (.bool r)∧Below w.heap.size w w':=by
 have hu26:=Tryd.underlying26
 have HR0_1:=aM hr0_1
 have HC0_1:=aM hc0_1
 clear hr0_1 hc0_1
 have HB:=aM (Below.refl w.heap.size w)
 have H:((spec_ttInputs.f a0_0).bind fun t213=>(if t213=true then (if 0≤(IntKind.u64.wrap (a0_0)) then (if (l0_1.length:Int)=(shl .i64 1 (IntKind.u64.wrap (a0_0))) then ((spec_l1All.f k l0_1 0 1).bind fun t214=>(some t214)) else (some false)) else (none)) else (some false)))=some r:=h
 clear h
 replace H:=oB.mp H
 obtain ⟨t213,A20,H⟩:=H
 replace H:(if t213=true then (if 0≤(IntKind.u64.wrap (a0_0)) then (if (l0_1.length:Int)=(shl .i64 1 (IntKind.u64.wrap (a0_0))) then ((spec_l1All.f k l0_1 0 1).bind fun t214=>(some t214)) else (some false)) else (none)) else (some false))=some r:=H
 have A2:=aM A20
 clear A20
 by_cases c3:t213=true
 ·subst c3
  have H1:(if 0≤(IntKind.u64.wrap (a0_0)) then (if (l0_1.length:Int)=(shl .i64 1 (IntKind.u64.wrap (a0_0))) then ((spec_l1All.f k l0_1 0 1).bind fun t214=>(some t214)) else (some false)) else (none))=some r:=by rw [if_pos rfl] at H;exact H
  clear H;have H:=H1;clear H1;obtain ⟨ji4,hji4⟩:∃ j_:Int,(IntKind.u64.wrap (a0_0))=j_:=⟨_,rfl⟩;replace H:(if 0≤(ji4) then (if (l0_1.length:Int)=(shl .i64 1 (ji4)) then ((spec_l1All.f k l0_1 0 1).bind fun t214=>(some t214)) else (some false)) else (none))=some r:=by first | (rw [hji4] at H;exact H)|(simp only [hji4] at H ⊢;exact H)
  (try rw [hji4] at A2)
  by_cases c5:0≤(ji4)
  ·rw [if_pos c5] at H
   have c5b0:=eq_true c5;have c5b1:=decide_eq_true c5;clear c5;obtain ⟨ji6,hji6⟩:∃ j_:Int,(shl .i64 1 (ji4))=j_:=⟨_,rfl⟩;replace H:(if (l0_1.length:Int)=(ji6) then ((spec_l1All.f k l0_1 0 1).bind fun t214=>(some t214)) else (some false))=some r:=by first | (rw [hji6] at H;exact H)|(simp only [hji6] at H ⊢;exact H)
   (try rw [hji6] at A2);have hji6_:(IntKind.i64.wrap (1 * 2 ^ min (ji4).toNat 64))=ji6:=hji6;have hji6z:(ji4)≤64→(IntKind.i64.wrap (1 * 2 ^ (ji4).toNat))=ji6:=shl_small hji6;have hji6u:(IntKind.i64.wrap (2 ^ min (ji4).toNat 64))=ji6:=by have h_:=hji6_;rw [Int.one_mul] at h_;exact h_
   have hji6v:(ji4)≤64→(IntKind.i64.wrap (2 ^ (ji4).toNat))=ji6:=fun hle_=>by have h_:=hji6z hle_;rw [Int.one_mul] at h_;exact h_
   have hji6y:(wrap64 (1 * 2 ^ min (ji4).toNat 64))=ji6:=(i64_w _).symm.trans hji6_;have hji6x:(ji4)≤64→(wrap64 (1 * 2 ^ (ji4).toNat))=ji6:=fun h_=>(i64_w _).symm.trans (hji6z h_)
   by_cases c7:(l0_1.length:Int)=(ji6)
   ·rw [if_pos c7] at H
    have c7b0:=beq_iff_eq.mpr c7;have c7b1:=bne_eq_false_iff_eq.mpr c7;clear c7;replace H:=oB.mp H;obtain ⟨t214,A80,H⟩:=H;replace H:(some t214)=some r:=H;have A8:=aM A80;clear A80;obtain rfl:=Option.some.inj H
    go_enter Tryd.func50,Tryd.ntmps50
    go_wp2_with (first | ((with_reducible refine gate_dst (N:=1) rfl ?_);(try (refine gate_guard (by rfl) ?_;dsimp only));refine box_event ?hg (N:=1) ?hd (cs:=#[.int .i64 a0_0,.slice A0_1 l0_1.length c0_1]) (t:=26) ?hr ?_;(case hd=>rfl);(case hg=>rfl);(case hr=>exact zb_);intro gb212 hg w9 hbox hb;have n_:=z (below_step za_ hb)<|z (hbox)<|z ((by rw [hg];exact (below_size za_):w.heap.size≤gb212))<|z1 ((by rw [hg];exact (below_size za_):w.heap.size≤gb212));clear HB;obtain ⟨HB,BK212,GW212,GE212⟩:=n_;clear hb hbox hg;obtain ⟨hcz10_0,hcz10_1,hfz10_0,hfz10_1⟩:=zk2 BK212.out)|((with_reducible refine gate_callee (f:=85) rfl ?_);refine goesL_ (some 5) rfl rfl Tryd.func85 (by kernel_rfl) rfl #[.int .i64 a0_0] rfl ze_ ?_;(with_reducible refine (spec_ttInputs.calls a0_0 true _ A2.out).mono ?_);rintro e w' ⟨rfl,⟨nd,rfl⟩⟩;refine ⟨_,rfl,?_⟩)|(go_at_call 63;(with_reducible refine (spec_l1All.calls k _ _ l0_1 0 1 t214 _ ?side1 ?side2 A8.out).mono ?_);(case side1=>repeat (first | exact (Kd.C_below HR0_1.out zjh_)|(with_reducible refine cA ?_ _)|(with_reducible refine cN ?_ _)|(with_reducible refine cD ?_)));(case side2=>exact HC0_1.out);rintro e w' ⟨rfl,⟨nd,rfl⟩⟩))
    go_ret
    exact ⟨by first | rfl | (simp [errW_none,errW_some] <;> rfl)|(simp only [← hji4,← hji6];first | rfl | (simp [errW_none,errW_some] <;> rfl))|(simp [*,errW_none,errW_some] <;> rfl),zjh_⟩
   ·rw [if_neg c7] at H
    have c7b0:=beq_eq_false_iff_ne.mpr c7;have c7b1:=bne_iff_ne.mpr c7;obtain rfl:=Option.some.inj H
    go_enter Tryd.func50,Tryd.ntmps50
    go_wp2_with (first | ((with_reducible refine gate_dst (N:=1) rfl ?_);(try (refine gate_guard (by rfl) ?_;dsimp only));refine box_event ?hg (N:=1) ?hd (cs:=#[.int .i64 a0_0,.slice A0_1 l0_1.length c0_1]) (t:=26) ?hr ?_;(case hd=>rfl);(case hg=>rfl);(case hr=>exact zb_);intro gb212 hg w11 hbox hb;have n_:=z (below_step za_ hb)<|z (hbox)<|z ((by rw [hg];exact (below_size za_):w.heap.size≤gb212))<|z1 ((by rw [hg];exact (below_size za_):w.heap.size≤gb212));clear HB;obtain ⟨HB,BK212,GW212,GE212⟩:=n_;clear hb hbox hg;obtain ⟨hcz12_0,hcz12_1,hfz12_0,hfz12_1⟩:=zk2 BK212.out)|((with_reducible refine gate_callee (f:=85) rfl ?_);refine goesL_ (some 5) rfl rfl Tryd.func85 (by kernel_rfl) rfl #[.int .i64 a0_0] rfl ze_ ?_;(with_reducible refine (spec_ttInputs.calls a0_0 true _ A2.out).mono ?_);rintro e w' ⟨rfl,⟨nd,rfl⟩⟩;refine ⟨_,rfl,?_⟩))
    go_ret
    exact ⟨by first | rfl | (simp [errW_none,errW_some] <;> rfl)|(simp only [← hji4,← hji6];first | rfl | (simp [errW_none,errW_some] <;> rfl))|(simp [*,errW_none,errW_some] <;> rfl),zjh_⟩
  ·rw [if_neg c5] at H
   exact q3n_ H
 ·replace c3:=Bool.eq_false_iff.mpr c3
  subst c3;have H1:(some false)=some r:=by rw [if_neg (show ¬ (false=true) by decide)] at H;exact H
  clear H;have H:=H1;clear H1;obtain rfl:=Option.some.inj H
  go_enter Tryd.func50,Tryd.ntmps50
  go_wp2_with (first | ((with_reducible refine gate_dst (N:=1) rfl ?_);(try (refine gate_guard (by rfl) ?_;dsimp only));refine box_event ?hg (N:=1) ?hd (cs:=#[.int .i64 a0_0,.slice A0_1 l0_1.length c0_1]) (t:=26) ?hr ?_;(case hd=>rfl);(case hg=>rfl);(case hr=>exact zb_);intro gb212 hg w13 hbox hb;have n_:=z (below_step za_ hb)<|z (hbox)<|z ((by rw [hg];exact (below_size za_):w.heap.size≤gb212))<|z1 ((by rw [hg];exact (below_size za_):w.heap.size≤gb212));clear HB;obtain ⟨HB,BK212,GW212,GE212⟩:=n_;clear hb hbox hg;obtain ⟨hcz14_0,hcz14_1,hfz14_0,hfz14_1⟩:=zk2 BK212.out)|((with_reducible refine gate_callee (f:=85) rfl ?_);refine goesL_ (some 5) rfl rfl Tryd.func85 (by kernel_rfl) rfl #[.int .i64 a0_0] rfl ze_ ?_;(with_reducible refine (spec_ttInputs.calls a0_0 false _ A2.out).mono ?_);rintro e w' ⟨rfl,⟨nd,rfl⟩⟩;refine ⟨_,rfl,?_⟩))
  go_ret
  exact ⟨zh_,zjh_⟩
def spec_l1Num.f:Nat→Int→Option (ByteArray)
 | 0,_=>none
 | k+1,a0=>if a0<10 then (some (strOfNums (([(wrap64 (48+a0)) % 256]:List Int)))) else ((spec_l1Num.f k (wrap64 (Int.tdiv a0 10))).bind fun t218=>((some (([(wrap64 (48+(Int.tmod a0 10))) % 256]:List Int):List Int)).bind fun y219=>(if t218.size+(strOfNums y219).size≤9223372036854775807 then (some (t218++(strOfNums y219))) else (none))))
def spec_l1Num.T3:Bool×List (List Nat×List Nat):=(true,[([],[]),([0],[0]),([1],[1]),([],[]),([3],[3]),([4],[4]),([5],[5]),([6],[6]),([7],[7]),([2,8],[2,8]),([9,2,0,1,2,3,4,5,6,7,8,9],[9])])
def spec_l1Num.B3:List Nat:=[0,1,3,0,8,24,56,120,248,511,1023]
theorem spec_l1Num.tab3:rtab .any (opsOf Tryd.f69 3)=spec_l1Num.T3:=by kernel_rfl
theorem spec_l1Num.bits3:waitsOk spec_l1Num.T3.2 spec_l1Num.B3=true:=by kernel_rfl
theorem spec_l1Num.calls (k:Nat):∀ (a0:Int) (r:ByteArray) (w:World) (h:spec_l1Num.f k a0=some r),
  Calls Tryd.prog 69 #[.int .i64 a0] w fun e w'=>e = .returned (.string r)∧Below w.heap.size w w':=by
 induction k using Nat.strongRecOn with
 | _ k ih =>
 intro a0 r w h
 cases k with
 | zero=>exact absurd h (by simp [spec_l1Num.f])
 | succ k =>
 simp only [spec_l1Num.f] at h
 have HB:=aM (Below.refl w.heap.size w)
 have H:(if a0<10 then (some (strOfNums (([(wrap64 (48+a0)) % 256]:List Int)))) else ((spec_l1Num.f k (wrap64 (Int.tdiv a0 10))).bind fun t218=>((some (([(wrap64 (48+(Int.tmod a0 10))) % 256]:List Int):List Int)).bind fun y219=>(if t218.size+(strOfNums y219).size≤9223372036854775807 then (some (t218++(strOfNums y219))) else (none)))))=some r:=h
 clear h
 by_cases c2:a0<10
 ·rw [if_pos c2] at H
  have c2b0:=decide_eq_true c2;clear c2;obtain ⟨y215,hy215⟩:∃ y_:List Int,y_=(([(wrap64 (48+a0)) % 256]:List Int)):=⟨_,rfl⟩;replace H:(some (strOfNums y215))=some r:=q3y_ hy215 H
  have Ny215:=aM hy215;clear hy215;obtain rfl:=Option.some.inj H
  go_enter Tryd.func69,Tryd.ntmps69
  go_wp2_with (first | ((with_reducible refine gate_dst (N:=8) rfl ?_);refine Kd.R_lit (Kd.int .u8) _ 5 ?hg (N:=8) ?hd (xs:=([(wrap64 (48+a0)) % 256]:List Int)) (inner:=[.int .u8 ((wrap64 (48+a0)) % 256)]) (ok:=fun _=>True) (okp:=fun _=>True) ?hr ?hp (fun _ hk=>hk) trivial (Below.refl _ _) (Nat.le_refl _) (by simp) ?_;(case hd=>rfl);(case hg=>rfl);(case hr=>exact zb_);(case hp=>exact (Reps.one (show Kd.M (Kd.int .u8) _ _ _ ((wrap64 (48+a0)) % 256) [.int .u8 ((wrap64 (48+a0)) % 256)] from rfl) (Reps.none _ _)));intro v216 w3 ho4 hb hg_ hnew_;clear hg_ hnew_;(first | rw [← Ny215.out] at ho4 | (simp only [Int.reduceToNat] at ho4;rw [← Ny215.out] at ho4));have n_:=z (Kd.R_lower ho4 (below_size za_))<|z1 (below_step za_ hb);clear HB;obtain ⟨HO217,HB⟩:=n_;clear hb ho4;have hcv5:=own_string (P:=Tryd.prog) Tryd.underlying22 Tryd.underlying5 Tryd.underlying9 (Kd.own_of_R HO217.out)))
  go_ret
  exact ⟨zh_,za_⟩
 ·rw [if_neg c2] at H
  have c2b0:=decide_eq_false c2;clear c2;replace H:=oB.mp H;obtain ⟨t218,A60,H⟩:=H;replace H:((some (([(wrap64 (48+(Int.tmod a0 10))) % 256]:List Int):List Int)).bind fun y219=>(if t218.size+(strOfNums y219).size≤9223372036854775807 then (some (t218++(strOfNums y219))) else (none)))=some r:=H;have A6:=aM A60;clear A60;obtain ⟨y219,hy219⟩:∃ y_:List Int,y_=(([(wrap64 (48+(Int.tmod a0 10))) % 256]:List Int)):=⟨_,rfl⟩;replace H:(if t218.size+(strOfNums y219).size≤9223372036854775807 then (some (t218++(strOfNums y219))) else (none))=some r:=q3y_ hy219 H
  have Ny219:=aM hy219;clear hy219
  by_cases c7:t218.size+(strOfNums y219).size≤9223372036854775807
  ·rw [if_pos c7] at H
   have c7b0:=eq_true c7;have c7b1:=decide_eq_true c7;(try have c7b2:(9223372036854775807<t218.size+(strOfNums y219).size)=False:=eq_false (Nat.not_lt.2 c7));obtain rfl:=Option.some.inj H
   go_enter Tryd.func69,Tryd.ntmps69
   (try go_wp2);have n0_:=aM (p1 HB.out);clear HB;have HB:=n0_;clear n0_
   refine start_ (n:=11) (S:=fun w'=>True) (ds:=[]) #[fi,fi,fi,fi,fi,fi,fi,fi,fi,fi,fi] (by kernel_rfl) rfl rfl trivial (fun hHeld=>?_);refine with_tabW spec_l1Num.tab3 spec_l1Num.bits3 (fun HT_ HW_=>?_)
   generalize w.drew=w8 at HB hHeld ⊢;refine py_ 0 10 HT_.out ?_;refine py_ 1 11 HT_.out ?_;refine py_ 3 13 HT_.out ?_;refine py_ 4 14 HT_.out ?_;refine py_ 5 15 HT_.out ?_;refine py_ 6 16 HT_.out ?_
   refine join_ (σ:=Value) 2 #[ti,ti,ti,ti,ti,ti,ti,ti,ti,fi,fi] (fun s_ => [(12,.string t218),(17,s_),(18,.string (strOfNums y219))]) (fun s_ w'=>(Kd.R (Kd.int .u8) 5 w' w.heap.size (fun _=>True) s_ y219)∧(Below w.heap.size w w')) ?_ ?_
   rotate_left
   ·intro hCont
    refine two_ (i:=2) (j:=7) (Ni:=some 12) (Nj:=some 17) #[ti,ti,ti,ti,ti,ti,ti,fi,fi,fi,fi] #[ti,ti,fi,ti,ti,ti,ti,ti,fi,fi,fi] rfl rfl rfl rfl (two_of HT_.out (by kernel_rfl)) (by decide) (by decide) (fun K hK=>?_) (fun K hK=>?_)
    ·skip
     refine goes_ Tryd.func69 (by kernel_rfl) rfl #[.int .i64 (wrap64 (Int.tdiv a0 10))] (by rfl) rfl rfl ze_ ?_
     with_reducible refine (ih k (by omega) (wrap64 (Int.tdiv a0 10)) t218 _ A6.out).mono ?_
     rintro e w9 ⟨rfl,hb⟩
     refine ⟨_,rfl,?_⟩
     have n0_:=aM (below_step za_ hb);clear HB;have HB:=n0_;clear n0_;(try clear hb);(try clear hb2);(try clear hk);(try clear hi)
     refine hK.out _ _ trivial (fun hHeld=>?_)
     clear hK K
     refine nz_ 12 ?_
     refine one_ (i:=7) (N:=some 17) #[ti,ti,ti,ti,ti,ti,ti,ti,fi,fi,fi] rfl rfl (one_of HT_.out (by kernel_rfl)) (by decide) (fun K hK=>?_)
     refine Kd.R_lit_step (Kd.int .u8) _ 5 ?hg (N:=17) ?hd (xs:=([(wrap64 (48+(Int.tmod a0 10))) % 256]:List Int)) (inner:=[.int .u8 ((wrap64 (48+(Int.tmod a0 10))) % 256)]) (ok:=fun _=>True) (okp:=fun _=>True) ?hr ?hp (fun _ hk=>hk) trivial (Below.refl _ _) (Nat.le_refl _) (by simp) ?_;(case hd=>rfl);(case hg=>rfl);(case hr=>exact zb_);(case hp=>exact (Reps.one (show Kd.M (Kd.int .u8) _ _ _ ((wrap64 (48+(Int.tmod a0 10))) % 256) [.int .u8 ((wrap64 (48+(Int.tmod a0 10))) % 256)] from rfl) (Reps.none _ _)))
     intro v220 w10 ho11 hb hg_ hnew_
     clear hg_ hnew_;(first | rw [← Ny219.out] at ho11 | (simp only [Int.reduceToNat] at ho11;rw [← Ny219.out] at ho11));have n_:=z (Kd.R_lower ho11 (below_size za_))<|z1 (below_step za_ hb)
     clear HB;obtain ⟨HO221,HB⟩:=n_;clear hb ho11
     refine hK.out _ _ trivial (fun hHeld=>?_)
     clear hK K
     refine nz_ 17 ?_
     refine one_ (i:=8) (N:=some 18) #[ti,ti,ti,ti,ti,ti,ti,ti,ti,fi,fi] rfl rfl (one_of HT_.out (by kernel_rfl)) (by decide) (fun K hK=>?_)
     have hcv12:=own_string (P:=Tryd.prog) Tryd.underlying22 Tryd.underlying5 Tryd.underlying9 (Kd.own_of_R HO221.out)
     refine value_ (w1:=?_) (v:=?_) (by rfl) rfl ?_ ?_
     rotate_left 2
     ·go_simp
      constructor
      ·rfl
      ·rfl
     clear hcv12
     refine hK.out _ _ trivial (fun hHeld=>?_)
     clear hK K
     refine nz_ 18 ?_
     exact norm_ (by simp only [putAll,Act.put,sI,s0,sS]) (hCont (v220) _ ⟨(zr HO221.out),za_⟩)
    ·skip
     refine Kd.R_lit_step (Kd.int .u8) _ 5 ?hg (N:=17) ?hd (xs:=([(wrap64 (48+(Int.tmod a0 10))) % 256]:List Int)) (inner:=[.int .u8 ((wrap64 (48+(Int.tmod a0 10))) % 256)]) (ok:=fun _=>True) (okp:=fun _=>True) ?hr ?hp (fun _ hk=>hk) trivial (Below.refl _ _) (Nat.le_refl _) (by simp) ?_;(case hd=>rfl);(case hg=>rfl);(case hr=>exact zb_);(case hp=>exact (Reps.one (show Kd.M (Kd.int .u8) _ _ _ ((wrap64 (48+(Int.tmod a0 10))) % 256) [.int .u8 ((wrap64 (48+(Int.tmod a0 10))) % 256)] from rfl) (Reps.none _ _)))
     intro v220 w9 ho10 hb hg_ hnew_
     clear hg_ hnew_;(first | rw [← Ny219.out] at ho10 | (simp only [Int.reduceToNat] at ho10;rw [← Ny219.out] at ho10));have n_:=z (Kd.R_lower ho10 (below_size za_))<|z1 (below_step za_ hb)
     clear HB;obtain ⟨HO221,HB⟩:=n_;clear hb ho10
     refine hK.out _ _ trivial (fun hHeld=>?_)
     clear hK K
     refine nz_ 17 ?_
     refine two_ (i:=2) (j:=8) (Ni:=some 12) (Nj:=some 18) #[ti,ti,ti,ti,ti,ti,ti,ti,fi,fi,fi] #[ti,ti,fi,ti,ti,ti,ti,ti,ti,fi,fi] rfl rfl rfl rfl (two_of HT_.out (by kernel_rfl)) (by decide) (by decide) (fun K hK=>?_) (fun K hK=>?_)
     ·skip
      refine goes_ Tryd.func69 (by kernel_rfl) rfl #[.int .i64 (wrap64 (Int.tdiv a0 10))] (by rfl) rfl rfl ze_ ?_
      with_reducible refine (ih k (by omega) (wrap64 (Int.tdiv a0 10)) t218 _ A6.out).mono ?_
      rintro e w11 ⟨rfl,hb⟩
      refine ⟨_,rfl,?_⟩
      have n_:=z (Kd.R_below (zr HO221.out) hb)<|z1 (below_step za_ hb)
      clear HO221 HB;obtain ⟨HO221,HB⟩:=n_;(try clear hb);(try clear hb2);(try clear hk);(try clear hi)
      refine hK.out _ _ trivial (fun hHeld=>?_)
      clear hK K
      refine nz_ 12 ?_
      refine one_ (i:=8) (N:=some 18) #[ti,ti,ti,ti,ti,ti,ti,ti,ti,fi,fi] rfl rfl (one_of HT_.out (by kernel_rfl)) (by decide) (fun K hK=>?_)
      have hcv12:=own_string (P:=Tryd.prog) Tryd.underlying22 Tryd.underlying5 Tryd.underlying9 (Kd.own_of_R HO221.out)
      refine value_ (w1:=?_) (v:=?_) (by rfl) rfl ?_ ?_
      rotate_left 2
      ·go_simp
       constructor
       ·rfl
       ·rfl
      clear hcv12
      refine hK.out _ _ trivial (fun hHeld=>?_)
      clear hK K
      refine nz_ 18 ?_
      exact norm_ (by simp only [putAll,Act.put,sI,s0,sS]) (hCont (v220) _ ⟨(zr HO221.out),za_⟩)
     ·skip
      have hcv11:=own_string (P:=Tryd.prog) Tryd.underlying22 Tryd.underlying5 Tryd.underlying9 (Kd.own_of_R HO221.out)
      refine value_ (w1:=?_) (v:=?_) (by rfl) rfl ?_ ?_
      rotate_left 2
      ·go_simp
       constructor
       ·rfl
       ·rfl
      clear hcv11
      refine hK.out _ _ trivial (fun hHeld=>?_)
      clear hK K
      refine nz_ 18 ?_
      refine one_ (i:=2) (N:=some 12) #[ti,ti,ti,ti,ti,ti,ti,ti,ti,fi,fi] rfl rfl (one_of HT_.out (by kernel_rfl)) (by decide) (fun K hK=>?_)
      refine goes_ Tryd.func69 (by kernel_rfl) rfl #[.int .i64 (wrap64 (Int.tdiv a0 10))] (by rfl) rfl rfl ze_ ?_
      with_reducible refine (ih k (by omega) (wrap64 (Int.tdiv a0 10)) t218 _ A6.out).mono ?_
      rintro e w12 ⟨rfl,hb⟩
      refine ⟨_,rfl,?_⟩
      have n_:=z (Kd.R_below (zr HO221.out) hb)<|z1 (below_step za_ hb)
      clear HO221 HB;obtain ⟨HO221,HB⟩:=n_;(try clear hb);(try clear hb2);(try clear hk);(try clear hi)
      refine hK.out _ _ trivial (fun hHeld=>?_)
      clear hK K
      refine nz_ 12 ?_
      exact norm_ (by simp only [putAll,Act.put,sI,s0,sS]) (hCont (v220) _ ⟨(zr HO221.out),za_⟩)
   rintro v220 w13 ⟨h0_,h1_⟩
   have n0_:Aside0 (Kd.R (Kd.int .u8) 5 w13 w.heap.size (fun _=>True) v220 y219):=⟨h0_⟩;have n1_:Aside0 (Below w.heap.size w w13):=⟨h1_⟩;clear HB h0_ h1_;have HO221:=n0_;have HB:=n1_;clear n0_ n1_;have hHeld:=trivial
   refine norm_ (a':=?_) ?_ ?_
   rotate_left
   ·simp only [putAll,Act.put,sI,s0,sS]
    rfl
   refine py_ 9 19 HT_.out ?_;refine py_ 10 2 HT_.out ?_
   refine done_ (done_of HT_.out (by kernel_rfl)) ?_
   (try go_wp2)
   go_ret
   exact ⟨zh_,za_⟩
  ·rw [if_neg c7] at H
   exact q3n_ H
end Go.Proofs.YtlnhpkjioppbiaaDoor.QFnTables
