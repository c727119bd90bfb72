/- Functions of FnDiagramOrders, each as a Lean function, with the proof that the Go code comes to its answers. -/
import Derived.Test.YtlnhpkjioppbiaaSFnDiagramOrdersx3
import Derived.Test.YtlnhpkjioppbiaaSFnDiagramOrdersx14
namespace Go.Proofs.Ytlnhpkjioppbiaa.QFnDiagramOrders
open Go.RowKit Go.Proofs.YtlnhpkjioppbiaaW.PrintWords Go.Proofs.YtlnhpkjioppbiaaW.PrintLast Go.Proofs.YtlnhpkjioppbiaaW.PrintMore
open Go.Proofs.YtlnhpkjioppbiaaW.PrintWords renaming pw_below_drewN→pN,below_drew1→p1,below_alloc→pA
open Go.Proofs.YtlnhpkjioppbiaaW.PrintWords.Kd renaming R_alloc→kA,R_drewN→kN,R_drew→kD,Q_alloc→qA,Q_drewN→qN,Q_drew→qD,C_alloc→cA,C_drewN→cN,C_drew→cD
open Go.Proofs.YtlnhpkjioppbiaaW.PrintWords.Aside0 renaming mk→aM
open List renaming setIfInBounds_toArray→sI,set_cons_zero→s0,set_cons_succ→sS,map_toArray→mT,length_take→lT,length_drop→lD,map_cons→mC,map_nil→mN
open Option renaming bind_eq_some_iff→oB,bind_some→oS
attribute [local go_sem] max2_int min2_int max_two min_two max_three min_three max_four min_four
set_option maxHeartbeats 8000000
set_option maxRecDepth 100000
set_option linter.unusedVariables false
set_option linter.unusedSimpArgs false
open Option renaming bind_some→oS
def spec_l1Cur_anyTable.f (k:Nat) (s0_0:List Int) (s0_1:Int) (s0_2:Int):Option (Int×List Int×Int×Int):=(spec_l1Cur_table.f k s0_0 s0_1 s0_2).bind fun bt280=>((spec_l1Cur_pick.f s0_0 bt280.2.2.1 bt280.2.2.2 30).bind fun bt287=>(if bt287.1=0 then ((spec_l1Cur_among.f s0_0 bt287.2.1 bt287.2.2 (([(-1),wrap64 (bt280.1+1)]:List Int))).bind fun bt293=>(some (bt293.1,bt280.2.1,bt293.2.1,bt293.2.2))) else (if bt287.1=1 then ((spec_l1Cur_pick.f s0_0 bt287.2.1 bt287.2.2 (bt280.2.1.length:Int)).bind fun bt296=>((spec_l1Cur_among.f s0_0 bt296.2.1 bt296.2.2 (([(-1),2]:List Int))).bind fun bt302=>(if 0≤bt296.1 then (if bt296.1<(bt280.2.1.length:Int) then (some (bt280.1,(bt280.2.1.set (bt296.1:Int).toNat bt302.1),bt302.2.1,bt302.2.2)) else (none)) else (none)))) else (if bt287.1=2 then (if 1≤(bt280.2.1.length:Int) then (some (bt280.1,(bt280.2.1.drop (1:Int).toNat),bt287.2.1,bt287.2.2)) else (none)) else (if bt287.1=3 then (if 32≤35184372088832 then (some (5,(List.replicate 32 0),bt287.2.1,bt287.2.2)) else (none)) else (some (bt280.1,bt280.2.1,bt287.2.1,bt287.2.2)))))))
def spec_l1Cur_anyTable.T6:Bool×List (List Nat×List Nat):=(true,[([],[]),([0],[0]),([],[]),([],[]),([3],[3]),([4],[4]),([2,5],[2,5]),([],[]),([],[]),([7,8,6],[7,8]),([1,6,0,1,2,3,4,5,6,7,8,9],[1,6]),([10,9,9,0,1,2,3,4,5,6,7,8,9],[9,10])])
def spec_l1Cur_anyTable.B6:List Nat:=[0,1,0,0,8,24,60,0,0,508,1023,2047]
theorem spec_l1Cur_anyTable.tab6:rtab .any (opsOf Try.f80 6)=spec_l1Cur_anyTable.T6:=by kernel_rfl
theorem spec_l1Cur_anyTable.bits6:waitsOk spec_l1Cur_anyTable.T6.2 spec_l1Cur_anyTable.B6=true:=by kernel_rfl
theorem spec_l1Cur_anyTable.calls (k:Nat) (g:Nat) (s0_0:List Int) (s0_1:Int) (s0_2:Int) (r1:Int) (r2:List Int) (r3:Int) (r4:Int) (w0 w:World) (hI:IsS86 w0 w g s0_0 s0_1 s0_2) (hB:Below w0.heap.size w0 w) (h:spec_l1Cur_anyTable.f k s0_0 s0_1 s0_2=some (r1,r2,r3,r4)) :
  Calls Try.prog 80 #[.pointer (some ⟨g,0,none⟩)] w fun e w' => ∃ v1_:Value,e = .returned (.agg #[.int .i64 r1,v1_])∧Kd.Q (Kd.int .i64) 3 w' w.heap.size (fun _=>True) v1_ r2∧IsS86 w0 w' g s0_0 r3 r4∧Below w0.heap.size w0 w'∧KeepBut w w' g none:=by
 have hu41:=Try.underlying41
 have HI0:=aM hI
 have HK:=aM (KeepBut.refl w g none)
 have HL:=aM hB.size
 clear hI
 have HW0:=aM hB.size
 have HB:=aM hB
 clear hB
 have H:((spec_l1Cur_table.f k s0_0 s0_1 s0_2).bind fun bt280=>((spec_l1Cur_pick.f s0_0 bt280.2.2.1 bt280.2.2.2 30).bind fun bt287=>(if bt287.1=0 then ((spec_l1Cur_among.f s0_0 bt287.2.1 bt287.2.2 (([(-1),wrap64 (bt280.1+1)]:List Int))).bind fun bt293=>(some (bt293.1,bt280.2.1,bt293.2.1,bt293.2.2))) else (if bt287.1=1 then ((spec_l1Cur_pick.f s0_0 bt287.2.1 bt287.2.2 (bt280.2.1.length:Int)).bind fun bt296=>((spec_l1Cur_among.f s0_0 bt296.2.1 bt296.2.2 (([(-1),2]:List Int))).bind fun bt302=>(if 0≤bt296.1 then (if bt296.1<(bt280.2.1.length:Int) then (some (bt280.1,(bt280.2.1.set (bt296.1:Int).toNat bt302.1),bt302.2.1,bt302.2.2)) else (none)) else (none)))) else (if bt287.1=2 then (if 1≤(bt280.2.1.length:Int) then (some (bt280.1,(bt280.2.1.drop (1:Int).toNat),bt287.2.1,bt287.2.2)) else (none)) else (if bt287.1=3 then (if 32≤35184372088832 then (some (5,(List.replicate 32 0),bt287.2.1,bt287.2.2)) else (none)) else (some (bt280.1,bt280.2.1,bt287.2.1,bt287.2.2))))))))=some (r1,r2,r3,r4):=h
 clear h
 replace H:=oB.mp H
 obtain ⟨⟨t280,t281,t284,t285⟩,A20,H⟩:=H
 replace H:((spec_l1Cur_pick.f s0_0 t284 t285 30).bind fun bt287=>(if bt287.1=0 then ((spec_l1Cur_among.f s0_0 bt287.2.1 bt287.2.2 (([(-1),wrap64 (t280+1)]:List Int))).bind fun bt293=>(some (bt293.1,t281,bt293.2.1,bt293.2.2))) else (if bt287.1=1 then ((spec_l1Cur_pick.f s0_0 bt287.2.1 bt287.2.2 (t281.length:Int)).bind fun bt296=>((spec_l1Cur_among.f s0_0 bt296.2.1 bt296.2.2 (([(-1),2]:List Int))).bind fun bt302=>(if 0≤bt296.1 then (if bt296.1<(t281.length:Int) then (some (t280,(t281.set (bt296.1:Int).toNat bt302.1),bt302.2.1,bt302.2.2)) else (none)) else (none)))) else (if bt287.1=2 then (if 1≤(t281.length:Int) then (some (t280,(t281.drop (1:Int).toNat),bt287.2.1,bt287.2.2)) else (none)) else (if bt287.1=3 then (if 32≤35184372088832 then (some (5,(List.replicate 32 0),bt287.2.1,bt287.2.2)) else (none)) else (some (t280,t281,bt287.2.1,bt287.2.2)))))))=some (r1,r2,r3,r4):=H
 have A2:=aM A20
 clear A20
 replace H:=oB.mp H
 obtain ⟨⟨t287,t288,t289⟩,A30,H⟩:=H
 replace H:(if t287=0 then ((spec_l1Cur_among.f s0_0 t288 t289 (([(-1),wrap64 (t280+1)]:List Int))).bind fun bt293=>(some (bt293.1,t281,bt293.2.1,bt293.2.2))) else (if t287=1 then ((spec_l1Cur_pick.f s0_0 t288 t289 (t281.length:Int)).bind fun bt296=>((spec_l1Cur_among.f s0_0 bt296.2.1 bt296.2.2 (([(-1),2]:List Int))).bind fun bt302=>(if 0≤bt296.1 then (if bt296.1<(t281.length:Int) then (some (t280,(t281.set (bt296.1:Int).toNat bt302.1),bt302.2.1,bt302.2.2)) else (none)) else (none)))) else (if t287=2 then (if 1≤(t281.length:Int) then (some (t280,(t281.drop (1:Int).toNat),t288,t289)) else (none)) else (if t287=3 then (if 32≤35184372088832 then (some (5,(List.replicate 32 0),t288,t289)) else (none)) else (some (t280,t281,t288,t289))))))=some (r1,r2,r3,r4):=H
 have A3:=aM A30
 clear A30
 by_cases c4:t287=0
 ·rw [if_pos c4] at H
  have c4b0:=beq_iff_eq.mpr c4;have c4b1:=bne_eq_false_iff_eq.mpr c4;clear c4;obtain ⟨y290,hy290⟩:∃ y_:List Int,y_=(([(-1),wrap64 (t280+1)]:List Int)):=⟨_,rfl⟩;replace H:((spec_l1Cur_among.f s0_0 t288 t289 y290).bind fun bt293=>(some (bt293.1,t281,bt293.2.1,bt293.2.2)))=some (r1,r2,r3,r4):=q3y_ hy290 H
  have Ny290:=aM hy290;clear hy290;replace H:=oB.mp H;obtain ⟨⟨t293,t294,t295⟩,A50,H⟩:=H;replace H:(some (t293,t281,t294,t295))=some (r1,r2,r3,r4):=H;have A5:=aM A50;clear A50
  simp only [Option.some.injEq,Prod.mk.injEq] at H
  obtain ⟨rfl,rfl,rfl,rfl⟩:=H
  go_enter Try.func80,Try.ntmps80
  go_wp2_with (first | ((with_reducible refine gate_dst (N:=2) rfl ?_);refine box_event ?hg (N:=2) ?hd (cs:=#[.int .i64 0,.slice none 0 0]) (t:=41) ?hr ?_;(case hd=>rfl);(case hg=>rfl);(case hr=>exact za_);intro gb279 hg w6 hbox hb;have n_:=z (IsS86.below zba_ hb)<|z (KeepBut.trans zbb_ (KeepBut.of_below hb g none) (.inl rfl))<|z (below_step zca_ hb)<|z (hbox)<|z ((by rw [hg];exact (keep_size (w:=w) (g:=g) (row:=none) zbb_):w.heap.size≤gb279))<|z ((Nat.le_trans HW0.out (by rw [hg];exact (keep_size (w:=w) (g:=g) (row:=none) zbb_):w.heap.size≤gb279):w0.heap.size≤gb279))<|z ((by rw [hg];exact Nat.ne_of_lt (IsS86.lt (show IsS86 w0 _ g s0_0 s0_1 s0_2 from zba_)):g≠gb279))<|z1 ((by rw [hg];exact Nat.ne_of_gt (IsS86.lt (show IsS86 w0 _ g s0_0 s0_1 s0_2 from zba_)):gb279≠g));clear HI0 HK HB;obtain ⟨HI0,HK,HB,BK279,GW279,GE279,NB0_279,NB279_0⟩:=n_;clear hb hbox hg)|((with_reducible refine gate_callee (f:=111) rfl ?_);refine goesL_ (some 5) rfl rfl Try.func111 (by kernel_rfl) rfl #[.pointer (some ⟨g,0,none⟩)] rfl zf_ ?_;(with_reducible refine (spec_l1Cur_table.calls k g s0_0 s0_1 s0_2 t280 t281 t284 t285 w0 _ ?side1 ?side2 A2.out).mono ?_);(case side1=>exact zcb_);(case side2=>exact zdg_);rintro e w7 ⟨v282,rfl,ho0,hi,hb,hk⟩;refine ⟨_,rfl,?_⟩;have n_:=z (KeepBut.blk hk (zb BK279.out) NB279_0.out (by simp))<|z (Kd.R_lower ho0 (keep_size (w:=w) (g:=g) (row:=none) zbg_))<|z (KeepBut.trans zbg_ hk (.inl rfl))<|z (hb)<|z1 (hi);clear BK279 HK HB HI0;obtain ⟨BK279,HO283,HK,HB,HI0⟩:=n_;clear hb hk hi;(try clear ho0))|((with_reducible refine gate_dst (N:=3) rfl ?_);refine box_event ?hg (N:=3) ?hd (cs:=#[.int .i64 0,.slice none 0 0]) (t:=41) ?hr ?_;(case hd=>rfl);(case hg=>rfl);(case hr=>exact za_);intro gb286 hg w8 hbox hb;have n_:=z (Kd.R_below (zr HO283.out) hb)<|z (IsS86.below zcb_ hb)<|z (blk_below (zb BK279.out) hb)<|z (KeepBut.trans zbg_ (KeepBut.of_below hb g none) (.inl rfl))<|z (below_step zdg_ hb)<|z (hbox)<|z ((by rw [hg];exact (keep_size (w:=w) (g:=g) (row:=none) zbg_):w.heap.size≤gb286))<|z ((Nat.le_trans HW0.out (by rw [hg];exact (keep_size (w:=w) (g:=g) (row:=none) zbg_):w.heap.size≤gb286):w0.heap.size≤gb286))<|z ((by rw [hg];exact Nat.ne_of_lt (blk_lt (zb BK279.out)):gb279≠gb286))<|z ((by rw [hg];exact Nat.ne_of_gt (blk_lt (zb BK279.out)):gb286≠gb279))<|z ((by rw [hg];exact Nat.ne_of_lt (IsS86.lt (show IsS86 w0 _ g s0_0 t284 t285 from zcb_)):g≠gb286))<|z1 ((by rw [hg];exact Nat.ne_of_gt (IsS86.lt (show IsS86 w0 _ g s0_0 t284 t285 from zcb_)):gb286≠g));clear HO283 HI0 BK279 HK HB;obtain ⟨HO283,HI0,BK279,HK,HB,BK286,GW286,GE286,NB279_286,NB286_279,NB0_286,NB286_0⟩:=n_;clear hb hbox hg;have hnb9:=NB286_279.out;have hnc9:=NB279_286.out;have hnb10:=NB286_0.out;have hnc10:=NB0_286.out;obtain ⟨hcz11_0,hcz11_1,hfz11_0,hfz11_1⟩:=zk2 BK286.out;obtain ⟨Ao12,co12,eo12⟩:=Kd.R_slice HO283.out;subst eo12)|((with_reducible refine gate_callee (f:=68) rfl ?_);refine goesL_ (some 7) rfl rfl Try.func68 (by kernel_rfl) rfl #[.pointer (some ⟨g,0,none⟩),.int .i64 30] rfl zf_ ?_;(with_reducible refine (spec_l1Cur_pick.calls g s0_0 t284 t285 30 t287 t288 t289 w0 _ ?side1 ?side2 A3.out).mono ?_);(case side1=>exact zbd_);(case side2=>exact zcc_);rintro e w13 ⟨rfl,hi,hb,hk⟩;refine ⟨_,rfl,?_⟩;have n_:=z (KeepBut.blk hk (g':=gb279) (o := .cells #[.int .i64 0,.slice none 0 0] 41 (0,0)) zia_ NB279_0.out (by simp))<|z (Kd.R_mono (Kd.R_keep (IsS86.apart (show IsS86 w0 _ g s0_0 t284 t285 from zbd_) (by refine zr ?_;exact (Kd.R_mono (Kd.R_far (p:=⟨gb286,1,none⟩) (Kd.R_far (p:=⟨gb286,0,none⟩) (Kd.R_types HO283.out BK286.out (by decide)) (fun _ hk=>hk.2) (.int .i64 t280)) (fun _ hk=>hk.2) (.slice Ao12 t281.length co12)) (fun _ h_=>h_.1))) (by decide)) hk (fun _ h=>h.2)) (fun _ h=>h.1))<|z (KeepBut.blk hk (g':=gb286) (o := .cells #[.int .i64 t280,.slice Ao12 t281.length co12] 41 (0,0)) zib_ NB286_0.out (by simp))<|z (KeepBut.trans zbi_ hk (.inl rfl))<|z (hb)<|z1 (hi);clear BK279 HO283 BK286 HK HB HI0;obtain ⟨BK279,HO283,BK286,HK,HB,HI0⟩:=n_;clear hb hk hi;obtain ⟨hcz14_0,hcz14_1,hfz14_0,hfz14_1⟩:=zk2 BK286.out)|((with_reducible refine gate_dst (N:=14) rfl ?_);refine Kd.R_lit (Kd.int .i64) _ 3 ?hg (N:=14) ?hd (xs:=([(-1),wrap64 (t280+1)]:List Int)) (inner:=[.int .i64 (-1),.int .i64 (wrap64 (t280+1))]) (ok:=fun _=>True) (okp:=fun _=>True) ?hr ?hp (fun _ hk=>hk) trivial (Below.refl _ _) (Nat.le_refl _) (by simp) ?_;(case hd=>rfl);(case hg=>rfl);(case hr=>exact za_);(case hp=>exact (Reps.one (show Kd.M (Kd.int .i64) _ _ _ (-1) [.int .i64 (-1)] from rfl) (Reps.one (show Kd.M (Kd.int .i64) _ _ _ (wrap64 (t280+1)) [.int .i64 (wrap64 (t280+1))] from rfl) (Reps.none _ _))));intro v291 w15 ho16 hb hg_ hnew_;clear hg_ hnew_;(first | rw [← Ny290.out] at ho16 | (simp only [Int.reduceToNat] at ho16;rw [← Ny290.out] at ho16));have n_:=z (Kd.R_elder' (zr HO283.out) (Kd.R_base ho16) hb)<|z (Kd.R_lower (Kd.R_new' ho16 (Kd.R_lt (zr HO283.out))) (keep_size (w:=w) (g:=g) (row:=none) zbi_))<|z (IsS86.below zbd_ hb)<|z (blk_below (zb BK279.out) hb)<|z (blk_below (zb BK286.out) hb)<|z (KeepBut.trans zbi_ (KeepBut.of_below hb g none) (.inl rfl))<|z1 (below_step zcc_ hb);clear HO283 HI0 BK279 BK286 HK HB;obtain ⟨HO283,HO292,HI0,BK279,BK286,HK,HB⟩:=n_;clear hb ho16;obtain ⟨Ao17,co17,eo17⟩:=Kd.R_slice HO292.out;subst eo17)|((with_reducible refine gate_callee (f:=66) rfl ?_);refine goesL_ (some 15) rfl rfl Try.func66 (by kernel_rfl) rfl #[.pointer (some ⟨g,0,none⟩),.slice Ao17 y290.length co17] rfl zf_ ?_;(with_reducible refine (spec_l1Cur_among.calls g s0_0 t288 t289 _ _ y290 t293 t294 t295 w0 _ ?side1 ?side2 ?side3 ?side4 ?side5 A5.out).mono ?_);(case side1=>exact zbd_);(case side2=>exact zcc_);(case side3=>repeat (first | exact (Kd.R_reads' HO292.out).2.2 | (with_reducible refine cA ?_ _)|(with_reducible refine cN ?_ _)|(with_reducible refine cD ?_)));(case side4=>exact (Kd.R_reads' HO292.out).2.1);(case side5=>exact far_slice (IsS86.own_ne HI0.out HO292.out (by decide)));rintro e w18 ⟨rfl,hi,hb,hk⟩;refine ⟨_,rfl,?_⟩;have n_:=z (KeepBut.blk hk (zb BK279.out) NB279_0.out (by simp))<|z (Kd.R_mono (Kd.R_keep (IsS86.apart (show IsS86 w0 _ g s0_0 t288 t289 from zbd_) (zr HO283.out) (by decide)) hk (fun _ h=>h.2)) (fun _ h=>h.1))<|z (KeepBut.blk hk (zb BK286.out) NB286_0.out (by simp))<|z (Kd.R_mono (Kd.R_keep (IsS86.apart (show IsS86 w0 _ g s0_0 t288 t289 from zbd_) (zr HO292.out) (by decide)) hk (fun _ h=>h.2)) (fun _ h=>h.1))<|z (KeepBut.trans zbi_ hk (.inl rfl))<|z (hb)<|z1 (hi);clear BK279 HO283 BK286 HO292 HK HB HI0;obtain ⟨BK279,HO283,BK286,HO292,HK,HB,HI0⟩:=n_;clear hb hk hi;obtain ⟨hcz19_0,hcz19_1,hfz19_0,hfz19_1⟩:=zk2 BK286.out;have hnb20:=NB279_0.out;have hnc20:=NB0_279.out;obtain ⟨hcz21_0,hcz21_1,hfz21_0,hfz21_1⟩:=zk2 BK279.out))
  refine bodyPost_ret (results_cell_row rfl _ _ gb279 41 #[.int .i64 t293,.slice Ao12 t281.length co12] (0,0) _ rfl (by refine zb ?_;refine blk_put (cs:=#[.int .i64 t293,.slice none 0 0]) ?_ 1 _ rfl;refine zb ?_;refine blk_put (cs:=#[.int .i64 0,.slice none 0 0]) ?_ 0 _ rfl;refine zb ?_;refine blk_far ?_ NB279_286.out _;refine zb ?_;exact BK279.out) Try.underlying41 rfl (by kernel_rfl)) rfl ?_
  exact ⟨_,zg_,Kd.Q_of_R (by refine zr ?_;exact Kd.R_mono (Kd.R_far (p:=⟨gb279,1,none⟩) (Kd.R_far (p:=⟨gb279,0,none⟩) (Kd.R_far (p:=⟨gb286,0,none⟩) (Kd.R_types (Kd.R_types HO283.out BK286.out (by decide)) BK279.out (by decide)) (fun _ hk=>hk.1.2) (.int .i64 t293)) (fun _ hk=>hk.2) (.int .i64 t293)) (fun _ hk=>hk.2) (.slice Ao12 t281.length co12)) (fun _ hk=>trivial)),zbd_,zcc_,zbi_⟩
 ·rw [if_neg c4] at H
  have c4b0:=beq_eq_false_iff_ne.mpr c4;have c4b1:=bne_iff_ne.mpr c4
  by_cases c22:t287=1
  ·rw [if_pos c22] at H
   have c22b0:=beq_iff_eq.mpr c22;have c22b1:=bne_eq_false_iff_eq.mpr c22;clear c22;replace H:=oB.mp H;obtain ⟨⟨t296,t297,t298⟩,A230,H⟩:=H;replace H:((spec_l1Cur_among.f s0_0 t297 t298 (([(-1),2]:List Int))).bind fun bt302=>(if 0≤t296 then (if t296<(t281.length:Int) then (some (t280,(t281.set (t296:Int).toNat bt302.1),bt302.2.1,bt302.2.2)) else (none)) else (none)))=some (r1,r2,r3,r4):=H;have A23:=aM A230;clear A230;obtain ⟨y299,hy299⟩:∃ y_:List Int,y_=(([(-1),2]:List Int)):=⟨_,rfl⟩;replace H:((spec_l1Cur_among.f s0_0 t297 t298 y299).bind fun bt302=>(if 0≤t296 then (if t296<(t281.length:Int) then (some (t280,(t281.set (t296:Int).toNat bt302.1),bt302.2.1,bt302.2.2)) else (none)) else (none)))=some (r1,r2,r3,r4):=q3y_ hy299 H
   have Ny299:=aM hy299;clear hy299;replace H:=oB.mp H;obtain ⟨⟨t302,t303,t304⟩,A240,H⟩:=H;replace H:(if 0≤t296 then (if t296<(t281.length:Int) then (some (t280,(t281.set (t296:Int).toNat t302),t303,t304)) else (none)) else (none))=some (r1,r2,r3,r4):=H;have A24:=aM A240;clear A240
   by_cases c25:0≤t296
   ·rw [if_pos c25] at H
    have c25b0:=decide_eq_true c25;clear c25
    by_cases c26:t296<(t281.length:Int)
    ·rw [if_pos c26] at H
     have c26b0:=decide_eq_true c26;clear c26;obtain ⟨y305,hy305⟩:∃ y_:List Int,y_=(t281.set (t296:Int).toNat t302):=⟨_,rfl⟩;replace H:(some (t280,y305,t303,t304))=some (r1,r2,r3,r4):=q3y_ hy305 H
     have Ny305:=aM hy305;clear hy305
     simp only [Option.some.injEq,Prod.mk.injEq] at H
     obtain ⟨rfl,rfl,rfl,rfl⟩:=H
     go_enter Try.func80,Try.ntmps80
     (try go_wp2_with (first | ((with_reducible refine gate_dst (N:=2) rfl ?_);refine box_event ?hg (N:=2) ?hd (cs:=#[.int .i64 0,.slice none 0 0]) (t:=41) ?hr ?_;(case hd=>rfl);(case hg=>rfl);(case hr=>exact za_);intro gb279 hg w28 hbox hb;have n_:=z (IsS86.below zba_ hb)<|z (KeepBut.trans zbb_ (KeepBut.of_below hb g none) (.inl rfl))<|z (below_step zca_ hb)<|z (hbox)<|z ((by rw [hg];exact (keep_size (w:=w) (g:=g) (row:=none) zbb_):w.heap.size≤gb279))<|z ((Nat.le_trans HW0.out (by rw [hg];exact (keep_size (w:=w) (g:=g) (row:=none) zbb_):w.heap.size≤gb279):w0.heap.size≤gb279))<|z ((by rw [hg];exact Nat.ne_of_lt (IsS86.lt (show IsS86 w0 _ g s0_0 s0_1 s0_2 from zba_)):g≠gb279))<|z1 ((by rw [hg];exact Nat.ne_of_gt (IsS86.lt (show IsS86 w0 _ g s0_0 s0_1 s0_2 from zba_)):gb279≠g));clear HI0 HK HB;obtain ⟨HI0,HK,HB,BK279,GW279,GE279,NB0_279,NB279_0⟩:=n_;clear hb hbox hg)|((with_reducible refine gate_callee (f:=111) rfl ?_);refine goesL_ (some 5) rfl rfl Try.func111 (by kernel_rfl) rfl #[.pointer (some ⟨g,0,none⟩)] rfl zf_ ?_;(with_reducible refine (spec_l1Cur_table.calls k g s0_0 s0_1 s0_2 t280 t281 t284 t285 w0 _ ?side1 ?side2 A2.out).mono ?_);(case side1=>exact zcb_);(case side2=>exact zdg_);rintro e w29 ⟨v282,rfl,ho0,hi,hb,hk⟩;refine ⟨_,rfl,?_⟩;have n_:=z (KeepBut.blk hk (zb BK279.out) NB279_0.out (by simp))<|z (Kd.R_lower ho0 (keep_size (w:=w) (g:=g) (row:=none) zbg_))<|z (KeepBut.trans zbg_ hk (.inl rfl))<|z (hb)<|z1 (hi);clear BK279 HK HB HI0;obtain ⟨BK279,HO283,HK,HB,HI0⟩:=n_;clear hb hk hi;(try clear ho0))|((with_reducible refine gate_dst (N:=3) rfl ?_);refine box_event ?hg (N:=3) ?hd (cs:=#[.int .i64 0,.slice none 0 0]) (t:=41) ?hr ?_;(case hd=>rfl);(case hg=>rfl);(case hr=>exact za_);intro gb286 hg w30 hbox hb;have n_:=z (Kd.R_below (zr HO283.out) hb)<|z (IsS86.below zcb_ hb)<|z (blk_below (zb BK279.out) hb)<|z (KeepBut.trans zbg_ (KeepBut.of_below hb g none) (.inl rfl))<|z (below_step zdg_ hb)<|z (hbox)<|z ((by rw [hg];exact (keep_size (w:=w) (g:=g) (row:=none) zbg_):w.heap.size≤gb286))<|z ((Nat.le_trans HW0.out (by rw [hg];exact (keep_size (w:=w) (g:=g) (row:=none) zbg_):w.heap.size≤gb286):w0.heap.size≤gb286))<|z ((by rw [hg];exact Nat.ne_of_lt (blk_lt (zb BK279.out)):gb279≠gb286))<|z ((by rw [hg];exact Nat.ne_of_gt (blk_lt (zb BK279.out)):gb286≠gb279))<|z ((by rw [hg];exact Nat.ne_of_lt (IsS86.lt (show IsS86 w0 _ g s0_0 t284 t285 from zcb_)):g≠gb286))<|z1 ((by rw [hg];exact Nat.ne_of_gt (IsS86.lt (show IsS86 w0 _ g s0_0 t284 t285 from zcb_)):gb286≠g));clear HO283 HI0 BK279 HK HB;obtain ⟨HO283,HI0,BK279,HK,HB,BK286,GW286,GE286,NB279_286,NB286_279,NB0_286,NB286_0⟩:=n_;clear hb hbox hg;have hnb31:=NB286_279.out;have hnc31:=NB279_286.out;have hnb32:=NB286_0.out;have hnc32:=NB0_286.out;obtain ⟨hcz33_0,hcz33_1,hfz33_0,hfz33_1⟩:=zk2 BK286.out;obtain ⟨Ao34,co34,eo34⟩:=Kd.R_slice HO283.out;subst eo34)|((with_reducible refine gate_callee (f:=68) rfl ?_);refine goesL_ (some 7) rfl rfl Try.func68 (by kernel_rfl) rfl #[.pointer (some ⟨g,0,none⟩),.int .i64 30] rfl zf_ ?_;(with_reducible refine (spec_l1Cur_pick.calls g s0_0 t284 t285 30 t287 t288 t289 w0 _ ?side1 ?side2 A3.out).mono ?_);(case side1=>exact zbd_);(case side2=>exact zcc_);rintro e w35 ⟨rfl,hi,hb,hk⟩;refine ⟨_,rfl,?_⟩;have n_:=z (KeepBut.blk hk (g':=gb279) (o := .cells #[.int .i64 0,.slice none 0 0] 41 (0,0)) zia_ NB279_0.out (by simp))<|z (Kd.R_mono (Kd.R_keep (IsS86.apart (show IsS86 w0 _ g s0_0 t284 t285 from zbd_) (by refine zr ?_;exact (Kd.R_mono (Kd.R_far (p:=⟨gb286,1,none⟩) (Kd.R_far (p:=⟨gb286,0,none⟩) (Kd.R_types HO283.out BK286.out (by decide)) (fun _ hk=>hk.2) (.int .i64 t280)) (fun _ hk=>hk.2) (.slice Ao34 t281.length co34)) (fun _ h_=>h_.1))) (by decide)) hk (fun _ h=>h.2)) (fun _ h=>h.1))<|z (KeepBut.blk hk (g':=gb286) (o := .cells #[.int .i64 t280,.slice Ao34 t281.length co34] 41 (0,0)) zib_ NB286_0.out (by simp))<|z (KeepBut.trans zbi_ hk (.inl rfl))<|z (hb)<|z1 (hi);clear BK279 HO283 BK286 HK HB HI0;obtain ⟨BK279,HO283,BK286,HK,HB,HI0⟩:=n_;clear hb hk hi)));have n_:=z (kD HO283.out)<|z (blk_drew BK279.out)<|z (blk_drew BK286.out)<|z (IsS86.drew HI0.out)<|z (keep_drew HK.out)<|z1 (p1 HB.out)
     clear HO283 BK279 BK286 HI0 HK HB;obtain ⟨HO283,BK279,BK286,HI0,HK,HB⟩:=n_
     refine start_ (n:=12) (S:=fun w'=>w'.cell? ⟨gb286,0,none⟩=some (.int .i64 t280)∧w'.cell? ⟨gb286,1,none⟩=some (.slice Ao34 t281.length co34)) (ds:=[11]) #[fi,fi,fi,fi,fi,fi,fi,fi,fi,fi,fi,fi] (by kernel_rfl) rfl rfl ⟨(blk_cell BK286.out 0).trans rfl,(blk_cell BK286.out 1).trans rfl⟩ (fun hHeld=>?_);refine with_tabW spec_l1Cur_anyTable.tab6 spec_l1Cur_anyTable.bits6 (fun HT_ HW_=>?_)
     generalize w35.drew=w36 at HO283 BK279 BK286 HI0 HK HB hHeld ⊢;refine py_ 0 19 HT_.out ?_;refine py_ 2 21 HT_.out ?_;refine py_ 3 22 HT_.out ?_;refine py_ 7 26 HT_.out ?_
     refine tw2_ 1 20 HT_.out HW_.out hHeld ?_
     refine tw2_ 4 23 HT_.out HW_.out hHeld ?_
     refine py_ 5 24 HT_.out ?_
     refine join_ (σ:=Value) 3 #[ti,ti,ti,ti,ti,ti,ti,ti,ti,fi,fi,fi] (fun s_ => [(25,.int .i64 t296),(27,s_)]) (fun s_ w'=>(w'.cell? ⟨gb286,0,none⟩=some (.int .i64 t280)∧w'.cell? ⟨gb286,1,none⟩=some (.slice Ao34 t281.length co34))∧(Kd.R (Kd.int .i64) 3 w' w.heap.size (fun k_=>some k_≠(s_:Value).ownBlock) (.slice Ao34 t281.length co34) t281)∧(Kd.R (Kd.int .i64) 3 w' w.heap.size (fun k_=>some k_≠(.slice Ao34 t281.length co34:Value).ownBlock) s_ y299)∧(w'.heap[gb279]?=some (.cells #[.int .i64 0,.slice none 0 0] 41 (0,0)))∧(w'.heap[gb286]?=some (.cells #[.int .i64 t280,.slice Ao34 t281.length co34] 41 (0,0)))∧(IsS86 w0 w' g s0_0 t297 t298)∧(KeepBut w w' g none)∧(Below w0.heap.size w0 w')) ?_ ?_
     rotate_left
     ·intro hCont
      refine two_ (i:=6) (j:=8) (Ni:=some 25) (Nj:=some 27) #[ti,ti,ti,ti,ti,ti,ti,ti,fi,fi,fi,fi] #[ti,ti,ti,ti,ti,ti,fi,ti,ti,fi,fi,fi] rfl rfl rfl rfl (two_of HT_.out (by kernel_rfl)) (by decide) (by decide) (fun K hK=>?_) (fun K hK=>?_)
      ·skip
       refine goes_ Try.func68 (by kernel_rfl) rfl #[.pointer (some ⟨g,0,none⟩),.int .i64 (t281.length:Int)] (by rfl) rfl rfl zf_ ?_
       with_reducible refine (spec_l1Cur_pick.calls g s0_0 t288 t289 (t281.length:Int) t296 t297 t298 w0 _ ?side1 ?side2 A23.out).mono ?_
       (case side1=>exact zbd_)
       (case side2=>exact zcc_)
       rintro e w37 ⟨rfl,hi,hb,hk⟩
       refine ⟨_,rfl,?_⟩
       have n_:=z (KeepBut.blk hk (zb BK279.out) NB279_0.out (by simp))<|z (Kd.R_mono (Kd.R_keep (IsS86.apart (show IsS86 w0 _ g s0_0 t288 t289 from zbd_) (zr HO283.out) (by decide)) hk (fun _ h=>h.2)) (fun _ h=>h.1))<|z (KeepBut.blk hk (zb BK286.out) NB286_0.out (by simp))<|z (KeepBut.trans zbi_ hk (.inl rfl))<|z (hb)<|z1 (hi)
       clear BK279 HO283 BK286 HK HB HI0;obtain ⟨BK279,HO283,BK286,HK,HB,HI0⟩:=n_;(try clear hb);(try clear hb2);(try clear hk);(try clear hi)
       refine hK.out _ _ ⟨(blk_cell BK286.out 0).trans rfl,(blk_cell BK286.out 1).trans rfl⟩ (fun hHeld=>?_)
       clear hK K
       refine nz_ 25 ?_
       refine one_ (i:=8) (N:=some 27) #[ti,ti,ti,ti,ti,ti,ti,ti,ti,fi,fi,fi] rfl rfl (one_of HT_.out (by kernel_rfl)) (by decide) (fun K hK=>?_)
       refine Kd.R_lit_step (Kd.int .i64) _ 3 ?hg (N:=27) ?hd (xs:=([(-1),2]:List Int)) (inner:=[.int .i64 (-1),.int .i64 2]) (ok:=fun _=>True) (okp:=fun _=>True) ?hr ?hp (fun _ hk=>hk) trivial (Below.refl _ _) (Nat.le_refl _) (by simp) ?_;(case hd=>rfl);(case hg=>rfl);(case hr=>exact za_);(case hp=>exact (Reps.one (show Kd.M (Kd.int .i64) _ _ _ (-1) [.int .i64 (-1)] from rfl) (Reps.one (show Kd.M (Kd.int .i64) _ _ _ 2 [.int .i64 2] from rfl) (Reps.none _ _))))
       intro v300 w38 ho39 hb hg_ hnew_
       clear hg_ hnew_;(first | rw [← Ny299.out] at ho39 | (simp only [Int.reduceToNat] at ho39;rw [← Ny299.out] at ho39));have n_:=z (Kd.R_elder' (zr HO283.out) (Kd.R_base ho39) hb)<|z (Kd.R_lower (Kd.R_new' ho39 (Kd.R_lt (zr HO283.out))) (keep_size (w:=w) (g:=g) (row:=none) zbi_))<|z (IsS86.below zbd_ hb)<|z (blk_below (zb BK279.out) hb)<|z (blk_below (zb BK286.out) hb)<|z (KeepBut.trans zbi_ (KeepBut.of_below hb g none) (.inl rfl))<|z1 (below_step zcc_ hb)
       clear HO283 HI0 BK279 BK286 HK HB;obtain ⟨HO283,HO301,HI0,BK279,BK286,HK,HB⟩:=n_;clear hb ho39
       refine hK.out _ _ ⟨(blk_cell BK286.out 0).trans rfl,(blk_cell BK286.out 1).trans rfl⟩ (fun hHeld=>?_)
       clear hK K
       refine nz_ 27 ?_
       exact norm_ (by simp only [putAll,Act.put,sI,s0,sS]) (hCont (v300) _ ⟨hHeld,(by refine zr ?_;exact Kd.R_mono HO283.out (fun _ hk=>hk.2)),(by refine zr ?_;exact Kd.R_mono HO301.out (fun _ hk=>hk.2)),(zb BK279.out),(zb BK286.out),zbd_,zbi_,zcc_⟩)
      ·skip
       refine Kd.R_lit_step (Kd.int .i64) _ 3 ?hg (N:=27) ?hd (xs:=([(-1),2]:List Int)) (inner:=[.int .i64 (-1),.int .i64 2]) (ok:=fun _=>True) (okp:=fun _=>True) ?hr ?hp (fun _ hk=>hk) trivial (Below.refl _ _) (Nat.le_refl _) (by simp) ?_;(case hd=>rfl);(case hg=>rfl);(case hr=>exact za_);(case hp=>exact (Reps.one (show Kd.M (Kd.int .i64) _ _ _ (-1) [.int .i64 (-1)] from rfl) (Reps.one (show Kd.M (Kd.int .i64) _ _ _ 2 [.int .i64 2] from rfl) (Reps.none _ _))))
       intro v300 w37 ho38 hb hg_ hnew_
       clear hg_ hnew_;(first | rw [← Ny299.out] at ho38 | (simp only [Int.reduceToNat] at ho38;rw [← Ny299.out] at ho38));have n_:=z (Kd.R_elder' (zr HO283.out) (Kd.R_base ho38) hb)<|z (Kd.R_lower (Kd.R_new' ho38 (Kd.R_lt (zr HO283.out))) (keep_size (w:=w) (g:=g) (row:=none) zbi_))<|z (IsS86.below zbd_ hb)<|z (blk_below (zb BK279.out) hb)<|z (blk_below (zb BK286.out) hb)<|z (KeepBut.trans zbi_ (KeepBut.of_below hb g none) (.inl rfl))<|z1 (below_step zcc_ hb)
       clear HO283 HI0 BK279 BK286 HK HB;obtain ⟨HO283,HO301,HI0,BK279,BK286,HK,HB⟩:=n_;clear hb ho38
       refine hK.out _ _ ⟨(blk_cell BK286.out 0).trans rfl,(blk_cell BK286.out 1).trans rfl⟩ (fun hHeld=>?_)
       clear hK K
       refine nz_ 27 ?_
       refine one_ (i:=6) (N:=some 25) #[ti,ti,ti,ti,ti,ti,ti,ti,ti,fi,fi,fi] rfl rfl (one_of HT_.out (by kernel_rfl)) (by decide) (fun K hK=>?_)
       refine goes_ Try.func68 (by kernel_rfl) rfl #[.pointer (some ⟨g,0,none⟩),.int .i64 (t281.length:Int)] (by rfl) rfl rfl zf_ ?_
       with_reducible refine (spec_l1Cur_pick.calls g s0_0 t288 t289 (t281.length:Int) t296 t297 t298 w0 _ ?side1 ?side2 A23.out).mono ?_
       (case side1=>exact zbd_)
       (case side2=>exact zcc_)
       rintro e w39 ⟨rfl,hi,hb,hk⟩
       refine ⟨_,rfl,?_⟩
       have n_:=z (KeepBut.blk hk (zb BK279.out) NB279_0.out (by simp))<|z (Kd.R_mono (Kd.R_keep (IsS86.apart (show IsS86 w0 _ g s0_0 t288 t289 from zbd_) (zr HO283.out) (by decide)) hk (fun _ h=>h.2)) (fun _ h=>h.1))<|z (KeepBut.blk hk (zb BK286.out) NB286_0.out (by simp))<|z (Kd.R_mono (Kd.R_keep (IsS86.apart (show IsS86 w0 _ g s0_0 t288 t289 from zbd_) (zr HO301.out) (by decide)) hk (fun _ h=>h.2)) (fun _ h=>h.1))<|z (KeepBut.trans zbi_ hk (.inl rfl))<|z (hb)<|z1 (hi)
       clear BK279 HO283 BK286 HO301 HK HB HI0;obtain ⟨BK279,HO283,BK286,HO301,HK,HB,HI0⟩:=n_;(try clear hb);(try clear hb2);(try clear hk);(try clear hi)
       refine hK.out _ _ ⟨(blk_cell BK286.out 0).trans rfl,(blk_cell BK286.out 1).trans rfl⟩ (fun hHeld=>?_)
       clear hK K
       refine nz_ 25 ?_
       exact norm_ (by simp only [putAll,Act.put,sI,s0,sS]) (hCont (v300) _ ⟨hHeld,(by refine zr ?_;exact Kd.R_mono HO283.out (fun _ hk=>hk.2)),(by refine zr ?_;exact Kd.R_mono HO301.out (fun _ hk=>hk.2)),(zb BK279.out),(zb BK286.out),zbd_,zbi_,zcc_⟩)
     rintro v300 w40 ⟨hS_,h0_,h1_,h2_,h3_,h4_,h5_,h6_⟩
     have n0_:Aside0 (Kd.R (Kd.int .i64) 3 w40 w.heap.size (fun k_=>some k_≠(v300:Value).ownBlock) (.slice Ao34 t281.length co34) t281):=⟨h0_⟩;have n1_:Aside0 (Kd.R (Kd.int .i64) 3 w40 w.heap.size (fun k_=>some k_≠(.slice Ao34 t281.length co34:Value).ownBlock) v300 y299):=⟨h1_⟩;have n2_:Aside0 (w40.heap[gb279]?=some (.cells #[.int .i64 0,.slice none 0 0] 41 (0,0))):=⟨h2_⟩;have n3_:Aside0 (w40.heap[gb286]?=some (.cells #[.int .i64 t280,.slice Ao34 t281.length co34] 41 (0,0))):=⟨h3_⟩;have n4_:Aside0 (IsS86 w0 w40 g s0_0 t297 t298):=⟨h4_⟩;have n5_:Aside0 (KeepBut w w40 g none):=⟨h5_⟩;have n6_:Aside0 (Below w0.heap.size w0 w40):=⟨h6_⟩;clear HO283 BK279 BK286 HI0 HK HB h0_ h1_ h2_ h3_ h4_ h5_ h6_;have HO283:=n0_;have HO301:=n1_;have BK279:=n2_;have BK286:=n3_;have HI0:=n4_;have HK:=n5_;have HB:=n6_;clear n0_ n1_ n2_ n3_ n4_ n5_ n6_;have hHeld:w40.cell? ⟨gb286,0,none⟩=some (.int .i64 t280)∧w40.cell? ⟨gb286,1,none⟩=some (.slice Ao34 t281.length co34):=hS_;obtain ⟨Ao41,co41,eo41⟩:=Kd.R_slice HO301.out;(first | subst eo41 | (injection eo41 with f1_ f2_ f3_;have f4_:=f1_.symm;have f5_:=f3_.symm;clear f1_ f2_ f3_;subst f4_;subst f5_))
     refine norm_ (a':=?_) ?_ ?_
     rotate_left
     ·simp only [putAll,Act.put,sI,s0,sS]
      rfl
     refine one_ (i:=9) (N:=some 28) #[ti,ti,ti,ti,ti,ti,ti,ti,ti,ti,fi,fi] rfl rfl (one_of HT_.out (by kernel_rfl)) (by decide) (fun K hK=>?_)
     refine goes_ Try.func66 (by kernel_rfl) rfl #[.pointer (some ⟨g,0,none⟩),.slice Ao41 y299.length co41] (by rfl) rfl rfl zf_ ?_
     with_reducible refine (spec_l1Cur_among.calls g s0_0 t297 t298 _ _ y299 t302 t303 t304 w0 _ ?side1 ?side2 ?side3 ?side4 ?side5 A24.out).mono ?_
     (case side1=>exact zbd_)
     (case side2=>exact zcc_)
     (case side3=>repeat (first | exact (Kd.R_reads' HO301.out).2.2 | (with_reducible refine cA ?_ _)|(with_reducible refine cN ?_ _)|(with_reducible refine cD ?_)))
     (case side4=>exact (Kd.R_reads' HO301.out).2.1)
     (case side5=>exact far_slice (IsS86.own_ne HI0.out HO301.out (by decide)))
     rintro e w42 ⟨rfl,hi,hb,hk⟩
     refine ⟨_,rfl,?_⟩
     have n_:=z (KeepBut.blk hk (zb BK279.out) NB279_0.out (by simp))<|z (Kd.R_mono (Kd.R_keep (IsS86.apart (show IsS86 w0 _ g s0_0 t297 t298 from zbd_) (zr HO283.out) (by decide)) hk (fun _ h=>h.2)) (fun _ h=>h.1))<|z (KeepBut.blk hk (zb BK286.out) NB286_0.out (by simp))<|z (Kd.R_mono (Kd.R_keep (IsS86.apart (show IsS86 w0 _ g s0_0 t297 t298 from zbd_) (zr HO301.out) (by decide)) hk (fun _ h=>h.2)) (fun _ h=>h.1))<|z (KeepBut.trans zbi_ hk (.inl rfl))<|z (hb)<|z1 (hi)
     clear BK279 HO283 BK286 HO301 HK HB HI0;obtain ⟨BK279,HO283,BK286,HO301,HK,HB,HI0⟩:=n_;(try clear hb);(try clear hb2);(try clear hk);(try clear hi);have p27:0≤(t296:Int):=of_decide_eq_true zc_;have q27:(t296:Int)<((t281.length:Int):Int):=of_decide_eq_true zc_;obtain ⟨go27,co27,eo27,gb27,gl27,cl27,HG27⟩:=Kd.R_form HO283.out (by omega);(first | cases eo27 | (injection eo27 with ea_ en_ ec_;(first | subst ea_ | (injection ea_ with ea_;subst ea_));subst ec_;clear en_));have GB27:=aM gb27;have GG27:=aM HG27;clear gb27 gl27 HG27;obtain ⟨hx27_0,hf27_0⟩:=Kd.R_celln 0 HO283.out (t296:Int) p27 q27;replace p27:=eq_true p27;replace q27:=eq_true q27;have HN0_go27:=aM (show g≠go27 from by have h_:=IsS86.own_ne HI0.out HO283.out (by decide);intro e_;exact h_ (by rw [e_];rfl));have HP43:=Kd.R_putn HO283.out (t296:Int) t302;rw [← Ny305.out] at HP43;have HQ43:=aM HP43;clear HP43
     refine hK.out _ _ ⟨(blk_cell BK286.out 0).trans rfl,(blk_cell BK286.out 1).trans rfl⟩ (fun hHeld=>?_)
     clear hK K
     refine nz_ 28 ?_
     refine py_ 10 29 HT_.out ?_
     refine last_ (i:=11) (N:=none) #[ti,ti,ti,ti,ti,ti,ti,ti,ti,ti,ti,ti] rfl rfl (one_of HT_.out (by kernel_rfl)) (by decide) (fun K hK=>?_)
     refine skip_ (w1:=?_) (by rfl) rfl ?_ ?_
     rotate_left
     ·go_simp
      rfl
     refine hK.out _ _ ?_
     clear hK K
     refine done_ (done_of HT_.out (by kernel_rfl)) ?_
     have n0_:Aside0 (Kd.R (Kd.int .i64) 3 (w42.setCell ⟨go27,(t296:Int).toNat,none⟩ (.int .i64 t302)) w.heap.size (fun k_=>some k_≠(.slice Ao41 y299.length co41:Value).ownBlock) (.slice (some ⟨go27,0,none⟩) t281.length co34) y305):=⟨zr HQ43.out⟩;have n1_:Aside0 (Kd.R (Kd.int .i64) 3 (w42.setCell ⟨go27,(t296:Int).toNat,none⟩ (.int .i64 t302)) w.heap.size (fun k_=>some k_≠(.slice (some ⟨go27,0,none⟩) t281.length co34:Value).ownBlock) (.slice Ao41 y299.length co41) y299):=⟨by refine zr ?_;exact Kd.R_mono (Kd.R_far (p:=⟨go27,(t296:Int).toNat,none⟩) (Kd.R_mono HO301.out (fun k_ hk=>(⟨hk,fun e_=>hk (by rw [e_];rfl)⟩:_∧k_≠go27))) (fun _ hk=>hk.2) (.int .i64 t302)) (fun _ hk=>hk.1)⟩;have n2_:Aside0 ((w42.setCell ⟨go27,(t296:Int).toNat,none⟩ (.int .i64 t302)).heap[gb279]?=some (.cells #[.int .i64 0,.slice none 0 0] 41 (0,0))):=⟨by refine zb ?_;refine blk_far ?_ (by have h_:=Kd.R_ne HO283.out BK279.out (by decide);intro e_;exact h_ (by rw [e_];rfl)) _;refine zb ?_;exact BK279.out⟩;have n3_:Aside0 ((w42.setCell ⟨go27,(t296:Int).toNat,none⟩ (.int .i64 t302)).heap[gb286]?=some (.cells #[.int .i64 t280,.slice (some ⟨go27,0,none⟩) t281.length co34] 41 (0,0))):=⟨by refine zb ?_;refine blk_far ?_ (by have h_:=Kd.R_ne HO283.out BK286.out (by decide);intro e_;exact h_ (by rw [e_];rfl)) _;refine zb ?_;exact BK286.out⟩;have n4_:Aside0 (IsS86 w0 (w42.setCell ⟨go27,(t296:Int).toNat,none⟩ (.int .i64 t302)) g s0_0 t303 t304):=⟨by repeat (first | (with_reducible first | exact HI0.out | apply IsS86.alloc | apply IsS86.drewN | apply IsS86.drew | apply IsS86.set_1 | apply IsS86.set_2 | refine IsS86.far ?_ HN0_go27.out _ | refine IsS86.far ?_ NB0_279.out _ | refine IsS86.far ?_ NB0_286.out _) | exact HI0.out)⟩;have n5_:Aside0 (KeepBut w (w42.setCell ⟨go27,(t296:Int).toNat,none⟩ (.int .i64 t302)) g none):=⟨by repeat (first | (with_reducible first | exact HK.out | apply KeepBut.set_ | apply keep_drewN | apply keep_drew | apply keep_alloc | refine keep_far ?_ GB27.out _ | refine keep_far ?_ GW279.out _ | refine keep_far ?_ GW286.out _) | exact HK.out)⟩;have n6_:Aside0 (Below w0.heap.size w0 (w42.setCell ⟨go27,(t296:Int).toNat,none⟩ (.int .i64 t302))):=⟨by repeat (first | (with_reducible first | exact HB.out | apply pA | apply pN | apply p1 | refine below_set ?_ (Nat.le_trans HL.out GB27.out) | refine below_set ?_ (IsS86.ge HI0.out) | refine below_set ?_ GE279.out | refine below_set ?_ GE286.out) | exact HB.out)⟩;(try clear HO283);(try clear HO301);(try clear BK279);(try clear BK286);(try clear HI0);(try clear HK);(try clear HB);generalize (w42.setCell ⟨go27,(t296:Int).toNat,none⟩ (.int .i64 t302))=w44 at n0_ n1_ n2_ n3_ n4_ n5_ n6_ ⊢;have HO283:=n0_;have HO301:=n1_;have BK279:=n2_;have BK286:=n3_;have HI0:=n4_;have HK:=n5_;have HB:=n6_;clear n0_ n1_ n2_ n3_ n4_ n5_ n6_;obtain ⟨hcz45_0,hcz45_1,hfz45_0,hfz45_1⟩:=zk2 BK286.out;have hnb46:=NB279_0.out;have hnc46:=NB0_279.out;obtain ⟨hcz47_0,hcz47_1,hfz47_0,hfz47_1⟩:=zk2 BK279.out;(try go_wp2)
     refine bodyPost_ret (results_cell_row rfl _ _ gb279 41 #[.int .i64 t280,.slice (some ⟨go27,0,none⟩) t281.length co34] (0,0) _ rfl (by refine zb ?_;refine blk_put (cs:=#[.int .i64 t280,.slice none 0 0]) ?_ 1 _ rfl;refine zb ?_;refine blk_put (cs:=#[.int .i64 0,.slice none 0 0]) ?_ 0 _ rfl;refine zb ?_;exact BK279.out) Try.underlying41 rfl (by kernel_rfl)) rfl ?_
     exact ⟨_,zg_,Kd.Q_of_R (by refine zr ?_;exact Kd.R_mono (Kd.R_far (p:=⟨gb279,1,none⟩) (Kd.R_far (p:=⟨gb279,0,none⟩) (Kd.R_types HO283.out BK279.out (by decide)) (fun _ hk=>hk.2) (.int .i64 t280)) (fun _ hk=>hk.2) (.slice (some ⟨go27,0,none⟩) t281.length co34)) (fun _ hk=>trivial)),zbd_,zcc_,zbi_⟩
    ·rw [if_neg c26] at H
     exact q3n_ H
   ·rw [if_neg c25] at H
    exact q3n_ H
  ·rw [if_neg c22] at H
   have c22b0:=beq_eq_false_iff_ne.mpr c22;have c22b1:=bne_iff_ne.mpr c22
   by_cases c48:t287=2
   ·rw [if_pos c48] at H
    have c48b0:=beq_iff_eq.mpr c48;have c48b1:=bne_eq_false_iff_eq.mpr c48;clear c48
    by_cases c49:1≤(t281.length:Int)
    ·rw [if_pos c49] at H
     have c49b0:=eq_true c49;have c49b1:=decide_eq_true c49;clear c49;obtain ⟨y306,hy306⟩:∃ y_:List Int,y_=(t281.drop (1:Int).toNat):=⟨_,rfl⟩;replace H:(some (t280,y306,t288,t289))=some (r1,r2,r3,r4):=q3y_ hy306 H
     have Ny306:=aM hy306;clear hy306
     simp only [Option.some.injEq,Prod.mk.injEq] at H
     obtain ⟨rfl,rfl,rfl,rfl⟩:=H
     go_enter Try.func80,Try.ntmps80
     go_wp2_with (first | ((with_reducible refine gate_dst (N:=2) rfl ?_);refine box_event ?hg (N:=2) ?hd (cs:=#[.int .i64 0,.slice none 0 0]) (t:=41) ?hr ?_;(case hd=>rfl);(case hg=>rfl);(case hr=>exact za_);intro gb279 hg w50 hbox hb;have n_:=z (IsS86.below zba_ hb)<|z (KeepBut.trans zbb_ (KeepBut.of_below hb g none) (.inl rfl))<|z (below_step zca_ hb)<|z (hbox)<|z ((by rw [hg];exact (keep_size (w:=w) (g:=g) (row:=none) zbb_):w.heap.size≤gb279))<|z ((Nat.le_trans HW0.out (by rw [hg];exact (keep_size (w:=w) (g:=g) (row:=none) zbb_):w.heap.size≤gb279):w0.heap.size≤gb279))<|z ((by rw [hg];exact Nat.ne_of_lt (IsS86.lt (show IsS86 w0 _ g s0_0 s0_1 s0_2 from zba_)):g≠gb279))<|z1 ((by rw [hg];exact Nat.ne_of_gt (IsS86.lt (show IsS86 w0 _ g s0_0 s0_1 s0_2 from zba_)):gb279≠g));clear HI0 HK HB;obtain ⟨HI0,HK,HB,BK279,GW279,GE279,NB0_279,NB279_0⟩:=n_;clear hb hbox hg)|((with_reducible refine gate_callee (f:=111) rfl ?_);refine goesL_ (some 5) rfl rfl Try.func111 (by kernel_rfl) rfl #[.pointer (some ⟨g,0,none⟩)] rfl zf_ ?_;(with_reducible refine (spec_l1Cur_table.calls k g s0_0 s0_1 s0_2 t280 t281 t284 t285 w0 _ ?side1 ?side2 A2.out).mono ?_);(case side1=>exact zcb_);(case side2=>exact zdg_);rintro e w51 ⟨v282,rfl,ho0,hi,hb,hk⟩;refine ⟨_,rfl,?_⟩;have n_:=z (KeepBut.blk hk (zb BK279.out) NB279_0.out (by simp))<|z (Kd.R_lower ho0 (keep_size (w:=w) (g:=g) (row:=none) zbg_))<|z (KeepBut.trans zbg_ hk (.inl rfl))<|z (hb)<|z1 (hi);clear BK279 HK HB HI0;obtain ⟨BK279,HO283,HK,HB,HI0⟩:=n_;clear hb hk hi;(try clear ho0))|((with_reducible refine gate_dst (N:=3) rfl ?_);refine box_event ?hg (N:=3) ?hd (cs:=#[.int .i64 0,.slice none 0 0]) (t:=41) ?hr ?_;(case hd=>rfl);(case hg=>rfl);(case hr=>exact za_);intro gb286 hg w52 hbox hb;have n_:=z (Kd.R_below (zr HO283.out) hb)<|z (IsS86.below zcb_ hb)<|z (blk_below (zb BK279.out) hb)<|z (KeepBut.trans zbg_ (KeepBut.of_below hb g none) (.inl rfl))<|z (below_step zdg_ hb)<|z (hbox)<|z ((by rw [hg];exact (keep_size (w:=w) (g:=g) (row:=none) zbg_):w.heap.size≤gb286))<|z ((Nat.le_trans HW0.out (by rw [hg];exact (keep_size (w:=w) (g:=g) (row:=none) zbg_):w.heap.size≤gb286):w0.heap.size≤gb286))<|z ((by rw [hg];exact Nat.ne_of_lt (blk_lt (zb BK279.out)):gb279≠gb286))<|z ((by rw [hg];exact Nat.ne_of_gt (blk_lt (zb BK279.out)):gb286≠gb279))<|z ((by rw [hg];exact Nat.ne_of_lt (IsS86.lt (show IsS86 w0 _ g s0_0 t284 t285 from zcb_)):g≠gb286))<|z1 ((by rw [hg];exact Nat.ne_of_gt (IsS86.lt (show IsS86 w0 _ g s0_0 t284 t285 from zcb_)):gb286≠g));clear HO283 HI0 BK279 HK HB;obtain ⟨HO283,HI0,BK279,HK,HB,BK286,GW286,GE286,NB279_286,NB286_279,NB0_286,NB286_0⟩:=n_;clear hb hbox hg;have hnb53:=NB286_279.out;have hnc53:=NB279_286.out;have hnb54:=NB286_0.out;have hnc54:=NB0_286.out;obtain ⟨hcz55_0,hcz55_1,hfz55_0,hfz55_1⟩:=zk2 BK286.out;obtain ⟨Ao56,co56,eo56⟩:=Kd.R_slice HO283.out;subst eo56)|((with_reducible refine gate_callee (f:=68) rfl ?_);refine goesL_ (some 7) rfl rfl Try.func68 (by kernel_rfl) rfl #[.pointer (some ⟨g,0,none⟩),.int .i64 30] rfl zf_ ?_;(with_reducible refine (spec_l1Cur_pick.calls g s0_0 t284 t285 30 t287 t288 t289 w0 _ ?side1 ?side2 A3.out).mono ?_);(case side1=>exact zbd_);(case side2=>exact zcc_);rintro e w57 ⟨rfl,hi,hb,hk⟩;refine ⟨_,rfl,?_⟩;have n_:=z (KeepBut.blk hk (g':=gb279) (o := .cells #[.int .i64 0,.slice none 0 0] 41 (0,0)) zia_ NB279_0.out (by simp))<|z (Kd.R_mono (Kd.R_keep (IsS86.apart (show IsS86 w0 _ g s0_0 t284 t285 from zbd_) (by refine zr ?_;exact (Kd.R_mono (Kd.R_far (p:=⟨gb286,1,none⟩) (Kd.R_far (p:=⟨gb286,0,none⟩) (Kd.R_types HO283.out BK286.out (by decide)) (fun _ hk=>hk.2) (.int .i64 t280)) (fun _ hk=>hk.2) (.slice Ao56 t281.length co56)) (fun _ h_=>h_.1))) (by decide)) hk (fun _ h=>h.2)) (fun _ h=>h.1))<|z (KeepBut.blk hk (g':=gb286) (o := .cells #[.int .i64 t280,.slice Ao56 t281.length co56] 41 (0,0)) zib_ NB286_0.out (by simp))<|z (KeepBut.trans zbi_ hk (.inl rfl))<|z (hb)<|z1 (hi);clear BK279 HO283 BK286 HK HB HI0;obtain ⟨BK279,HO283,BK286,HK,HB,HI0⟩:=n_;clear hb hk hi;obtain ⟨hcz58_0,hcz58_1,hfz58_0,hfz58_1⟩:=zk2 BK286.out;have q59:(1:Int)≤((t281.length:Int):Int):=of_decide_eq_true zc_;obtain ⟨i059,hi059,_,hsz59,_⟩:=info_parts info3;have hcut59:=cut_from (P:=Try.prog) 39 3 .i64 Try.underlying39 hi059 1 hsz59 Ao56 t281.length co56 1 (by omega) q59;have hr59:=Kd.Q_drop (k:=(1:Int).toNat) (Kd.Q_of_R HO283.out) (by omega);obtain ⟨A59,hA59⟩:∃ A1,A1=(if co56=(1:Int).toNat then Ao56 else (Ao56:Option Addr).map (·.add ((1:Int).toNat * 1))):=⟨_,rfl⟩;obtain ⟨c59,hc59⟩:∃ c1,c1=co56 - (1:Int).toNat:=⟨_,rfl⟩;have hy59:y306.length=t281.length - (1:Int).toNat:=(by rw [Ny306.out,lD]);rw [← Ny306.out] at hr59;rw [← hy59,← hA59,← hc59] at hcut59;replace hr59:Kd.Q (Kd.int .i64) 3 w57 w.heap.size (fun _=>True) (.slice A59 y306.length c59) y306:=(by rw [hA59,hc59,hy59];exact hr59);have HE59:Aside0 ((Value.slice A59 y306.length c59).ownBlock=(.slice Ao56 t281.length co56:Value).ownBlock):=⟨by rw [hA59];split <;> (cases (Ao56:Option Addr) <;> first | rfl | (simp only [Value.ownBlock,Option.map,Go.Addr.add];split <;> rfl))⟩;clear hy59 hi059 hsz59 HO283 hA59 hc59;have HO308:=aM hr59;clear hr59;replace q59:=eq_true q59;have hnb60:=NB279_0.out;have hnc60:=NB0_279.out;obtain ⟨hcz61_0,hcz61_1,hfz61_0,hfz61_1⟩:=zk2 BK279.out))
     refine bodyPost_ret (results_cell_row rfl _ _ gb279 41 #[.int .i64 t280,.slice A59 y306.length c59] (0,0) _ rfl (by refine zb ?_;refine blk_put (cs:=#[.int .i64 t280,.slice none 0 0]) ?_ 1 _ rfl;refine zb ?_;refine blk_put (cs:=#[.int .i64 0,.slice none 0 0]) ?_ 0 _ rfl;refine zb ?_;refine blk_far ?_ NB279_286.out _;refine zb ?_;exact BK279.out) Try.underlying41 rfl (by kernel_rfl)) rfl ?_
     exact ⟨_,zg_,by refine zq ?_;exact Kd.Q_mono (Kd.Q_far (p:=⟨gb279,1,none⟩) (Kd.Q_far (p:=⟨gb279,0,none⟩) (Kd.Q_far (p:=⟨gb286,1,none⟩) (Kd.Q_types (Kd.Q_types HO308.out BK286.out (by decide)) BK279.out (by decide)) (fun _ hk=>hk.1.2) (.slice A59 y306.length c59)) (fun _ hk=>hk.2) (.int .i64 t280)) (fun _ hk=>hk.2) (.slice A59 y306.length c59)) (fun _ hk=>trivial),zbd_,zcc_,zbi_⟩
    ·rw [if_neg c49] at H
     exact q3n_ H
   ·rw [if_neg c48] at H
    have c48b0:=beq_eq_false_iff_ne.mpr c48;have c48b1:=bne_iff_ne.mpr c48
    by_cases c62:t287=3
    ·rw [if_pos c62] at H
     have c62b0:=beq_iff_eq.mpr c62;have c62b1:=bne_eq_false_iff_eq.mpr c62;clear c62
     by_cases c63:32≤35184372088832
     ·rw [if_pos c63] at H
      have c63b0:=eq_true c63;have c63b1:=decide_eq_true c63;clear c63;obtain ⟨y309,hy309⟩:∃ y_:List Int,y_=(List.replicate 32 0):=⟨_,rfl⟩;replace H:(some (5,y309,t288,t289))=some (r1,r2,r3,r4):=q3y_ hy309 H
      have Ny309:=aM hy309;clear hy309
      simp only [Option.some.injEq,Prod.mk.injEq] at H
      obtain ⟨rfl,rfl,rfl,rfl⟩:=H
      go_enter Try.func80,Try.ntmps80
      go_wp2_with (first | ((with_reducible refine gate_dst (N:=2) rfl ?_);refine box_event ?hg (N:=2) ?hd (cs:=#[.int .i64 0,.slice none 0 0]) (t:=41) ?hr ?_;(case hd=>rfl);(case hg=>rfl);(case hr=>exact za_);intro gb279 hg w64 hbox hb;have n_:=z (IsS86.below zba_ hb)<|z (KeepBut.trans zbb_ (KeepBut.of_below hb g none) (.inl rfl))<|z (below_step zca_ hb)<|z (hbox)<|z ((by rw [hg];exact (keep_size (w:=w) (g:=g) (row:=none) zbb_):w.heap.size≤gb279))<|z ((Nat.le_trans HW0.out (by rw [hg];exact (keep_size (w:=w) (g:=g) (row:=none) zbb_):w.heap.size≤gb279):w0.heap.size≤gb279))<|z ((by rw [hg];exact Nat.ne_of_lt (IsS86.lt (show IsS86 w0 _ g s0_0 s0_1 s0_2 from zba_)):g≠gb279))<|z1 ((by rw [hg];exact Nat.ne_of_gt (IsS86.lt (show IsS86 w0 _ g s0_0 s0_1 s0_2 from zba_)):gb279≠g));clear HI0 HK HB;obtain ⟨HI0,HK,HB,BK279,GW279,GE279,NB0_279,NB279_0⟩:=n_;clear hb hbox hg)|((with_reducible refine gate_callee (f:=111) rfl ?_);refine goesL_ (some 5) rfl rfl Try.func111 (by kernel_rfl) rfl #[.pointer (some ⟨g,0,none⟩)] rfl zf_ ?_;(with_reducible refine (spec_l1Cur_table.calls k g s0_0 s0_1 s0_2 t280 t281 t284 t285 w0 _ ?side1 ?side2 A2.out).mono ?_);(case side1=>exact zcb_);(case side2=>exact zdg_);rintro e w65 ⟨v282,rfl,ho0,hi,hb,hk⟩;refine ⟨_,rfl,?_⟩;have n_:=z (KeepBut.blk hk (zb BK279.out) NB279_0.out (by simp))<|z (Kd.R_lower ho0 (keep_size (w:=w) (g:=g) (row:=none) zbg_))<|z (KeepBut.trans zbg_ hk (.inl rfl))<|z (hb)<|z1 (hi);clear BK279 HK HB HI0;obtain ⟨BK279,HO283,HK,HB,HI0⟩:=n_;clear hb hk hi;(try clear ho0))|((with_reducible refine gate_dst (N:=3) rfl ?_);refine box_event ?hg (N:=3) ?hd (cs:=#[.int .i64 0,.slice none 0 0]) (t:=41) ?hr ?_;(case hd=>rfl);(case hg=>rfl);(case hr=>exact za_);intro gb286 hg w66 hbox hb;have n_:=z (Kd.R_below (zr HO283.out) hb)<|z (IsS86.below zcb_ hb)<|z (blk_below (zb BK279.out) hb)<|z (KeepBut.trans zbg_ (KeepBut.of_below hb g none) (.inl rfl))<|z (below_step zdg_ hb)<|z (hbox)<|z ((by rw [hg];exact (keep_size (w:=w) (g:=g) (row:=none) zbg_):w.heap.size≤gb286))<|z ((Nat.le_trans HW0.out (by rw [hg];exact (keep_size (w:=w) (g:=g) (row:=none) zbg_):w.heap.size≤gb286):w0.heap.size≤gb286))<|z ((by rw [hg];exact Nat.ne_of_lt (blk_lt (zb BK279.out)):gb279≠gb286))<|z ((by rw [hg];exact Nat.ne_of_gt (blk_lt (zb BK279.out)):gb286≠gb279))<|z ((by rw [hg];exact Nat.ne_of_lt (IsS86.lt (show IsS86 w0 _ g s0_0 t284 t285 from zcb_)):g≠gb286))<|z1 ((by rw [hg];exact Nat.ne_of_gt (IsS86.lt (show IsS86 w0 _ g s0_0 t284 t285 from zcb_)):gb286≠g));clear HO283 HI0 BK279 HK HB;obtain ⟨HO283,HI0,BK279,HK,HB,BK286,GW286,GE286,NB279_286,NB286_279,NB0_286,NB286_0⟩:=n_;clear hb hbox hg;have hnb67:=NB286_279.out;have hnc67:=NB279_286.out;have hnb68:=NB286_0.out;have hnc68:=NB0_286.out;obtain ⟨hcz69_0,hcz69_1,hfz69_0,hfz69_1⟩:=zk2 BK286.out;obtain ⟨Ao70,co70,eo70⟩:=Kd.R_slice HO283.out;subst eo70)|((with_reducible refine gate_callee (f:=68) rfl ?_);refine goesL_ (some 7) rfl rfl Try.func68 (by kernel_rfl) rfl #[.pointer (some ⟨g,0,none⟩),.int .i64 30] rfl zf_ ?_;(with_reducible refine (spec_l1Cur_pick.calls g s0_0 t284 t285 30 t287 t288 t289 w0 _ ?side1 ?side2 A3.out).mono ?_);(case side1=>exact zbd_);(case side2=>exact zcc_);rintro e w71 ⟨rfl,hi,hb,hk⟩;refine ⟨_,rfl,?_⟩;have n_:=z (KeepBut.blk hk (g':=gb279) (o := .cells #[.int .i64 0,.slice none 0 0] 41 (0,0)) zia_ NB279_0.out (by simp))<|z (Kd.R_mono (Kd.R_keep (IsS86.apart (show IsS86 w0 _ g s0_0 t284 t285 from zbd_) (by refine zr ?_;exact (Kd.R_mono (Kd.R_far (p:=⟨gb286,1,none⟩) (Kd.R_far (p:=⟨gb286,0,none⟩) (Kd.R_types HO283.out BK286.out (by decide)) (fun _ hk=>hk.2) (.int .i64 t280)) (fun _ hk=>hk.2) (.slice Ao70 t281.length co70)) (fun _ h_=>h_.1))) (by decide)) hk (fun _ h=>h.2)) (fun _ h=>h.1))<|z (KeepBut.blk hk (g':=gb286) (o := .cells #[.int .i64 t280,.slice Ao70 t281.length co70] 41 (0,0)) zib_ NB286_0.out (by simp))<|z (KeepBut.trans zbi_ hk (.inl rfl))<|z (hb)<|z1 (hi);clear BK279 HO283 BK286 HK HB HI0;obtain ⟨BK279,HO283,BK286,HK,HB,HI0⟩:=n_;clear hb hk hi)|((with_reducible refine gate_dst (N:=38) rfl ?_);refine Kd.R_make (Kd.int .i64) _ 3 rfl (N:=38) rfl 39 _ _ rfl 32 rfl rfl Try.underlying39 (.int .i64 0) 8 info3 rfl (by decide) (by omega) 0 (ok:=fun _=>True) (okp:=fun _=>True) rfl (fun _ hk=>hk) trivial (by omega) (by omega) (Below.refl _ _) (Nat.le_refl _) ?_;intro v310 w72 ho73 hb hg_ hnew_;clear hg_ hnew_;(first | rw [← Ny309.out] at ho73 | (simp only [Int.reduceToNat] at ho73;rw [← Ny309.out] at ho73));have n_:=z (Kd.R_elder' (zr HO283.out) (Kd.R_base ho73) hb)<|z (Kd.R_lower (Kd.R_new' ho73 (Kd.R_lt (zr HO283.out))) (keep_size (w:=w) (g:=g) (row:=none) zbi_))<|z (IsS86.below zbd_ hb)<|z (blk_below (zb BK279.out) hb)<|z (blk_below (zb BK286.out) hb)<|z (KeepBut.trans zbi_ (KeepBut.of_below hb g none) (.inl rfl))<|z1 (below_step zcc_ hb);clear HO283 HI0 BK279 BK286 HK HB;obtain ⟨HO283,HO311,HI0,BK279,BK286,HK,HB⟩:=n_;clear hb ho73;obtain ⟨Ao74,co74,eo74⟩:=Kd.R_slice HO311.out;subst eo74;obtain ⟨hcz75_0,hcz75_1,hfz75_0,hfz75_1⟩:=zk2 BK286.out;have hnb76:=NB279_0.out;have hnc76:=NB0_279.out;obtain ⟨hcz77_0,hcz77_1,hfz77_0,hfz77_1⟩:=zk2 BK279.out))
      refine bodyPost_ret (results_cell_row rfl _ _ gb279 41 #[.int .i64 5,.slice Ao74 y309.length co74] (0,0) _ rfl (by refine zb ?_;refine blk_put (cs:=#[.int .i64 5,.slice none 0 0]) ?_ 1 _ rfl;refine zb ?_;refine blk_put (cs:=#[.int .i64 0,.slice none 0 0]) ?_ 0 _ rfl;refine zb ?_;refine blk_far ?_ NB279_286.out _;refine zb ?_;refine blk_far ?_ NB279_286.out _;refine zb ?_;exact BK279.out) Try.underlying41 rfl (by kernel_rfl)) rfl ?_
      exact ⟨_,zg_,Kd.Q_of_R (by refine zr ?_;exact Kd.R_mono (Kd.R_far (p:=⟨gb279,1,none⟩) (Kd.R_far (p:=⟨gb279,0,none⟩) (Kd.R_far (p:=⟨gb286,1,none⟩) (Kd.R_far (p:=⟨gb286,0,none⟩) (Kd.R_types (Kd.R_types HO311.out BK286.out (by decide)) BK279.out (by decide)) (fun _ hk=>hk.1.2) (.int .i64 5)) (fun _ hk=>hk.1.2) (.slice Ao74 y309.length co74)) (fun _ hk=>hk.2) (.int .i64 5)) (fun _ hk=>hk.2) (.slice Ao74 y309.length co74)) (fun _ hk=>trivial)),zbd_,zcc_,zbi_⟩
     ·rw [if_neg c63] at H
      exact q3n_ H
    ·rw [if_neg c62] at H
     have c62b0:=beq_eq_false_iff_ne.mpr c62;have c62b1:=bne_iff_ne.mpr c62
     simp only [Option.some.injEq,Prod.mk.injEq] at H
     obtain ⟨rfl,rfl,rfl,rfl⟩:=H
     go_enter Try.func80,Try.ntmps80
     go_wp2_with (first | ((with_reducible refine gate_dst (N:=2) rfl ?_);refine box_event ?hg (N:=2) ?hd (cs:=#[.int .i64 0,.slice none 0 0]) (t:=41) ?hr ?_;(case hd=>rfl);(case hg=>rfl);(case hr=>exact za_);intro gb279 hg w78 hbox hb;have n_:=z (IsS86.below zba_ hb)<|z (KeepBut.trans zbb_ (KeepBut.of_below hb g none) (.inl rfl))<|z (below_step zca_ hb)<|z (hbox)<|z ((by rw [hg];exact (keep_size (w:=w) (g:=g) (row:=none) zbb_):w.heap.size≤gb279))<|z ((Nat.le_trans HW0.out (by rw [hg];exact (keep_size (w:=w) (g:=g) (row:=none) zbb_):w.heap.size≤gb279):w0.heap.size≤gb279))<|z ((by rw [hg];exact Nat.ne_of_lt (IsS86.lt (show IsS86 w0 _ g s0_0 s0_1 s0_2 from zba_)):g≠gb279))<|z1 ((by rw [hg];exact Nat.ne_of_gt (IsS86.lt (show IsS86 w0 _ g s0_0 s0_1 s0_2 from zba_)):gb279≠g));clear HI0 HK HB;obtain ⟨HI0,HK,HB,BK279,GW279,GE279,NB0_279,NB279_0⟩:=n_;clear hb hbox hg)|((with_reducible refine gate_callee (f:=111) rfl ?_);refine goesL_ (some 5) rfl rfl Try.func111 (by kernel_rfl) rfl #[.pointer (some ⟨g,0,none⟩)] rfl zf_ ?_;(with_reducible refine (spec_l1Cur_table.calls k g s0_0 s0_1 s0_2 t280 t281 t284 t285 w0 _ ?side1 ?side2 A2.out).mono ?_);(case side1=>exact zcb_);(case side2=>exact zdg_);rintro e w79 ⟨v282,rfl,ho0,hi,hb,hk⟩;refine ⟨_,rfl,?_⟩;have n_:=z (KeepBut.blk hk (zb BK279.out) NB279_0.out (by simp))<|z (Kd.R_lower ho0 (keep_size (w:=w) (g:=g) (row:=none) zbg_))<|z (KeepBut.trans zbg_ hk (.inl rfl))<|z (hb)<|z1 (hi);clear BK279 HK HB HI0;obtain ⟨BK279,HO283,HK,HB,HI0⟩:=n_;clear hb hk hi;(try clear ho0))|((with_reducible refine gate_dst (N:=3) rfl ?_);refine box_event ?hg (N:=3) ?hd (cs:=#[.int .i64 0,.slice none 0 0]) (t:=41) ?hr ?_;(case hd=>rfl);(case hg=>rfl);(case hr=>exact za_);intro gb286 hg w80 hbox hb;have n_:=z (Kd.R_below (zr HO283.out) hb)<|z (IsS86.below zcb_ hb)<|z (blk_below (zb BK279.out) hb)<|z (KeepBut.trans zbg_ (KeepBut.of_below hb g none) (.inl rfl))<|z (below_step zdg_ hb)<|z (hbox)<|z ((by rw [hg];exact (keep_size (w:=w) (g:=g) (row:=none) zbg_):w.heap.size≤gb286))<|z ((Nat.le_trans HW0.out (by rw [hg];exact (keep_size (w:=w) (g:=g) (row:=none) zbg_):w.heap.size≤gb286):w0.heap.size≤gb286))<|z ((by rw [hg];exact Nat.ne_of_lt (blk_lt (zb BK279.out)):gb279≠gb286))<|z ((by rw [hg];exact Nat.ne_of_gt (blk_lt (zb BK279.out)):gb286≠gb279))<|z ((by rw [hg];exact Nat.ne_of_lt (IsS86.lt (show IsS86 w0 _ g s0_0 t284 t285 from zcb_)):g≠gb286))<|z1 ((by rw [hg];exact Nat.ne_of_gt (IsS86.lt (show IsS86 w0 _ g s0_0 t284 t285 from zcb_)):gb286≠g));clear HO283 HI0 BK279 HK HB;obtain ⟨HO283,HI0,BK279,HK,HB,BK286,GW286,GE286,NB279_286,NB286_279,NB0_286,NB286_0⟩:=n_;clear hb hbox hg;have hnb81:=NB286_279.out;have hnc81:=NB279_286.out;have hnb82:=NB286_0.out;have hnc82:=NB0_286.out;obtain ⟨hcz83_0,hcz83_1,hfz83_0,hfz83_1⟩:=zk2 BK286.out;obtain ⟨Ao84,co84,eo84⟩:=Kd.R_slice HO283.out;subst eo84)|((with_reducible refine gate_callee (f:=68) rfl ?_);refine goesL_ (some 7) rfl rfl Try.func68 (by kernel_rfl) rfl #[.pointer (some ⟨g,0,none⟩),.int .i64 30] rfl zf_ ?_;(with_reducible refine (spec_l1Cur_pick.calls g s0_0 t284 t285 30 t287 t288 t289 w0 _ ?side1 ?side2 A3.out).mono ?_);(case side1=>exact zbd_);(case side2=>exact zcc_);rintro e w85 ⟨rfl,hi,hb,hk⟩;refine ⟨_,rfl,?_⟩;have n_:=z (KeepBut.blk hk (g':=gb279) (o := .cells #[.int .i64 0,.slice none 0 0] 41 (0,0)) zia_ NB279_0.out (by simp))<|z (Kd.R_mono (Kd.R_keep (IsS86.apart (show IsS86 w0 _ g s0_0 t284 t285 from zbd_) (by refine zr ?_;exact (Kd.R_mono (Kd.R_far (p:=⟨gb286,1,none⟩) (Kd.R_far (p:=⟨gb286,0,none⟩) (Kd.R_types HO283.out BK286.out (by decide)) (fun _ hk=>hk.2) (.int .i64 t280)) (fun _ hk=>hk.2) (.slice Ao84 t281.length co84)) (fun _ h_=>h_.1))) (by decide)) hk (fun _ h=>h.2)) (fun _ h=>h.1))<|z (KeepBut.blk hk (g':=gb286) (o := .cells #[.int .i64 t280,.slice Ao84 t281.length co84] 41 (0,0)) zib_ NB286_0.out (by simp))<|z (KeepBut.trans zbi_ hk (.inl rfl))<|z (hb)<|z1 (hi);clear BK279 HO283 BK286 HK HB HI0;obtain ⟨BK279,HO283,BK286,HK,HB,HI0⟩:=n_;clear hb hk hi;obtain ⟨hcz86_0,hcz86_1,hfz86_0,hfz86_1⟩:=zk2 BK286.out;have hnb87:=NB279_0.out;have hnc87:=NB0_279.out;obtain ⟨hcz88_0,hcz88_1,hfz88_0,hfz88_1⟩:=zk2 BK279.out))
     refine bodyPost_ret (results_cell_row rfl _ _ gb279 41 #[.int .i64 t280,.slice Ao84 t281.length co84] (0,0) _ rfl (by refine zb ?_;refine blk_put (cs:=#[.int .i64 t280,.slice none 0 0]) ?_ 1 _ rfl;refine zb ?_;refine blk_put (cs:=#[.int .i64 0,.slice none 0 0]) ?_ 0 _ rfl;refine zb ?_;exact BK279.out) Try.underlying41 rfl (by kernel_rfl)) rfl ?_
     exact ⟨_,zg_,Kd.Q_of_R (by refine zr ?_;exact Kd.R_mono (Kd.R_far (p:=⟨gb279,1,none⟩) (Kd.R_far (p:=⟨gb279,0,none⟩) (Kd.R_types HO283.out BK279.out (by decide)) (fun _ hk=>hk.2) (.int .i64 t280)) (fun _ hk=>hk.2) (.slice Ao84 t281.length co84)) (fun _ hk=>trivial)),zbd_,zcc_,zbi_⟩
def spec_DrawDiagramOf.f (k:Nat) (l0:List Int):Option (Int×List Int):=(spec_l1Cur_anyTable.f k l0 0 0).bind fun bt314=>(some (bt314.1,bt314.2.1))
theorem spec_DrawDiagramOf.calls (k:Nat) (A0:Option Addr) (c0:Nat) (l0:List Int) (r1:Int) (r2:List Int) (w:World) (hr0:Kd.C (Kd.int .u8) w A0 l0.length l0) (hc0:l0.length≤c0) (h:spec_DrawDiagramOf.f k l0=some (r1,r2)) :
  Calls Try.prog 73 #[.slice A0 l0.length c0] w fun e w' => ∃ v1_:Value,e = .returned (.agg #[.int .i64 r1,v1_])∧Kd.Q (Kd.int .i64) 3 w' w.heap.size (fun _=>True) v1_ r2∧Below w.heap.size w w':=by
 have hu41:=Try.underlying41
 have hu86:=Try.underlying86
 have HR0:=aM hr0
 have HC0:=aM hc0
 clear hr0 hc0
 have HB:=aM (Below.refl w.heap.size w)
 have H:((spec_l1Cur_anyTable.f k l0 0 0).bind fun bt314=>(some (bt314.1,bt314.2.1)))=some (r1,r2):=h
 clear h
 replace H:=oB.mp H
 obtain ⟨⟨t314,t315,t318,t319⟩,A20,H⟩:=H
 replace H:(some (t314,t315))=some (r1,r2):=H
 have A2:=aM A20
 clear A20
 simp only [Option.some.injEq,Prod.mk.injEq] at H
 obtain ⟨rfl,rfl⟩:=H
 go_enter Try.func73,Try.ntmps73
 go_wp2_with (first | ((with_reducible refine gate_dst (N:=2) rfl ?_);refine box_event ?hg (N:=2) ?hd (cs:=#[.int .i64 0,.slice none 0 0]) (t:=41) ?hr ?_;(case hd=>rfl);(case hg=>rfl);(case hr=>exact za_);intro gb312 hg w3 hbox hb;have n_:=z (below_step zb_ hb)<|z (hbox)<|z ((by rw [hg];exact (below_size zb_):w.heap.size≤gb312))<|z1 ((by rw [hg];exact (below_size zb_):w.heap.size≤gb312));clear HB;obtain ⟨HB,BK312,GW312,GE312⟩:=n_;clear hb hbox hg)|((with_reducible refine gate_dst (N:=6) rfl ?_);refine box_event ?hg (N:=6) ?hd (cs:=#[.slice A0 l0.length c0,.int .i64 0,.int .u64 0]) (t:=86) ?hr ?_;(case hd=>rfl);(case hg=>rfl);(case hr=>exact za_);intro gb313 hg w4 hbox hb;have n_:=z (blk_below (zb BK312.out) hb)<|z (below_step zjb_ hb)<|z ((by rw [hg];exact (below_size zjb_):w.heap.size≤gb313))<|z ((by rw [hg];exact (below_size zjb_):w.heap.size≤gb313))<|z ((by rw [hg];exact Nat.ne_of_lt (blk_lt (zb BK312.out)):gb312≠gb313))<|z ((by rw [hg];exact Nat.ne_of_gt (blk_lt (zb BK312.out)):gb313≠gb312))<|z1 ((⟨_,_,hbox,(by rw [hg];exact (below_size zjb_):w.heap.size≤gb313),HR0.out⟩:IsS86 w w4 gb313 l0 0 0));clear BK312 HB;obtain ⟨BK312,HB,GW313,GE313,NB312_313,NB313_312,HI313⟩:=n_;clear hb hbox hg)|((with_reducible refine gate_callee (f:=80) rfl ?_);refine goesL_ (some 8) rfl rfl Try.func80 (by kernel_rfl) rfl #[.pointer (some ⟨gb313,0,none⟩)] rfl zf_ ?_;(with_reducible refine (spec_l1Cur_anyTable.calls k gb313 l0 0 0 t314 t315 t318 t319 w _ ?side1 ?side2 A2.out).mono ?_);(case side1=>repeat (first | (with_reducible first | exact HI313.out | apply IsS86.alloc | apply IsS86.drewN | apply IsS86.drew | apply IsS86.set_1 | apply IsS86.set_2 | refine IsS86.far ?_ NB313_312.out _) | exact HI313.out));(case side2=>exact zbaf_);rintro e w5 ⟨v316,rfl,ho0,hi,hb,hk⟩;refine ⟨_,rfl,?_⟩;have n_:=z (KeepBut.blk hk (zb BK312.out) NB312_313.out (by simp))<|z (Kd.Q_lower ho0 (below_size zbaf_))<|z (hb)<|z1 (hi);clear BK312 HB HI313;obtain ⟨BK312,HO317,HB,HI313⟩:=n_;clear hb hk hi;(try clear ho0);have hnb6:=NB312_313.out;have hnc6:=NB313_312.out;obtain ⟨hcz7_0,hcz7_1,hfz7_0,hfz7_1⟩:=zk2 BK312.out;obtain ⟨Ao8,co8,eo8,_⟩:=Kd.Q_slice HO317.out;subst eo8))
 refine bodyPost_ret (results_cell_row rfl _ _ gb312 41 #[.int .i64 t314,.slice Ao8 t315.length co8] (0,0) _ rfl (by refine zb ?_;refine blk_put (cs:=#[.int .i64 t314,.slice none 0 0]) ?_ 1 _ rfl;refine zb ?_;refine blk_put (cs:=#[.int .i64 0,.slice none 0 0]) ?_ 0 _ rfl;refine zb ?_;exact BK312.out) Try.underlying41 rfl (by kernel_rfl)) rfl ?_
 exact ⟨_,zg_,by refine zq ?_;exact Kd.Q_mono (Kd.Q_far (p:=⟨gb312,1,none⟩) (Kd.Q_far (p:=⟨gb312,0,none⟩) (Kd.Q_types HO317.out BK312.out (by decide)) (fun _ hk=>hk.2) (.int .i64 t314)) (fun _ hk=>hk.2) (.slice Ao8 t315.length co8)) (fun _ hk=>trivial),zbaf_⟩
def spec_DrawBestOrder.f (k:Nat) (l0:List Int):Option (Int×List Int):=(spec_DrawDiagramOf.f k l0).bind fun bt321=>(some (bt321.1,bt321.2))
theorem spec_DrawBestOrder.calls (k:Nat) (A0:Option Addr) (c0:Nat) (l0:List Int) (r1:Int) (r2:List Int) (w:World) (hr0:Kd.C (Kd.int .u8) w A0 l0.length l0) (hc0:l0.length≤c0) (h:spec_DrawBestOrder.f k l0=some (r1,r2)) :
  Calls Try.prog 23 #[.slice A0 l0.length c0] w fun e w' => ∃ v1_:Value,e = .returned (.agg #[.int .i64 r1,v1_])∧Kd.Q (Kd.int .i64) 3 w' w.heap.size (fun _=>True) v1_ r2∧Below w.heap.size w w':=by
 have hu41:=Try.underlying41
 have HR0:=aM hr0
 have HC0:=aM hc0
 clear hr0 hc0
 have HB:=aM (Below.refl w.heap.size w)
 have H:((spec_DrawDiagramOf.f k l0).bind fun bt321=>(some (bt321.1,bt321.2)))=some (r1,r2):=h
 clear h
 replace H:=oB.mp H
 obtain ⟨⟨t321,t322⟩,A20,H⟩:=H
 replace H:(some (t321,t322))=some (r1,r2):=H
 have A2:=aM A20
 clear A20
 simp only [Option.some.injEq,Prod.mk.injEq] at H
 obtain ⟨rfl,rfl⟩:=H
 go_enter Try.func23,Try.ntmps23
 go_wp2_with (first | ((with_reducible refine gate_dst (N:=2) rfl ?_);refine box_event ?hg (N:=2) ?hd (cs:=#[.int .i64 0,.slice none 0 0]) (t:=41) ?hr ?_;(case hd=>rfl);(case hg=>rfl);(case hr=>exact za_);intro gb320 hg w3 hbox hb;have n_:=z (below_step zb_ hb)<|z (hbox)<|z ((by rw [hg];exact (below_size zb_):w.heap.size≤gb320))<|z1 ((by rw [hg];exact (below_size zb_):w.heap.size≤gb320));clear HB;obtain ⟨HB,BK320,GW320,GE320⟩:=n_;clear hb hbox hg)|((with_reducible refine gate_callee (f:=73) rfl ?_);refine goesL_ (some 4) rfl rfl Try.func73 (by kernel_rfl) rfl #[.slice A0 l0.length c0] rfl zf_ ?_;(with_reducible refine (spec_DrawDiagramOf.calls k _ _ l0 t321 t322 _ ?side1 ?side2 A2.out).mono ?_);(case side1=>repeat (first | exact (Kd.C_below HR0.out HB.out)|(with_reducible refine cA ?_ _)|(with_reducible refine cN ?_ _)|(with_reducible refine cD ?_)));(case side2=>exact HC0.out);rintro e w4 ⟨v323,rfl,ho0,hb⟩;refine ⟨_,rfl,?_⟩;have n_:=z (Kd.Q_lower ho0 (below_size zbag_))<|z (blk_below (zb BK320.out) hb)<|z1 (below_step zbag_ hb);clear BK320 HB;obtain ⟨HO324,BK320,HB⟩:=n_;clear hb;(try clear ho0);obtain ⟨hcz5_0,hcz5_1,hfz5_0,hfz5_1⟩:=zk2 BK320.out;obtain ⟨Ao6,co6,eo6,_⟩:=Kd.Q_slice HO324.out;subst eo6))
 refine bodyPost_ret (results_cell_row rfl _ _ gb320 41 #[.int .i64 t321,.slice Ao6 t322.length co6] (0,0) _ rfl (by refine zb ?_;refine blk_put (cs:=#[.int .i64 t321,.slice none 0 0]) ?_ 1 _ rfl;refine zb ?_;refine blk_put (cs:=#[.int .i64 0,.slice none 0 0]) ?_ 0 _ rfl;refine zb ?_;exact BK320.out) Try.underlying41 rfl (by kernel_rfl)) rfl ?_
 exact ⟨_,zg_,by refine zq ?_;exact Kd.Q_mono (Kd.Q_far (p:=⟨gb320,1,none⟩) (Kd.Q_far (p:=⟨gb320,0,none⟩) (Kd.Q_types HO324.out BK320.out (by decide)) (fun _ hk=>hk.2) (.int .i64 t321)) (fun _ hk=>hk.2) (.slice Ao6 t322.length co6)) (fun _ hk=>trivial),zbag_⟩
def slices_Index_int_int.l0:Nat→List Int→Int→Int→Int→Option (Int)
 | 0,_,_,_,_=>none
 | k+1,x0,x1,x7,x8=>if x8<x7 then (if 0≤x8 then (if x8<(x0.length:Int) then (if x1=(rd x0 x8) then (some x8) else (slices_Index_int_int.l0 k x0 x1 x7 (wrap64 (x8+1)))) else (none)) else (none)) else (some (-1))
def slices_Index_int_int.f (k:Nat) (l0:List Int) (a1:Int):Option (Int):=slices_Index_int_int.l0 k l0 a1 (l0.length:Int) 0
theorem slices_Index_int_int.calls (k:Nat) (A0:Option Addr) (c0:Nat) (l0:List Int) (a1:Int) (r:Int) (w:World) (hr0:Kd.C (Kd.int .i64) w A0 l0.length l0) (hc0:l0.length≤c0) (h:slices_Index_int_int.f k l0 a1=some r) :
  Calls Try.prog 127 #[.slice A0 l0.length c0,.int .i64 a1] w fun e w'=>e = .returned (.int .i64 r)∧Drawn0 w w':=by
 have HR0:=aM hr0
 have HC0:=aM hc0
 clear hr0 hc0
 have H:(slices_Index_int_int.l0 k l0 a1 (l0.length:Int) 0)=some r:=h
 clear h
 have H':=aM H
 clear H
 go_enter Try.func127,Try.ntmps127
 go_wp2
 go_loopg [8] k (fun kq v8 w' => ∃ (x8_1:Int),v8 = .int .i64 x8_1∧Aside0 (slices_Index_int_int.l0 kq l0 a1 (l0.length:Int) x8_1=some r)∧Aside0 (kq≤k)∧Drawn0 w w')
 case atStart=>exact ⟨(0),zd_,H',⟨Nat.le_refl _⟩,zi_⟩
 case round =>
  clear H';obtain ⟨x8_1,rfl,HA,HK1,⟨m1,rfl⟩⟩:=hrel
  cases gk with
  | zero=>exact absurd HA.out (by simp [slices_Index_int_int.l0])
  | succ k1 =>
   have H:=HA.out;clear HA
   simp only [slices_Index_int_int.l0] at H
   by_cases c3:x8_1<(l0.length:Int)
   ·rw [if_pos c3] at H
    have c3b0:=decide_eq_true c3;clear c3
    by_cases c4:0≤x8_1
    ·rw [if_pos c4] at H
     have c4b0:=decide_eq_true c4;clear c4
     by_cases c5:x8_1<(l0.length:Int)
     ·rw [if_pos c5] at H
      have c5b0:=decide_eq_true c5;clear c5
      by_cases c6:a1=(rd l0 x8_1)
      ·rw [if_pos c6] at H
       have c6b0:=beq_iff_eq.mpr c6;have c6b1:=bne_eq_false_iff_eq.mpr c6;clear c6;obtain rfl:=Option.some.inj H;have p325:0≤(x8_1:Int):=of_decide_eq_true zc_;have q325:x8_1<(l0.length:Int):=of_decide_eq_true zc_;obtain ⟨ad325,e325,hx325_0⟩:=Kd.at_int HR0.out x8_1 p325 q325
       cases e325
       replace p325:=eq_true p325;replace q325:=eq_true q325
       go_wp2
       go_ret
       exact ⟨zd_,zi_⟩
      ·rw [if_neg c6] at H
       have c6b0:=beq_eq_false_iff_ne.mpr c6;have c6b1:=bne_iff_ne.mpr c6;have H':=aM H;clear H;have p325:0≤(x8_1:Int):=of_decide_eq_true zc_;have q325:x8_1<(l0.length:Int):=of_decide_eq_true zc_;obtain ⟨ad325,e325,hx325_0⟩:=Kd.at_int HR0.out x8_1 p325 q325
       cases e325
       replace p325:=eq_true p325;replace q325:=eq_true q325
       go_wp2
       go_roundg k1
       case measure=>have:=HK1.out;omega
       case rel=>exact ⟨(wrap64 (x8_1+1)),zd_,H',⟨zci_⟩,zi_⟩
     ·rw [if_neg c5] at H
      exact q3n_ H
    ·rw [if_neg c4] at H
     exact q3n_ H
   ·rw [if_neg c3] at H
    have c3b0:=decide_eq_false c3;clear c3;obtain rfl:=Option.some.inj H
    go_wp2
    go_ret
    exact ⟨zd_,zi_⟩
def slices_Contains_int_int.f (k:Nat) (l0:List Int) (a1:Int):Option (Bool):=(slices_Index_int_int.f k l0 a1).bind fun t326=>(some (decide (t326≥0)))
theorem slices_Contains_int_int.calls (k:Nat) (A0:Option Addr) (c0:Nat) (l0:List Int) (a1:Int) (r:Bool) (w:World) (hr0:Kd.C (Kd.int .i64) w A0 l0.length l0) (hc0:l0.length≤c0) (h:slices_Contains_int_int.f k l0 a1=some r) :
  Calls Try.prog 118 #[.slice A0 l0.length c0,.int .i64 a1] w fun e w'=>e = .returned (.bool r)∧Drawn0 w w':=by
 have HR0:=aM hr0
 have HC0:=aM hc0
 clear hr0 hc0
 have H:((slices_Index_int_int.f k l0 a1).bind fun t326=>(some (decide (t326≥0))))=some r:=h
 clear h
 replace H:=oB.mp H
 obtain ⟨t326,A30,H⟩:=H
 replace H:(some (decide (t326≥0)))=some r:=H
 have A3:=aM A30
 clear A30
 obtain rfl:=Option.some.inj H
 go_enter Try.func118,Try.ntmps118
 go_wp2_with (first | ((with_reducible refine gate_callee (f:=127) rfl ?_);refine goesL_ (some 7) rfl rfl Try.func127 (by kernel_rfl) rfl #[.slice A0 l0.length c0,.int .i64 a1] rfl zf_ ?_;(with_reducible refine (slices_Index_int_int.calls k _ _ l0 a1 t326 _ ?side1 ?side2 A3.out).mono ?_);(case side1=>repeat (first | exact HR0.out | (with_reducible refine cA ?_ _)|(with_reducible refine cN ?_ _)|(with_reducible refine cD ?_)));(case side2=>exact HC0.out);rintro e w' ⟨rfl,⟨nd,rfl⟩⟩;refine ⟨_,rfl,?_⟩))
 go_ret
 exact ⟨zd_,zi_⟩
def impl_ordersOf.f (k:Nat) (n:Int):Option (List (List Int)):=if 0≤n then (if n≤8 then (if 100≤k then some (Sep.pm n.toNat n.toNat []) else none) else none) else none
def impl_ordersOf.items (gn go gx:Nat) (vl vo:Value) (list:List Int) (out:List (List Int)) (n:Nat) (F:List Sep.Item):List Sep.Item:=
 Sep.Item.row (Kd.int .i64) 3 vl list :: Sep.Item.box go 63 #[vo] :: Sep.Item.rows (Kd.slice 3 (Kd.int .i64)) 39 vo out :: Sep.Item.box gn 3 #[.int .i64 (n:Int)] :: Sep.Item.box gx 113 #[.func (.func 117) #[] #[.pointer (some ⟨gn,0,none⟩),.pointer (some ⟨go,0,none⟩),.pointer (some ⟨gx,0,none⟩)]] :: F
theorem impl_ordersOf.idx (l:List Int) (v:Int) (hl:l.length≤1000):∀ (r p:List Int) (i:Int) (k:Nat),i=p.length→l=p++r→r.length<k→∃ s,slices_Index_int_int.l0 k l v (l.length:Int) i=some s∧decide (s≥0)=decide (v∈r):=by
 intro r
 induction r with
 | nil =>
  intro p i k hi he hk
  obtain ⟨k,rfl⟩:∃ m,k=m+1:=⟨k - 1,by simp at hk;omega⟩
  refine ⟨-1,?_,by simp⟩
  rw [slices_Index_int_int.l0,if_neg (by rw [he,hi];simp)]
 | cons x r ih =>
  intro p i k hi he hk
  obtain ⟨k,rfl⟩:∃ m,k=m+1:=⟨k - 1,by simp at hk;omega⟩;have hlen:l.length=p.length+r.length+1:=by rw [he];simp;omega
  have hx:rd l i=x:=by rw [he,hi];simp [rd,List.getD_eq_getElem?_getD]
  rw [slices_Index_int_int.l0,if_pos (by omega),if_pos (by omega),if_pos (by omega),hx]
  by_cases h:v=x
  ·exact ⟨i,by rw [if_pos h],by rw [decide_eq_true (show i≥0 by omega),h];simp⟩
  ·obtain ⟨s,h1,h2⟩:=ih (p ++ [x]) (i+1) k (by rw [hi];simp) (by rw [he];simp) (by simp at hk;omega)
   refine ⟨s,?_,?_⟩
   ·rw [if_neg h,show wrap64 (i+1)=i+1 by unfold wrap64;omega]
    exact h1
   ·rw [h2]
    simp [h]
theorem impl_ordersOf.has (l:List Int) (v:Int) (k:Nat) (hk:l.length<k∧l.length≤1000):slices_Contains_int_int.f k l v=some (decide (v∈l)):=by
 obtain ⟨s,h1,h2⟩:=impl_ordersOf.idx l v hk.2 l [] 0 k rfl rfl hk.1
 unfold slices_Contains_int_int.f slices_Index_int_int.f
 rw [h1]
 simp only [oS]
 rw [h2]
open Go.Proofs.Ytlnhpkjioppbiaa.Sep in
theorem impl_ordersOf.ext (n:Nat) (hn:n≤8) (w0:World) (gn go gx:Nat):∀ (d:Nat) (list:List Int) (out:List (List Int)) (w:World) (vl vo:Value) (F:List Sep.Item) (_h:Own w0 w (impl_ordersOf.items gn go gx vl vo list out n F))
  (_hl:list.length+d=n) (_ho:out.length+8 ^ d≤1000000000),
  Calls Try.prog 117 #[vl,.pointer (some ⟨gn,0,none⟩),.pointer (some ⟨go,0,none⟩),.pointer (some ⟨gx,0,none⟩)] w fun e w'=>e = .returned (.tuple #[])∧∃ vo',Own w0 w' (impl_ordersOf.items gn go gx vl vo' list (out++pm n d list) n F):=by
 intro d
 induction d with
 | zero =>
  intro list out w vl vo F h hl ho
  obtain ⟨Al,cl,rfl⟩:=h.row_slice 0 rfl;obtain ⟨Ao,co,rfl⟩:=h.rows_slice 2 rfl;have HO:=aM h;have HL:=aM hl;have HU:=aM ho;clear h ho;have c0b:((list.length:Int) == (n:Int))=true:=beq_iff_eq.mpr (by have:=HL.out;omega)
  go_enter Try.func117,Try.ntmps117
  have z_1:w.cell? ⟨gn,0,none⟩=some (.int .i64 ((n:Int))):=(HO.out.cell 3 rfl 0 rfl)
  go_wp2
  have HD_1_1:=aM (HO.out.drew)
  refine start_ (n:=7) (S:=fun w'=>w'.cell? ⟨go,0,none⟩=some (.slice Ao out.length co)) (ds:=[6]) #[fi,fi,fi,fi,fi,fi,fi] (by kernel_rfl) rfl rfl ((HD_1_1.out.cell 1 rfl 0 rfl)) (fun hHeld=>?_)
  generalize w.drew=wd_1_2 at HD_1_1 hHeld ⊢
  refine oz_ 2 12 ?_
  refine tz1_ 0 10 hHeld ?_
  refine oo_ 1 11 (fun K hK=>?_)
  refine Sep.own_lit0_step (Kd.int .i64) HD_1_1.out 3 (by rfl) (N:=11) rfl za_ ?_
  intro x_11 w_1 ho _
  have HO_1:=aM ho;clear ho
  refine hK.out _ _ ((HO_1.out.cell 2 rfl 0 rfl)) (fun hHeld=>?_)
  clear hK K
  refine nz_ 11 ?_
  refine oo_ 3 13 (fun K hK=>?_)
  refine Sep.own_append_all_step (Value.int .i64) (0:Int) HO_1.out 0 _ ([]) 3 rfl (by rfl) (.tmp 11) (.tmp 12) 39 (.int .i64 0) 8 rfl Try.underlying39 info3 rfl (by omega) (list) Al list.length cl rfl rfl (HO_1.out.row_reads 1 rfl).2.2 zfd_ ?_
  intro x_13 w_2 ho
  obtain ⟨A_13,n_13,c_13,hn_,rfl⟩:=ho.row_seal 0 rfl;have HN_13:=aM hn_;clear hn_;have HO_2:=aM ho;clear ho
  refine hK.out _ _ ((HO_2.out.cell 2 rfl 0 rfl)) (fun hHeld=>?_)
  clear hK K
  refine nz_ 13 ?_
  refine oo_ 4 14 (fun K hK=>?_)
  refine value_ (w1:=?_) (v:=?_) (by rfl) rfl ?_ ?_
  rotate_left 2
  ·go_simp
   constructor
   ·rfl
   ·rfl
  have HOb14:=aM (HO_2.out.below (pA (Below.refl _ _) (.cells #[.slice A_13 n_13 c_13] 39)))
  refine hK.out _ _ ((HOb14.out.cell 2 rfl 0 rfl)) (fun hHeld=>?_)
  clear hK K
  refine nz_ 14 ?_
  refine oo_ 5 15 (fun K hK=>?_)
  refine Sep.own_append_row_step (Kd.int .i64) 3 HO_2.out 3 0 (by decide) _ (out) 39 rfl _ (([])++(list)) rfl (by rfl) (.tmp 10) (.tmp 14) 63 (.slice none 0 0) 24 rfl Try.underlying63 info39 rfl (by omega) rfl rfl (by have:=HU.out;simp only [Nat.pow_zero] at this;omega) ?_
  intro x_15 w_4 ho
  obtain ⟨A_15,n_15,c_15,hn_,rfl⟩:=ho.rows_seal 3 rfl;have HN_15:=aM hn_;clear hn_;have HO_4:=aM ho;clear ho
  refine hK.out _ _ ((HO_4.out.cell 2 rfl 0 rfl)) (fun hHeld=>?_)
  clear hK K
  refine nz_ 15 ?_
  refine last_ (i:=6) (N:=none) #[ti,ti,ti,ti,ti,ti,ti] rfl rfl (by kernel_rfl) (by decide) (fun K hK=>?_)
  have hbs:=HO_4.out.cell 2 rfl 0 rfl;have hbf:=HO_4.out.free 2 rfl 0
  refine skip_ (w1:=?_) (by rfl) rfl ?_ ?_
  rotate_left
  ·go_simp
   rfl
  have HO_5:=aM (HO_4.out.put1 2 rfl 0 (.slice A_15 n_15 c_15));clear hbs hbf
  refine hK.out _ _ ?_
  clear hK K
  refine done_ (by kernel_rfl) ?_
  go_wp2
  (try simp only [Exit.inBlock,Exit.then])
  refine bodyPost_ret (results_none rfl _ _ _) rfl ?_
  exact ⟨rfl,_,HO_5.out.tail⟩
 | succ d ih =>
  intro list out w vl vo F h hl ho
  obtain ⟨Al,cl,rfl⟩:=h.row_slice 0 rfl;obtain ⟨Ao,co,rfl⟩:=h.rows_slice 2 rfl;have HO:=aM h;have HL:=aM hl;have HU:=aM ho;clear h ho;have c0b:((list.length:Int) == (n:Int))=false:=beq_eq_false_iff_ne.mpr (by have:=HL.out;omega);have IH:=aM ih;clear ih
  go_enter Try.func117,Try.ntmps117
  have z_1:w.cell? ⟨gn,0,none⟩=some (.int .i64 ((n:Int))):=(HO.out.cell 3 rfl 0 rfl)
  go_wp2
  go_loopw [5] (fun v5 w' => ∃ (i:Int) (vo1:Value),0≤i∧i≤(n:Int)∧v5 = .int .i64 i∧Aside0 (Own w0 w' (impl_ordersOf.items gn go gx (.slice Al list.length cl) vo1 list (out++pmTo n d list i.toNat) n F))) (fun v5 _=>n - (intOf v5).toNat)
  case atStart=>exact ⟨0,_,Int.le_refl _,by omega,rfl,⟨by rw [show (0:Int).toNat=0 from rfl,pmTo_zero,List.append_nil];exact HO.out⟩⟩
  case round =>
   obtain ⟨i,vo1,hi0,hi1,rfl,HO1⟩:=hrel;clear HO;have HO:=HO1;clear HO1;obtain ⟨Ao1,co1,rfl⟩:=HO.out.rows_slice 2 rfl
   by_cases c1:i<(n:Int)
   ·have c1b:=decide_eq_true c1
    have hwi:wrap64 (i+1)=i+1:=by have:=hn;unfold wrap64;omega
    have HS:=aM (show Sep.pmTo n d list i.toNat++(if i∈list then [] else Sep.pm n d (list ++ [i]))=Sep.pmTo n d list (i+1).toNat from by rw [show (i+1).toNat=i.toNat+1 by omega,pmTo_succ,Int.toNat_of_nonneg hi0])
    by_cases c2:i∈list
    ·have c2b:=decide_eq_true c2
     have HS2:=HS.out;rw [if_pos c2,List.append_nil] at HS2;have HS3:=aM HS2;clear HS2 HS;have z_2:wr.cell? ⟨gn,0,none⟩=some (.int .i64 ((n:Int))):=(HO.out.cell 3 rfl 0 rfl)
     go_wp2_with (first | ((with_reducible refine gate_callee (f:=118) rfl ?_);refine goesL_ (some 23) rfl rfl Try.func118 (by kernel_rfl) rfl #[.slice Al list.length cl,.int .i64 i] rfl ze_ ?_;(with_reducible refine (slices_Contains_int_int.calls 100 Al cl (list) i _ wr (by exact (HO.out.row_reads 0 rfl).2.2) (by exact (HO.out.row_reads 0 rfl).2.1) (impl_ordersOf.has (list) i 100 (by have:=HL.out;omega))).mono ?_);rintro e w_1 ⟨rfl,hd⟩;refine ⟨_,rfl,?_⟩;have HO_1:=aM (HO.out.below hd.below);clear hd))
     go_roundw
     case measure=>simp only [intOf,hwi];omega
     case rel=>exact ⟨i+1,_,by omega,by omega,by first | rfl | rw [hwi],⟨by have ho:=HO_1.out;rw [HS3.out] at ho;exact ho⟩⟩
    ·have c2b:=decide_eq_false c2
     have HS2:=HS.out;rw [if_neg c2] at HS2;have HS3:=aM HS2;clear HS2 HS;have HS:=HS3;clear HS3;have HU2:=aM (show (out++Sep.pmTo n d list i.toNat).length+8 ^ d≤1000000000 from by have h1:=Sep.pmTo_length hn d list i.toNat;have h2:=HU.out;rw [Nat.pow_succ] at h2;have h3:(i.toNat+1) * 8 ^ d≤8 * 8 ^ d:=Nat.mul_le_mul_right _ (by omega);rw [Nat.add_mul,Nat.one_mul] at h3;rw [List.length_append];omega);have z_2:wr.cell? ⟨gn,0,none⟩=some (.int .i64 ((n:Int))):=(HO.out.cell 3 rfl 0 rfl)
     go_wp2_with (first | ((with_reducible refine gate_callee (f:=118) rfl ?_);refine goesL_ (some 23) rfl rfl Try.func118 (by kernel_rfl) rfl #[.slice Al list.length cl,.int .i64 i] rfl ze_ ?_;(with_reducible refine (slices_Contains_int_int.calls 100 Al cl (list) i _ wr (by exact (HO.out.row_reads 0 rfl).2.2) (by exact (HO.out.row_reads 0 rfl).2.1) (impl_ordersOf.has (list) i 100 (by have:=HL.out;omega))).mono ?_);rintro e w_1 ⟨rfl,hd⟩;refine ⟨_,rfl,?_⟩;have HO_1:=aM (HO.out.below hd.below);clear hd))
     have HD_6_2:=aM (HO_1.out.drew)
     refine start_ (n:=8) (S:=fun w'=>w'.cell? ⟨gx,0,none⟩=some (.func (.func 117) #[] #[.pointer (some ⟨gn,0,none⟩),.pointer (some ⟨go,0,none⟩),.pointer (some ⟨gx,0,none⟩)])) (ds:=[]) #[fi,fi,fi,fi,fi,fi,fi,fi] (by kernel_rfl) rfl rfl ((HD_6_2.out.cell 4 rfl 0 rfl)) (fun hHeld=>?_)
     generalize w_1.drew=wd_6_3 at HD_6_2 hHeld ⊢
     refine oz_ 2 27 ?_
     refine oz_ 4 29 ?_
     refine tz1_ 0 25 hHeld ?_
     refine join_ (σ:=Value×Value×Value) 2 #[ti,ti,ti,ti,ti,ti,fi,fi] (fun s => [(26,s.1),(28,s.2.1),(30,s.2.2)]) (fun s w'=>(w'.cell? ⟨gx,0,none⟩=some (.func (.func 117) #[] #[.pointer (some ⟨gn,0,none⟩),.pointer (some ⟨go,0,none⟩),.pointer (some ⟨gx,0,none⟩)]))∧Own w0 w' (Item.row (Kd.int .i64) 3 (s.2.2) ([i]) :: Item.row (Kd.int .i64) 3 (s.2.1) (([])++(list)) :: Item.row (Kd.int .i64) 3 (.slice Al list.length cl) (list) :: Item.box go 63 #[.slice Ao1 ((out++Sep.pmTo n d list i.toNat).length) co1] :: Item.rows (Kd.slice 3 (Kd.int .i64)) 39 (.slice Ao1 ((out++Sep.pmTo n d list i.toNat).length) co1) (out++Sep.pmTo n d list i.toNat) :: Item.box gn 3 #[.int .i64 ((n:Int))] :: Item.box gx 113 #[.func (.func 117) #[] #[.pointer (some ⟨gn,0,none⟩),.pointer (some ⟨go,0,none⟩),.pointer (some ⟨gx,0,none⟩)]] :: F)) ?_ ?_
     rotate_left
     ·intro hCont
      refine two_ (i:=1) (j:=5) (Ni:=some 26) (Nj:=some 30) #[ti,ti,ti,fi,ti,fi,fi,fi] #[ti,fi,ti,fi,ti,ti,fi,fi] rfl rfl rfl rfl (by kernel_rfl) (by decide) (by decide) (fun K hK=>?_) (fun K hK=>?_)
      ·skip
       refine Sep.own_lit0_step (Kd.int .i64) HD_6_2.out 3 (by rfl) (N:=26) rfl za_ ?_
       intro x_26 w_2 ho _
       have HO_2:=aM ho;clear ho
       refine hK.out _ _ ((HO_2.out.cell 5 rfl 0 rfl)) (fun hHeld=>?_)
       clear hK K
       refine nz_ 26 ?_
       refine two_ (i:=3) (j:=5) (Ni:=some 28) (Nj:=some 30) #[ti,ti,ti,ti,ti,fi,fi,fi] #[ti,ti,ti,fi,ti,ti,fi,fi] rfl rfl rfl rfl (by kernel_rfl) (by decide) (by decide) (fun K hK=>?_) (fun K hK=>?_)
       ·skip
        refine Sep.own_append_all_step (Value.int .i64) (0:Int) HO_2.out 0 _ ([]) 3 rfl (by rfl) (.tmp 26) (.tmp 27) 39 (.int .i64 0) 8 rfl Try.underlying39 info3 rfl (by omega) (list) Al list.length cl rfl rfl (HO_2.out.row_reads 1 rfl).2.2 zfd_ ?_
        intro x_28 w_3 ho
        have HO_3:=aM ho;clear ho
        refine hK.out _ _ ((HO_3.out.cell 5 rfl 0 rfl)) (fun hHeld=>?_)
        clear hK K
        refine nz_ 28 ?_
        refine oo_ 5 30 (fun K hK=>?_)
        refine Sep.own_lit1_step (Value.int .i64) (h1:=fun _=>rfl) HO_3.out 3 i (by rfl) (N:=30) rfl za_ ?_
        intro x_30 w_4 ho _
        have HO_4:=aM ho;clear ho
        refine hK.out _ _ ((HO_4.out.cell 6 rfl 0 rfl)) (fun hHeld=>?_)
        clear hK K
        refine nz_ 30 ?_
        exact norm_ (by simp only [putAll,Act.put,sI,s0,sS]) (hCont (x_26,x_28,x_30) _ ⟨(HO_4.out.cell 6 rfl 0 rfl),(((((((HO_4.out.front 6 rfl).front 6 rfl).front 6 rfl).front 6 rfl).front 6 rfl).front 6 rfl).front 6 rfl)⟩)
       ·skip
        refine Sep.own_lit1_step (Value.int .i64) (h1:=fun _=>rfl) HO_2.out 3 i (by rfl) (N:=30) rfl za_ ?_
        intro x_30 w_3 ho _
        have HO_3:=aM ho;clear ho
        refine hK.out _ _ ((HO_3.out.cell 6 rfl 0 rfl)) (fun hHeld=>?_)
        clear hK K
        refine nz_ 30 ?_
        refine oo_ 3 28 (fun K hK=>?_)
        refine Sep.own_append_all_step (Value.int .i64) (0:Int) HO_3.out 1 _ ([]) 3 rfl (by rfl) (.tmp 26) (.tmp 27) 39 (.int .i64 0) 8 rfl Try.underlying39 info3 rfl (by omega) (list) Al list.length cl rfl rfl (HO_3.out.row_reads 2 rfl).2.2 zfd_ ?_
        intro x_28 w_4 ho
        have HO_4:=aM ho;clear ho
        refine hK.out _ _ ((HO_4.out.cell 6 rfl 0 rfl)) (fun hHeld=>?_)
        clear hK K
        refine nz_ 28 ?_
        exact norm_ (by simp only [putAll,Act.put,sI,s0,sS]) (hCont (x_26,x_28,x_30) _ ⟨(HO_4.out.cell 6 rfl 0 rfl),(((((((HO_4.out.front 6 rfl).front 6 rfl).front 6 rfl).front 6 rfl).front 6 rfl).front 6 rfl).front 6 rfl)⟩)
      ·skip
       refine Sep.own_lit1_step (Value.int .i64) (h1:=fun _=>rfl) HD_6_2.out 3 i (by rfl) (N:=30) rfl za_ ?_
       intro x_30 w_2 ho _
       have HO_2:=aM ho;clear ho
       refine hK.out _ _ ((HO_2.out.cell 5 rfl 0 rfl)) (fun hHeld=>?_)
       clear hK K
       refine nz_ 30 ?_
       refine oo_ 1 26 (fun K hK=>?_)
       refine Sep.own_lit0_step (Kd.int .i64) HO_2.out 3 (by rfl) (N:=26) rfl za_ ?_
       intro x_26 w_3 ho _
       have HO_3:=aM ho;clear ho
       refine hK.out _ _ ((HO_3.out.cell 6 rfl 0 rfl)) (fun hHeld=>?_)
       clear hK K
       refine nz_ 26 ?_
       refine oo_ 3 28 (fun K hK=>?_)
       refine Sep.own_append_all_step (Value.int .i64) (0:Int) HO_3.out 0 _ ([]) 3 rfl (by rfl) (.tmp 26) (.tmp 27) 39 (.int .i64 0) 8 rfl Try.underlying39 info3 rfl (by omega) (list) Al list.length cl rfl rfl (HO_3.out.row_reads 2 rfl).2.2 zfd_ ?_
       intro x_28 w_4 ho
       have HO_4:=aM ho;clear ho
       refine hK.out _ _ ((HO_4.out.cell 6 rfl 0 rfl)) (fun hHeld=>?_)
       clear hK K
       refine nz_ 28 ?_
       exact norm_ (by simp only [putAll,Act.put,sI,s0,sS]) (hCont (x_26,x_28,x_30) _ ⟨(HO_4.out.cell 6 rfl 0 rfl),(((((((HO_4.out.front 6 rfl).front 6 rfl).front 6 rfl).front 6 rfl).front 6 rfl).front 5 rfl).front 6 rfl)⟩)
     rintro ⟨x_26,x_28,x_30⟩ wj_4 ⟨hHeld,ho⟩
     obtain ⟨A_30,c_30,rfl⟩:=ho.row_slice 0 rfl;have HOJ_4:=aM ho;clear ho
     refine norm_ (a':=?_) ?_ ?_
     rotate_left
     ·simp only [putAll,Act.put,sI,s0,sS]
      rfl
     refine oo_ 6 31 (fun K hK=>?_)
     refine Sep.own_append_all_step (Value.int .i64) (0:Int) HOJ_4.out 1 _ (([])++(list)) 3 rfl (by rfl) (.tmp 28) (.tmp 30) 39 (.int .i64 0) 8 rfl Try.underlying39 info3 rfl (by omega) ([i]) A_30 1 c_30 rfl rfl (HOJ_4.out.row_reads 0 rfl).2.2 zfd_ ?_
     intro x_31 w_55 ho
     obtain ⟨A_31,n_31,c_31,hn_,rfl⟩:=ho.row_seal 1 rfl;have HN_31:=aM hn_;clear hn_;have HO_55:=aM ho;clear ho
     refine hK.out _ _ ((HO_55.out.cell 6 rfl 0 rfl)) (fun hHeld=>?_)
     clear hK K
     refine nz_ 31 ?_
     refine oo_ 7 32 (fun K hK=>?_)
     refine Sep.goesC_ (f:=117) Try.func117 (by kernel_rfl) rfl #[.slice A_31 n_31 c_31,.pointer (some ⟨gn,0,none⟩),.pointer (some ⟨go,0,none⟩),.pointer (some ⟨gx,0,none⟩)] (by rfl) rfl rfl rfl ze_ ?_
     refine (IH.out (list ++ [i]) (out++Sep.pmTo n d list i.toNat) _ _ _ (Item.row (Kd.int .i64) 3 (.slice A_30 1 c_30) ([i]) :: Item.row (Kd.int .i64) 3 (.slice Al list.length cl) (list) :: F) (((((HO_55.out.front 6 rfl).front 6 rfl).front 6 rfl).front 6 rfl).front 5 rfl) zfd_ HU2.out).mono ?_
     rintro e w_56 ⟨rfl,vo2,ho⟩
     refine ⟨_,rfl,?_⟩
     rw [show out++Sep.pmTo n d list i.toNat++Sep.pm n d (list ++ [i])=out++Sep.pmTo n d list (i+1).toNat by rw [List.append_assoc,HS.out]] at ho;have HO_56:=aM ho;clear ho
     refine hK.out _ _ ((HO_56.out.cell 4 rfl 0 rfl)) (fun hHeld=>?_)
     clear hK K
     refine nz_ 32 ?_
     refine done_ (by kernel_rfl) ?_
     go_wp2
     go_roundw
     case measure=>simp only [intOf,hwi];omega
     case rel=>exact ⟨i+1,_,by omega,by omega,by first | rfl | rw [hwi],⟨(((((((HO_56.out.front 4 rfl).front 4 rfl).front 4 rfl).front 4 rfl).front 6 rfl).front 6 rfl).front 6 rfl).tail.tail⟩⟩
   ·have c1b:=decide_eq_false c1
    obtain rfl:i=(n:Int):=by omega
    have ho:=HO.out;rw [Int.toNat_natCast] at ho;have HO1:=aM ho;clear ho;have z_2:wr.cell? ⟨gn,0,none⟩=some (.int .i64 ((n:Int))):=(HO.out.cell 3 rfl 0 rfl)
    go_wp2
    go_end0
    exact ⟨rfl,_,HO1.out⟩
open Go.Proofs.Ytlnhpkjioppbiaa.Sep in
theorem impl_ordersOf.calls (k:Nat) (a0:Int) (r:List (List Int)) (w:World) (h:impl_ordersOf.f k a0=some r) :
  Calls Try.prog 74 #[.int .i64 a0] w fun e w' => ∃ v0_:Value,e = .returned (v0_)∧Kd.S (Kd.slice 3 (Kd.int .i64)) 39 w' w.heap.size (fun _=>True) v0_ r∧Below w.heap.size w w':=by
 unfold impl_ordersOf.f at h
 split at h
 ·split at h
  ·split at h
   ·rename_i h0 h1 h2
    obtain ⟨n,rfl⟩:=Int.eq_ofNat_of_zero_le h0;obtain rfl:=Option.some.inj h;have hn:n≤8:=by omega
    rw [Int.toNat_natCast];clear h h0 h1 h2
    go_enter Try.func74,Try.ntmps74
    go_wp2_with (first | ((with_reducible refine gate_dst (N:=1) rfl ?_);refine box_event ?hg (N:=1) ?hd (cs:=#[.int .i64 ((n:Int))]) (t:=3) ?hr ?_;(case hd=>rfl);(case hg=>rfl);(case hr=>exact za_);intro gn hg w_1 hbox hb;have HO_1:=aM ((Sep.Own.nil w).add_box (T:=3) (cs:=#[.int .i64 ((n:Int))]) hg hbox hb);clear hg hbox hb)|((with_reducible refine gate_dst (N:=5) rfl ?_);refine Sep.own_lits0 (Kd.slice 3 (Kd.int .i64)) HO_1.out 39 ?hg (N:=5) ?hd ?hr ?_;(case hd=>rfl);(case hg=>rfl);(case hr=>exact za_);intro x_5 w_2 ho _;obtain ⟨A_5,n_5,c_5,hn_,rfl⟩:=ho.rows_seal 0 rfl;have HN_5:=aM hn_;clear hn_;have HO_2:=aM ho;clear ho)|((with_reducible refine gate_dst (N:=3) rfl ?_);refine box_event ?hg (N:=3) ?hd (cs:=#[.slice none 0 0]) (t:=63) ?hr ?_;(case hd=>rfl);(case hg=>rfl);(case hr=>exact za_);intro go hg w_3 hbox hb;have HO_3:=aM (HO_2.out.add_box (T:=63) (cs:=#[.slice none 0 0]) hg hbox hb);clear hg hbox hb)|((with_reducible refine gate_store (t:=63) (p:=3) (v := .tmp 5) rfl ?_);refine Sep.own_store HO_3.out 0 go 63 _ #[.slice A_5 n_5 c_5] rfl rfl rfl 63 (.tmp 3) (.tmp 5) rfl rfl (.slice A_5 n_5 c_5) rfl rfl rfl (by kernel_rfl) (by simp [Value.oneCell']) ?_;intro w_4 ho;have HO_4:=aM ho;clear ho)|((with_reducible refine gate_dst (N:=4) rfl ?_);refine box_event ?hg (N:=4) ?hd (cs:=#[.nilFunc]) (t:=113) ?hr ?_;(case hd=>rfl);(case hg=>rfl);(case hr=>exact za_);intro gx hg w_5 hbox hb;have HO_5:=aM (HO_4.out.add_box (T:=113) (cs:=#[.nilFunc]) hg hbox hb);clear hg hbox hb)|((with_reducible refine gate_store (t:=113) (p:=4) (v := .tmp 6) rfl ?_);refine Sep.own_store HO_5.out 0 gx 113 _ #[.func (.func 117) #[] #[.pointer (some ⟨gn,0,none⟩),.pointer (some ⟨go,0,none⟩),.pointer (some ⟨gx,0,none⟩)]] rfl rfl rfl 113 (.tmp 4) (.tmp 6) rfl rfl (.func (.func 117) #[] #[.pointer (some ⟨gn,0,none⟩),.pointer (some ⟨go,0,none⟩),.pointer (some ⟨gx,0,none⟩)]) rfl rfl rfl (by kernel_rfl) (by simp [Value.oneCell']) ?_;intro w_6 ho;have HO_6:=aM ho;clear ho;have z_1:w_6.cell? ⟨gx,0,none⟩=some (.func (.func 117) #[] #[.pointer (some ⟨gn,0,none⟩),.pointer (some ⟨go,0,none⟩),.pointer (some ⟨gx,0,none⟩)]):=(HO_6.out.cell 0 rfl 0 rfl))|((with_reducible refine gate_dst (N:=8) rfl ?_);refine Sep.goesCL_ (some 8) rfl rfl (f:=117) (fn:=Try.f117) Try.func117 (by kernel_rfl) rfl #[.slice none 0 0,.pointer (some ⟨gn,0,none⟩),.pointer (some ⟨go,0,none⟩),.pointer (some ⟨gx,0,none⟩)] rfl rfl ze_ ?_;refine (impl_ordersOf.ext n hn w gn go gx n [] [] _ _ _ [] ((((((HO_6.out.nilrow (Kd.int .i64) 3).front 1 rfl).front 4 rfl).front 4 rfl).front 4 rfl).front 4 rfl) (by simp) (by have:=Nat.pow_le_pow_right (show 0<8 by decide) hn;simp at this ⊢;omega)).mono ?_;rintro e w_7 ⟨rfl,vo2,ho⟩;refine ⟨_,rfl,?_⟩;have HO_7:=aM ho;clear ho;have z_2:w_7.cell? ⟨go,0,none⟩=some (vo2):=(HO_7.out.cell 1 rfl 0 rfl)))
    go_ret
    obtain ⟨P_,hP⟩:=HO_7.out.get 2 rfl
    exact ⟨_,rfl,Kd.S_mono hP (fun _ _=>trivial),HO_7.out.base⟩
   ·cases h
  ·cases h
 ·cases h
end Go.Proofs.Ytlnhpkjioppbiaa.QFnDiagramOrders
