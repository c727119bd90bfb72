/- Functions of FnDiagrams, each as a Lean function, with the proof that the Go code comes to its answers. -/
import Derived.Test.YtlnhpkjioppbiaaDoorSFnDiagramsx2
import Derived.Test.YtlnhpkjioppbiaaDoorSFnDiagramsx5
namespace Go.Proofs.YtlnhpkjioppbiaaDoor.QFnDiagrams
open Go.RowKit Go.Proofs.YtlnhpkjioppbiaaDoorW.PrintWords Go.Proofs.YtlnhpkjioppbiaaDoorW.PrintLast Go.Proofs.YtlnhpkjioppbiaaDoorW.PrintMore
open Go.Proofs.YtlnhpkjioppbiaaDoorW.PrintWords renaming pw_below_drewN→pN,below_drew1→p1,below_alloc→pA
open Go.Proofs.YtlnhpkjioppbiaaDoorW.PrintWords.Kd renaming R_alloc→kA,R_drewN→kN,R_drew→kD,Q_alloc→qA,Q_drewN→qN,Q_drew→qD,C_alloc→cA,C_drewN→cN,C_drew→cD
open Go.Proofs.YtlnhpkjioppbiaaDoorW.PrintWords.Aside0 renaming mk→aM
open List renaming setIfInBounds_toArray→sI,set_cons_zero→s0,set_cons_succ→sS,map_toArray→mT,length_take→lT,length_drop→lD,map_cons→mC,map_nil→mN
open Option renaming bind_eq_some_iff→oB
attribute [local go_sem] max2_int min2_int max_two min_two max_three min_three max_four min_four
set_option maxHeartbeats 8000000
set_option maxRecDepth 100000
set_option linter.unusedVariables false
set_option linter.unusedSimpArgs false
theorem dg_in {w0 w:World} {g:Nat} {vS:Value} {code:List Int} {at_ mix:Int} {L:List Sep.Item} (h:Sep.Own w0 w L) (i:Nat) (hi:L[i]?=some (Sep.Item.box g 66 #[vS,.int .i64 at_,.int .u64 mix])) (hS:∃ A c,vS = .slice A code.length c∧Kd.C (Kd.int .u8) w0 A code.length code):IsS66 w0 w g code at_ mix:=by
 obtain ⟨A,c,rfl,hC⟩:=hS
 obtain ⟨P,h1⟩:=h.get i hi
 exact ⟨A,c,h1.2.2,h1.2.1,hC⟩
theorem dg_out {w0 w w1:World} {g:Nat} {cs:Array Value} {code:List Int} {at_ mix:Int} {L:List Sep.Item} (h:Sep.Own w0 w L) (i:Nat) (hi:L[i]?=some (Sep.Item.box g 66 cs)) (hI:IsS66 w0 w1 g code at_ mix) (hB:Below w0.heap.size w0 w1) (hK:KeepBut w w1 g none) :
  ∃ vS:Value,(∃ A c,vS = .slice A code.length c∧Kd.C (Kd.int .u8) w0 A code.length code)∧Sep.Own w0 w1 (L.set i (Sep.Item.box g 66 #[vS,.int .i64 at_,.int .u64 mix])):=by
 obtain ⟨A,c,hb,hg,hC⟩:=hI
 exact ⟨_,⟨A,c,rfl,hC⟩,h.put i hi ⟨hB.os.trans h.base.os.symm,hB.tape.trans h.base.tape.symm,hB.output.trans h.base.output.symm,hK.1,fun k hk hn=>hK.2 k hk hn (by simp)⟩ hb⟩
def dgLen:Value→Nat
 | .slice _ m _=>m
 | _=>0
theorem dg_out2 {α β:Type} {d1:Kd α} {d2:Kd β} {e1 e2:Nat} {v1 v2:Value} {xs1:List α} {xs2:List β} {w0 w w1:World} {g:Nat} {cs:Array Value} {code:List Int} {at_ mix:Int} {L:List Sep.Item} (h:Sep.Own w0 w L) (i:Nat) (hi:L[i]?=some (Sep.Item.box g 66 cs)) (hI:IsS66 w0 w1 g code at_ mix) (hB:Below w0.heap.size w0 w1) (hK:KeepBut w w1 g none)
  (h1:d1.R e1 w1 w.heap.size (fun _=>True) v1 xs1) (h2:d2.R e2 w1 w.heap.size (fun _=>True) v2 xs2) (hne:∀ q,q∈e1 :: d1.E→q∈e2 :: d2.E→False) :
  ∃ vS:Value,(∃ A c,vS = .slice A code.length c∧Kd.C (Kd.int .u8) w0 A code.length code)∧Sep.Own w0 w1 (Sep.Item.row d1 e1 v1 xs1 :: Sep.Item.row d2 e2 v2 xs2 :: L.set i (Sep.Item.box g 66 #[vS,.int .i64 at_,.int .u64 mix])):=by
 obtain ⟨A,c,hb,hg,hC⟩:=hI
 refine ⟨.slice A code.length c,⟨A,c,rfl,hC⟩,hB,?_⟩
 obtain ⟨hB0,f,hf⟩:=h
 classical
 refine ⟨fun k=>if k<w.heap.size then f k+2 else if ∃ q cells,q∈e1 :: d1.E∧w1.heap[k]?=some (.cells cells q (0,0)) then 0 else 1,fun j it hj=>?_⟩
 match j with
 | 0 =>
  obtain rfl:Sep.Item.row d1 e1 v1 xs1=it:=by simpa using hj
  refine Kd.R_mono (Kd.R_lower (Kd.R_mono (Kd.R_bound h1) (fun k hk=>?_)) hB0.size) (fun _ hk=>hk)
  obtain ⟨_,hk0,_,q,hq,cells,hc⟩:=hk
  dsimp only
  rw [if_neg (by omega),if_pos ⟨q,cells,hq,hc⟩]
 | 1 =>
  obtain rfl:Sep.Item.row d2 e2 v2 xs2=it:=by simpa using hj
  refine Kd.R_mono (Kd.R_lower (Kd.R_mono (Kd.R_bound h2) (fun k hk=>?_)) hB0.size) (fun _ hk=>hk)
  obtain ⟨_,hk0,_,q,hq,cells,hc⟩:=hk
  dsimp only
  rw [if_neg (by omega),if_neg]
  rintro ⟨q',cells',hq',hc'⟩
  rw [hc] at hc'
  injection hc' with hc'
  injection hc' with _ hc'
  subst hc'
  exact hne _ hq' hq
 | j+2 =>
  rw [List.getElem?_cons_succ,List.getElem?_cons_succ,List.getElem?_set] at hj;have hgi:=(hf i _ hi).1;have hgs:g<w.heap.size:=blk_lt (hf i _ hi).2.2
  split at hj
  ·rename_i hij
   subst hij
   split at hj
   ·injection hj with hj
    subst hj
    exact ⟨by dsimp only;rw [if_pos hgs,hgi],hg,hb⟩
   ·cases hj
  ·rename_i hij
   have h0:=it.bound (hf j it hj)
   refine it.mono (fun k hk=>?_) (it.step h0 (fun k hk hs=>hK.2 k hs (fun e=>?_) (by simp)))
   ·dsimp only
    rw [if_pos hk.2.2,hk.1]
   ·subst e
    exact hij (hgi.symm.trans hk.1)
theorem dg_outR {β:Type} {d:Kd β} {e:Nat} {v:Value} {xs:List β} {w0 w w1:World} {g:Nat} {cs:Array Value} {code:List Int} {at_ mix:Int} {L:List Sep.Item} (h:Sep.Own w0 w L) (i:Nat) (hi:L[i]?=some (Sep.Item.box g 66 cs)) (hI:IsS66 w0 w1 g code at_ mix) (hB:Below w0.heap.size w0 w1) (hK:KeepBut w w1 g none)
  (h1:d.R e w1 w.heap.size (fun _=>True) v xs) :
  ∃ vS:Value,(∃ A c,vS = .slice A code.length c∧Kd.C (Kd.int .u8) w0 A code.length code)∧Sep.Own w0 w1 (Sep.Item.row d e v xs :: L.set i (Sep.Item.box g 66 #[vS,.int .i64 at_,.int .u64 mix])):=by
 obtain ⟨A,c,hb,hg,hC⟩:=hI
 refine ⟨.slice A code.length c,⟨A,c,rfl,hC⟩,hB,?_⟩
 obtain ⟨hB0,f,hf⟩:=h
 refine ⟨fun k=>if k<w.heap.size then f k+1 else 0,fun j it hj=>?_⟩
 match j with
 | 0 =>
  obtain rfl:Sep.Item.row d e v xs=it:=by simpa using hj
  refine Kd.R_mono (Kd.R_lower (Kd.R_mono (Kd.R_bound h1) (fun k hk=>?_)) hB0.size) (fun _ hk=>hk)
  obtain ⟨_,hk0,_⟩:=hk
  dsimp only
  rw [if_neg (by omega)]
 | j+1 =>
  rw [List.getElem?_cons_succ,List.getElem?_set] at hj;have hgi:=(hf i _ hi).1;have hgs:g<w.heap.size:=blk_lt (hf i _ hi).2.2
  split at hj
  ·rename_i hij
   subst hij
   split at hj
   ·injection hj with hj
    subst hj
    exact ⟨by dsimp only;rw [if_pos hgs,hgi],hg,hb⟩
   ·cases hj
  ·rename_i hij
   have h0:=it.bound (hf j it hj)
   refine it.mono (fun k hk=>?_) (it.step h0 (fun k hk hs=>hK.2 k hs (fun e=>?_) (by simp)))
   ·dsimp only
    rw [if_pos hk.2.2,hk.1]
   ·subst e
    exact hij (hgi.symm.trans hk.1)
theorem dg_cell {w0 w:World} {L:List Sep.Item} (h:Sep.Own w0 w L) (i:Nat) {g n cap e:Nat} {xs:List S70} (hi:L[i]?=some (Sep.Item.row k70 e (.slice (some ⟨g,0,none⟩) n cap) xs)) (hq:0<xs.length) :
  w.cell? ⟨g,0,none⟩=some (.int .i64 (rd_T70 xs 0).f0)∧w.cell? ⟨g,1,none⟩=some (.int .i64 (rd_T70 xs 0).f1)∧w.cell? ⟨g,2,none⟩=some (.int .i64 (rd_T70 xs 0).f2):=by
 obtain ⟨c,hK,hc⟩:=h.seg_cells i hi z70 0 (by decide) (by omega)
 obtain rfl:=k70_open hK
 simp only [Int.toNat_zero,Nat.zero_mul,Nat.zero_add] at hc
 exact ⟨hc 0 _ rfl,hc 1 _ rfl,hc 2 _ rfl⟩
def dgN (code:List Int) (inp n:Int) (l:List S70) (a m:Int):Option (List S70×Int×Int):=
 if 0<n then ((spec_l1Cur_pick.f code a m n).bind fun q=>if 0≤q.1∧q.1<n then ((spec_l1Cur_pick.f code q.2.1 q.2.2 24).bind fun sw =>
  if sw.1=0 then ((spec_l1Cur_among.f code sw.2.1 sw.2.2 [-1,0,1,inp]).bind fun z=>some (l.set q.1.toNat ⟨z.1,(rd_T70 l q.1).f1,(rd_T70 l q.1).f2⟩,z.2.1,z.2.2))
  else (if sw.1=1 then ((spec_l1Cur_among.f code sw.2.1 sw.2.2 [-1,0,1,n,wrap64 (n+2)]).bind fun z=>some (l.set q.1.toNat ⟨(rd_T70 l q.1).f0,z.1,(rd_T70 l q.1).f2⟩,z.2.1,z.2.2))
  else (if sw.1=2 then ((spec_l1Cur_among.f code sw.2.1 sw.2.2 [-1,0,1,n,wrap64 (n+2)]).bind fun z=>some (l.set q.1.toNat ⟨(rd_T70 l q.1).f0,(rd_T70 l q.1).f1,z.1⟩,z.2.1,z.2.2))
  else (if sw.1=3 then (if l.length≤1000 then some (l ++ [(⟨(rd_T70 l 0).f0,(rd_T70 l 0).f1,(rd_T70 l 0).f2⟩:S70)],sw.2.1,sw.2.2) else none)
  else some (l,sw.2.1,sw.2.2))))) else none) else some (l,a,m)
def dgE (code:List Int) (inp root:Int) (l:List S70) (a m:Int):Option (Int×List S70×Int×Int×Int):=
 (spec_l1Cur_pick.f code a m 30).bind fun sw =>
  if sw.1=0 then ((spec_l1Cur_among.f code sw.2.1 sw.2.2 [-1,0,1,wrap64 ((l.length:Int)+2)]).bind fun z=>some (inp,l,z.1,z.2.1,z.2.2))
  else (if sw.1=1 then ((spec_l1Cur_among.f code sw.2.1 sw.2.2 [-1,0,wrap64 (inp+1),5]).bind fun z=>some (z.1,l,root,z.2.1,z.2.2))
  else (if sw.1=2 then ((spec_l1Cur_pick.f code sw.2.1 sw.2.2 2).bind fun z=>if wrap64 (40+z.1)≤1000∧l.length≤1000 then some (inp,l++List.replicate ((wrap64 (40+z.1)).toNat - l.length) (⟨0,0,1⟩:S70),root,z.2.1,z.2.2) else none)
  else some (inp,l,root,sw.2.1,sw.2.2)))
def spec_l1Cur_diagram.f (k:Nat) (s0_0:List Int) (s0_1:Int) (s0_2:Int):Option (Int×List S70×Int×Int×Int):=
 (spec_l1Cur_table.f k s0_0 s0_1 s0_2).bind fun t=>(spec_ddMake.f k t.1 t.2.1).bind fun d=>(dgN s0_0 d.1 (d.2.1.length:Int) d.2.1 t.2.2.1 t.2.2.2).bind fun g=>dgE s0_0 d.1 d.2.2 g.1 g.2.1 g.2.2
open Go.Proofs.YtlnhpkjioppbiaaDoor.Sep in
set_option maxHeartbeats 32000000 in
set_option maxRecDepth 100000 in
theorem spec_l1Cur_diagram.calls (k:Nat) (g:Nat) (s0_0:List Int) (s0_1:Int) (s0_2:Int) (r1:Int) (r2:List S70) (r3:Int) (r4:Int) (r5:Int) (w0 w:World) (hI:IsS66 w0 w g s0_0 s0_1 s0_2) (hB:Below w0.heap.size w0 w) (h:spec_l1Cur_diagram.f k s0_0 s0_1 s0_2=some (r1,r2,r3,r4,r5)) :
  Calls Tryd.prog 58 #[.pointer (some ⟨g,0,none⟩)] w fun e w' => ∃ v1_:Value,e = .returned (.agg #[.int .i64 r1,v1_,.int .i64 r3])∧Kd.R k70 70 w' w.heap.size (fun _=>True) v1_ r2∧IsS66 w0 w' g s0_0 r4 r5∧Below w0.heap.size w0 w'∧KeepBut w w' g none:=by
 obtain ⟨A0,c0,hbx,hge,hC⟩:=hI
 have HG:=aM (blk_lt hbx)
 have HGE:=aM hge
 obtain ⟨vS_0,hS,ho⟩:∃ vS:Value,(∃ A c,vS = .slice A s0_0.length c∧Kd.C (Kd.int .u8) w0 A s0_0.length s0_0)∧Own w0 w [Sep.Item.box g 66 #[vS,.int .i64 s0_1,.int .u64 s0_2],Sep.Item.kept w g]:=⟨_,⟨A0,c0,rfl,hC⟩,Sep.own_start hB hge hbx⟩
 have HS_0:=aM hS
 have HO:=aM ho
 have HBW:=aM hB
 clear hS ho hB hbx hge hC
 unfold spec_l1Cur_diagram.f at h
 obtain ⟨⟨tin,t9,a9,m9⟩,e9,h_⟩:=oB.mp h
 clear h
 have h:=h_
 clear h_
 have HP9:=aM e9
 clear e9
 dsimp only at h
 obtain ⟨⟨inp,l9,root⟩,e9,h_⟩:=oB.mp h
 clear h
 have h:=h_
 clear h_
 have HPD:=aM e9
 clear e9
 dsimp only at h
 obtain ⟨⟨q200,a200,m200⟩,e200,h_⟩:=oB.mp h
 clear h
 have h:=h_
 clear h_
 have HP200:=aM e200
 clear e200
 dsimp only at h
 have HE:=aM h
 clear h
 go_enter Tryd.func58,Tryd.ntmps58
 go_upto_if 14 with (first | ((with_reducible refine gate_dst (N:=2) rfl ?_);refine box_event ?hg (N:=2) ?hd (cs:=#[.int .i64 0,.slice none 0 0,.int .i64 0]) (t:=30) ?hr ?_;(case hd=>rfl);(case hg=>rfl);(case hr=>exact zb_);intro g2 hg w_1 hbox hb;have HO_1:=aM (HO.out.add_box (T:=30) (cs:=#[.int .i64 0,.slice none 0 0,.int .i64 0]) hg hbox hb);clear hg hbox hb)|((with_reducible refine gate_callee (f:=78) rfl ?_);refine goesL_ (some 8) rfl rfl Tryd.func78 (by kernel_rfl) rfl #[.pointer (some ⟨g,0,none⟩)] rfl zbc_ ?_;(refine (spec_l1Cur_table.calls k g s0_0 s0_1 s0_2 tin t9 a9 m9 w0 _ (dg_in HO_1.out 1 rfl HS_0.out) HO_1.out.base HP9.out).mono ?_);rintro e w_2 ⟨vl,rfl,hL,hI,hB,hK⟩;refine ⟨_,rfl,?_⟩;obtain ⟨vS_9,hS,ho⟩:=dg_outR HO_1.out 1 rfl hI hB hK hL;have HS_9:=aM hS;obtain ⟨At_,mt_,ct_,hm1,rfl⟩:=ho.row_seal 0 rfl;have HMT:=aM hm1;have HO_2:=aM ho;clear hI hB hK hS ho hL hm1)|((with_reducible refine gate_callee (f:=51) rfl ?_);refine goesL_ (some 9) rfl rfl Tryd.func51 (by kernel_rfl) rfl #[.agg #[.int .i64 tin,.slice At_ mt_ ct_]] rfl zbc_ ?_;have ht_:=HO_2.out;have hmt_:=HMT.out;subst hmt_;(refine (spec_ddMake.calls k tin _ _ t9 inp l9 root _ (ht_.row_reads 0 rfl).2.2 (ht_.row_reads 0 rfl).2.1 HPD.out).mono ?_);rintro e w_3 ⟨vl,rfl,hL,hb⟩;refine ⟨_,rfl,?_⟩;have ho:=ht_.add_row hL hb;obtain ⟨Ag_,mg_,cg_,hm1,rfl⟩:=ho.row_seal 0 rfl;have HMG:=aM hm1;have HO_3:=aM ho;clear ht_ hb ho hL hm1)|((with_reducible refine gate_dst (N:=3) rfl ?_);refine box_event ?hg (N:=3) ?hd (cs:=#[.int .i64 0,.slice none 0 0,.int .i64 0]) (t:=30) ?hr ?_;(case hd=>rfl);(case hg=>rfl);(case hr=>exact zb_);intro g3 hg w_4 hbox hb;have HO_4:=aM (HO_3.out.add_box (T:=30) (cs:=#[.int .i64 0,.slice none 0 0,.int .i64 0]) hg hbox hb);clear hg hbox hb)|((with_reducible refine gate_store (t:=30) (p:=3) (v := .tmp 9) rfl ?_);refine Sep.own_store HO_4.out 0 g3 30 _ #[.int .i64 inp,.slice Ag_ mg_ cg_,.int .i64 root] rfl rfl rfl 30 (.tmp 3) (.tmp 9) rfl rfl _ rfl rfl rfl (by kernel_rfl) (by simp [Value.oneCell']) ?_;intro w_5 ho;have HO_5:=aM ho;clear ho;have z_1:w_5.cell? ⟨g3,1,none⟩=some (.slice Ag_ mg_ cg_):=(HO_5.out.cell 0 rfl 1 rfl)))
 go_cut [] (fun wc => ∃ (vS_:Value) (Ag_:Option Addr) (mg_ cg_:Nat),Aside0 (mg_=q200.length)∧Aside0 (∃ A c,vS_ = .slice A s0_0.length c∧Kd.C (Kd.int .u8) w0 A s0_0.length s0_0)∧Aside0 (Own w0 wc (Item.row k70 70 (.slice Ag_ mg_ cg_) (q200) :: Item.box g 66 #[vS_,.int .i64 a200,.int .u64 m200] :: Item.box g3 30 #[.int .i64 inp,.slice Ag_ mg_ cg_,.int .i64 root] :: Item.box g2 30 #[.int .i64 0,.slice none 0 0,.int .i64 0] :: [Sep.Item.kept w g])))
 case first =>
  have hg:=HP200.out;rw [← HMG.out] at hg
  unfold dgN at hg
  by_cases c1:(0:Int)<(mg_:Int)
  ·rw [if_pos c1] at hg
   have c1b:decide ((mg_:Int)>0)=true:=decide_eq_true c1;have c1c:decide (0<(mg_:Int))=true:=decide_eq_true c1;have c1d:decide (0<mg_)=true:=decide_eq_true (by omega);(first | rw [c1d] | skip);obtain ⟨⟨q19,a19,m19⟩,e19,h_⟩:=oB.mp hg;clear hg;have hg:=h_;clear h_;have HP19:=aM e19;clear e19
   dsimp only at hg
   split at hg
   ·rename_i hq
    obtain ⟨hq0,hq1⟩:=hq;obtain ⟨⟨q22,a22,m22⟩,e22,h_⟩:=oB.mp hg;clear hg;have hg:=h_;clear h_;have HP22:=aM e22;clear e22
    dsimp only at hg
    obtain ⟨gl,c3_,hv3⟩:=Sep.own_row_form HO_5.out 1 rfl (by have:=HMG.out;omega)
    injection hv3 with ha hb hc
    subst ha;subst hc;clear hb;have HQ:=aM (show 0≤q19∧q19<(l9.length:Int) from ⟨hq0,by have:=HMG.out;omega⟩);have p19:(0≤q19)=True:=eq_true hq0;have p19b:(q19<(mg_:Int))=True:=eq_true hq1;clear hq0 hq1;have p00:((0:Int)<(mg_:Int))=True:=eq_true c1;have p01:(0<mg_)=True:=eq_true (by omega);clear c1
    by_cases c2_0:q22=0
    ·rw [if_pos c2_0] at hg
     subst c2_0;obtain ⟨⟨q30,a30,m30⟩,e30,h_⟩:=oB.mp hg;clear hg;have hg:=h_;clear h_;have HP30:=aM e30;clear e30
     dsimp only at hg
     injection hg with hg
     injection hg with e_0 hg
     injection hg with e_1 hg
     have e_2:=hg;clear hg;subst e_0;subst e_1;subst e_2
     go_wp2
     have HD_4_1:=aM (HO_5.out.drew)
     refine start_ (n:=7) (S:=fun w'=>w'.cell? ⟨g3,1,none⟩=some (.slice ((some ⟨gl,0,none⟩)) mg_ cg_)) (ds:=[]) #[fi,fi,fi,fi,fi,fi,fi] (by kernel_rfl) rfl rfl ((HD_4_1.out.cell 0 rfl 1 rfl)) (fun hHeld=>?_)
     generalize w_5.drew=wd_4_2 at HD_4_1 hHeld ⊢
     refine oz_ 0 15 ?_
     refine oz_ 2 17 ?_
     refine oz_ 3 18 ?_
     refine tz1_ 1 16 hHeld ?_
     refine oo_ 4 19 (fun K hK=>?_)
     refine goes_ Tryd.func59 (by kernel_rfl) rfl #[.pointer (some ⟨g,0,none⟩),.int .i64 ((mg_:Int))] (by rfl) rfl rfl zid_ ?_
     (refine (spec_l1Cur_pick.calls g s0_0 a9 m9 ((mg_:Int)) q19 a19 m19 w0 _ (dg_in HD_4_1.out 4 rfl HS_9.out) HD_4_1.out.base HP19.out).mono ?_)
     rintro e w_6 ⟨rfl,hI,hB,hK⟩
     refine ⟨_,rfl,?_⟩
     obtain ⟨vS_19,hS,ho⟩:=dg_out HD_4_1.out 4 rfl hI hB hK;have HS_19:=aM hS;have HO_6:=aM ho;clear hI hB hK hS ho
     refine hK.out _ _ ((HO_6.out.cell 0 rfl 1 rfl)) (fun hHeld=>?_)
     clear hK K
     refine nz_ 19 ?_
     refine oz_ 5 20 ?_
     refine oz_ 6 5 ?_
     refine done_ (by kernel_rfl) ?_
     go_wp2_with (first | ((with_reducible refine gate_callee (f:=59) rfl ?_);refine goesL_ (some 22) rfl rfl Tryd.func59 (by kernel_rfl) rfl #[.pointer (some ⟨g,0,none⟩),.int .i64 24] rfl zbc_ ?_;(refine (spec_l1Cur_pick.calls g s0_0 a19 m19 24 0 a22 m22 w0 _ (dg_in HO_6.out 4 rfl HS_19.out) HO_6.out.base HP22.out).mono ?_);rintro e w_7 ⟨rfl,hI,hB,hK⟩;refine ⟨_,rfl,?_⟩;obtain ⟨vS_22,hS,ho⟩:=dg_out HO_6.out 4 rfl hI hB hK;have HS_22:=aM hS;have HO_7:=aM ho;clear hI hB hK hS ho;have z_3:w_7.cell? ⟨g3,0,none⟩=some (.int .i64 inp):=(HO_7.out.cell 0 rfl 0 rfl))|((with_reducible refine gate_dst (N:=29) rfl ?_);refine Sep.own_litN (Value.int .i64) (h1:=fun _=>rfl) HO_7.out 3 [-1,0,1,inp] 4 rfl [.int .i64 (-1),.int .i64 0,.int .i64 1,.int .i64 inp] rfl (by decide) ?hg (N:=29) ?hd ?hr ?_;(case hd=>rfl);(case hg=>rfl);(case hr=>exact zb_);intro x_29 w_8 ho _;obtain ⟨g_29,n_29,c_29,hn_,rfl⟩:=Sep.own_row_fseal ho 0 rfl (by simp);obtain rfl:n_29=4:=hn_;have HO_8:=aM ho;clear ho)|((with_reducible refine gate_callee (f:=61) rfl ?_);refine goesL_ (some 30) rfl rfl Tryd.func61 (by kernel_rfl) rfl #[.pointer (some ⟨g,0,none⟩),.slice ((some ⟨g_29,0,none⟩)) 4 c_29] rfl zbc_ ?_;(refine (spec_l1Cur_among.calls g s0_0 a22 m22 ((some ⟨g_29,0,none⟩)) c_29 ([-1,0,1,inp]) q30 a30 m30 w0 _ (dg_in HO_8.out 5 rfl HS_22.out) HO_8.out.base (by exact (HO_8.out.row_reads 0 rfl).2.2) (by exact (HO_8.out.row_reads 0 rfl).2.1) (fun ad he _=>by injection he with he;subst he;exact HO_8.out.row_ne_box 0 5 (by decide) rfl rfl) HP30.out).mono ?_);rintro e w_9 ⟨rfl,hI,hB,hK⟩;refine ⟨_,rfl,?_⟩;obtain ⟨vS_30,hS,ho⟩:=dg_out HO_8.out 5 rfl hI hB hK;have HS_30:=aM hS;have HO_9:=aM ho;clear hI hB hK hS ho)|((with_reducible refine gate_store (t:=3) (p:=32) (v := .tmp 30) rfl ?_);refine Sep.own_seg_ev HO_9.out 2 rfl z70 q19 HQ.out.1 HQ.out.2 0 (.int .i64 q30) (⟨q30,(rd_T70 l9 q19).f1,(rd_T70 l9 q19).f2⟩:S70) 3 rfl rfl rfl (by decide) (fun base ok c hM=>by obtain rfl:=k70_openM hM;exact k70_mkM _ _ _ _) rfl rfl (.tmp 32) (.tmp 30) rfl _ (by rfl) rfl rfl ?_;intro w_10 ho;have HO_10:=aM ho;clear ho))
     go_meet
     case rel=>exact ⟨vS_30,_,_,_,⟨by rw [List.length_set];exact HMG.out⟩,HS_30,⟨((((((HO_10.out.front 4 rfl).front 2 rfl).front 5 rfl).front 4 rfl).front 5 rfl).front 5 rfl).tail.tail⟩⟩
    ·rw [if_neg c2_0] at hg
     by_cases c2_1:q22=1
     ·rw [if_pos c2_1] at hg
      subst c2_1;obtain ⟨⟨q41,a41,m41⟩,e41,h_⟩:=oB.mp hg;clear hg;have hg:=h_;clear h_;have HP41:=aM e41;clear e41
      dsimp only at hg
      injection hg with hg
      injection hg with e_0 hg
      injection hg with e_1 hg
      have e_2:=hg;clear hg;subst e_0;subst e_1;subst e_2
      go_wp2
      have HD_4_1:=aM (HO_5.out.drew)
      refine start_ (n:=7) (S:=fun w'=>w'.cell? ⟨g3,1,none⟩=some (.slice ((some ⟨gl,0,none⟩)) mg_ cg_)) (ds:=[]) #[fi,fi,fi,fi,fi,fi,fi] (by kernel_rfl) rfl rfl ((HD_4_1.out.cell 0 rfl 1 rfl)) (fun hHeld=>?_)
      generalize w_5.drew=wd_4_2 at HD_4_1 hHeld ⊢
      refine oz_ 0 15 ?_
      refine oz_ 2 17 ?_
      refine oz_ 3 18 ?_
      refine tz1_ 1 16 hHeld ?_
      refine oo_ 4 19 (fun K hK=>?_)
      refine goes_ Tryd.func59 (by kernel_rfl) rfl #[.pointer (some ⟨g,0,none⟩),.int .i64 ((mg_:Int))] (by rfl) rfl rfl zid_ ?_
      (refine (spec_l1Cur_pick.calls g s0_0 a9 m9 ((mg_:Int)) q19 a19 m19 w0 _ (dg_in HD_4_1.out 4 rfl HS_9.out) HD_4_1.out.base HP19.out).mono ?_)
      rintro e w_6 ⟨rfl,hI,hB,hK⟩
      refine ⟨_,rfl,?_⟩
      obtain ⟨vS_19,hS,ho⟩:=dg_out HD_4_1.out 4 rfl hI hB hK;have HS_19:=aM hS;have HO_6:=aM ho;clear hI hB hK hS ho
      refine hK.out _ _ ((HO_6.out.cell 0 rfl 1 rfl)) (fun hHeld=>?_)
      clear hK K
      refine nz_ 19 ?_
      refine oz_ 5 20 ?_
      refine oz_ 6 5 ?_
      refine done_ (by kernel_rfl) ?_
      go_wp2_with (first | ((with_reducible refine gate_callee (f:=59) rfl ?_);refine goesL_ (some 22) rfl rfl Tryd.func59 (by kernel_rfl) rfl #[.pointer (some ⟨g,0,none⟩),.int .i64 24] rfl zbc_ ?_;(refine (spec_l1Cur_pick.calls g s0_0 a19 m19 24 1 a22 m22 w0 _ (dg_in HO_6.out 4 rfl HS_19.out) HO_6.out.base HP22.out).mono ?_);rintro e w_7 ⟨rfl,hI,hB,hK⟩;refine ⟨_,rfl,?_⟩;obtain ⟨vS_22,hS,ho⟩:=dg_out HO_6.out 4 rfl hI hB hK;have HS_22:=aM hS;have HO_7:=aM ho;clear hI hB hK hS ho)|((with_reducible refine gate_dst (N:=40) rfl ?_);refine Sep.own_litN (Value.int .i64) (h1:=fun _=>rfl) HO_7.out 3 [-1,0,1,(mg_:Int),wrap64 ((mg_:Int)+2)] 5 rfl [.int .i64 (-1),.int .i64 0,.int .i64 1,.int .i64 ((mg_:Int)),.int .i64 (wrap64 ((mg_:Int)+2))] rfl (by decide) ?hg (N:=40) ?hd ?hr ?_;(case hd=>rfl);(case hg=>rfl);(case hr=>exact zb_);intro x_40 w_8 ho _;obtain ⟨g_40,n_40,c_40,hn_,rfl⟩:=Sep.own_row_fseal ho 0 rfl (by simp);obtain rfl:n_40=5:=hn_;have HO_8:=aM ho;clear ho)|((with_reducible refine gate_callee (f:=61) rfl ?_);refine goesL_ (some 41) rfl rfl Tryd.func61 (by kernel_rfl) rfl #[.pointer (some ⟨g,0,none⟩),.slice ((some ⟨g_40,0,none⟩)) 5 c_40] rfl zbc_ ?_;(refine (spec_l1Cur_among.calls g s0_0 a22 m22 ((some ⟨g_40,0,none⟩)) c_40 ([-1,0,1,(mg_:Int),wrap64 ((mg_:Int)+2)]) q41 a41 m41 w0 _ (dg_in HO_8.out 5 rfl HS_22.out) HO_8.out.base (by exact (HO_8.out.row_reads 0 rfl).2.2) (by exact (HO_8.out.row_reads 0 rfl).2.1) (fun ad he _=>by injection he with he;subst he;exact HO_8.out.row_ne_box 0 5 (by decide) rfl rfl) HP41.out).mono ?_);rintro e w_9 ⟨rfl,hI,hB,hK⟩;refine ⟨_,rfl,?_⟩;obtain ⟨vS_41,hS,ho⟩:=dg_out HO_8.out 5 rfl hI hB hK;have HS_41:=aM hS;have HO_9:=aM ho;clear hI hB hK hS ho)|((with_reducible refine gate_store (t:=3) (p:=43) (v := .tmp 41) rfl ?_);refine Sep.own_seg_ev HO_9.out 2 rfl z70 q19 HQ.out.1 HQ.out.2 1 (.int .i64 q41) (⟨(rd_T70 l9 q19).f0,q41,(rd_T70 l9 q19).f2⟩:S70) 3 rfl rfl rfl (by decide) (fun base ok c hM=>by obtain rfl:=k70_openM hM;exact k70_mkM _ _ _ _) rfl rfl (.tmp 43) (.tmp 41) rfl _ (by rfl) rfl rfl ?_;intro w_10 ho;have HO_10:=aM ho;clear ho))
      go_meet
      case rel=>exact ⟨vS_41,_,_,_,⟨by rw [List.length_set];exact HMG.out⟩,HS_41,⟨((((((HO_10.out.front 4 rfl).front 2 rfl).front 5 rfl).front 4 rfl).front 5 rfl).front 5 rfl).tail.tail⟩⟩
     ·rw [if_neg c2_1] at hg
      by_cases c2_2:q22=2
      ·rw [if_pos c2_2] at hg
       subst c2_2;obtain ⟨⟨q52,a52,m52⟩,e52,h_⟩:=oB.mp hg;clear hg;have hg:=h_;clear h_;have HP52:=aM e52;clear e52
       dsimp only at hg
       injection hg with hg
       injection hg with e_0 hg
       injection hg with e_1 hg
       have e_2:=hg;clear hg;subst e_0;subst e_1;subst e_2
       go_wp2
       have HD_4_1:=aM (HO_5.out.drew)
       refine start_ (n:=7) (S:=fun w'=>w'.cell? ⟨g3,1,none⟩=some (.slice ((some ⟨gl,0,none⟩)) mg_ cg_)) (ds:=[]) #[fi,fi,fi,fi,fi,fi,fi] (by kernel_rfl) rfl rfl ((HD_4_1.out.cell 0 rfl 1 rfl)) (fun hHeld=>?_)
       generalize w_5.drew=wd_4_2 at HD_4_1 hHeld ⊢
       refine oz_ 0 15 ?_
       refine oz_ 2 17 ?_
       refine oz_ 3 18 ?_
       refine tz1_ 1 16 hHeld ?_
       refine oo_ 4 19 (fun K hK=>?_)
       refine goes_ Tryd.func59 (by kernel_rfl) rfl #[.pointer (some ⟨g,0,none⟩),.int .i64 ((mg_:Int))] (by rfl) rfl rfl zid_ ?_
       (refine (spec_l1Cur_pick.calls g s0_0 a9 m9 ((mg_:Int)) q19 a19 m19 w0 _ (dg_in HD_4_1.out 4 rfl HS_9.out) HD_4_1.out.base HP19.out).mono ?_)
       rintro e w_6 ⟨rfl,hI,hB,hK⟩
       refine ⟨_,rfl,?_⟩
       obtain ⟨vS_19,hS,ho⟩:=dg_out HD_4_1.out 4 rfl hI hB hK;have HS_19:=aM hS;have HO_6:=aM ho;clear hI hB hK hS ho
       refine hK.out _ _ ((HO_6.out.cell 0 rfl 1 rfl)) (fun hHeld=>?_)
       clear hK K
       refine nz_ 19 ?_
       refine oz_ 5 20 ?_
       refine oz_ 6 5 ?_
       refine done_ (by kernel_rfl) ?_
       go_wp2_with (first | ((with_reducible refine gate_callee (f:=59) rfl ?_);refine goesL_ (some 22) rfl rfl Tryd.func59 (by kernel_rfl) rfl #[.pointer (some ⟨g,0,none⟩),.int .i64 24] rfl zbc_ ?_;(refine (spec_l1Cur_pick.calls g s0_0 a19 m19 24 2 a22 m22 w0 _ (dg_in HO_6.out 4 rfl HS_19.out) HO_6.out.base HP22.out).mono ?_);rintro e w_7 ⟨rfl,hI,hB,hK⟩;refine ⟨_,rfl,?_⟩;obtain ⟨vS_22,hS,ho⟩:=dg_out HO_6.out 4 rfl hI hB hK;have HS_22:=aM hS;have HO_7:=aM ho;clear hI hB hK hS ho)|((with_reducible refine gate_dst (N:=51) rfl ?_);refine Sep.own_litN (Value.int .i64) (h1:=fun _=>rfl) HO_7.out 3 [-1,0,1,(mg_:Int),wrap64 ((mg_:Int)+2)] 5 rfl [.int .i64 (-1),.int .i64 0,.int .i64 1,.int .i64 ((mg_:Int)),.int .i64 (wrap64 ((mg_:Int)+2))] rfl (by decide) ?hg (N:=51) ?hd ?hr ?_;(case hd=>rfl);(case hg=>rfl);(case hr=>exact zb_);intro x_51 w_8 ho _;obtain ⟨g_51,n_51,c_51,hn_,rfl⟩:=Sep.own_row_fseal ho 0 rfl (by simp);obtain rfl:n_51=5:=hn_;have HO_8:=aM ho;clear ho)|((with_reducible refine gate_callee (f:=61) rfl ?_);refine goesL_ (some 52) rfl rfl Tryd.func61 (by kernel_rfl) rfl #[.pointer (some ⟨g,0,none⟩),.slice ((some ⟨g_51,0,none⟩)) 5 c_51] rfl zbc_ ?_;(refine (spec_l1Cur_among.calls g s0_0 a22 m22 ((some ⟨g_51,0,none⟩)) c_51 ([-1,0,1,(mg_:Int),wrap64 ((mg_:Int)+2)]) q52 a52 m52 w0 _ (dg_in HO_8.out 5 rfl HS_22.out) HO_8.out.base (by exact (HO_8.out.row_reads 0 rfl).2.2) (by exact (HO_8.out.row_reads 0 rfl).2.1) (fun ad he _=>by injection he with he;subst he;exact HO_8.out.row_ne_box 0 5 (by decide) rfl rfl) HP52.out).mono ?_);rintro e w_9 ⟨rfl,hI,hB,hK⟩;refine ⟨_,rfl,?_⟩;obtain ⟨vS_52,hS,ho⟩:=dg_out HO_8.out 5 rfl hI hB hK;have HS_52:=aM hS;have HO_9:=aM ho;clear hI hB hK hS ho)|((with_reducible refine gate_store (t:=3) (p:=54) (v := .tmp 52) rfl ?_);refine Sep.own_seg_ev HO_9.out 2 rfl z70 q19 HQ.out.1 HQ.out.2 2 (.int .i64 q52) (⟨(rd_T70 l9 q19).f0,(rd_T70 l9 q19).f1,q52⟩:S70) 3 rfl rfl rfl (by decide) (fun base ok c hM=>by obtain rfl:=k70_openM hM;exact k70_mkM _ _ _ _) rfl rfl (.tmp 54) (.tmp 52) rfl _ (by rfl) rfl rfl ?_;intro w_10 ho;have HO_10:=aM ho;clear ho))
       go_meet
       case rel=>exact ⟨vS_52,_,_,_,⟨by rw [List.length_set];exact HMG.out⟩,HS_52,⟨((((((HO_10.out.front 4 rfl).front 2 rfl).front 5 rfl).front 4 rfl).front 5 rfl).front 5 rfl).tail.tail⟩⟩
      ·rw [if_neg c2_2] at hg
       by_cases c2_3:q22=3
       ·rw [if_pos c2_3] at hg
        subst c2_3
        split at hg
        ·rename_i hl9
         have HL9:=aM hl9;clear hl9
         injection hg with hg
         injection hg with e_0 hg
         injection hg with e_1 hg
         have e_2:=hg;clear hg;subst e_0;subst e_1;subst e_2
         go_wp2
         have HD_4_1:=aM (HO_5.out.drew)
         refine start_ (n:=7) (S:=fun w'=>w'.cell? ⟨g3,1,none⟩=some (.slice ((some ⟨gl,0,none⟩)) mg_ cg_)) (ds:=[]) #[fi,fi,fi,fi,fi,fi,fi] (by kernel_rfl) rfl rfl ((HD_4_1.out.cell 0 rfl 1 rfl)) (fun hHeld=>?_)
         generalize w_5.drew=wd_4_2 at HD_4_1 hHeld ⊢
         refine oz_ 0 15 ?_
         refine oz_ 2 17 ?_
         refine oz_ 3 18 ?_
         refine tz1_ 1 16 hHeld ?_
         refine oo_ 4 19 (fun K hK=>?_)
         refine goes_ Tryd.func59 (by kernel_rfl) rfl #[.pointer (some ⟨g,0,none⟩),.int .i64 ((mg_:Int))] (by rfl) rfl rfl zid_ ?_
         (refine (spec_l1Cur_pick.calls g s0_0 a9 m9 ((mg_:Int)) q19 a19 m19 w0 _ (dg_in HD_4_1.out 4 rfl HS_9.out) HD_4_1.out.base HP19.out).mono ?_)
         rintro e w_6 ⟨rfl,hI,hB,hK⟩
         refine ⟨_,rfl,?_⟩
         obtain ⟨vS_19,hS,ho⟩:=dg_out HD_4_1.out 4 rfl hI hB hK;have HS_19:=aM hS;have HO_6:=aM ho;clear hI hB hK hS ho
         refine hK.out _ _ ((HO_6.out.cell 0 rfl 1 rfl)) (fun hHeld=>?_)
         clear hK K
         refine nz_ 19 ?_
         refine oz_ 5 20 ?_
         refine oz_ 6 5 ?_
         refine done_ (by kernel_rfl) ?_
         go_wp2_with (first | ((with_reducible refine gate_callee (f:=59) rfl ?_);refine goesL_ (some 22) rfl rfl Tryd.func59 (by kernel_rfl) rfl #[.pointer (some ⟨g,0,none⟩),.int .i64 24] rfl zbc_ ?_;(refine (spec_l1Cur_pick.calls g s0_0 a19 m19 24 3 a22 m22 w0 _ (dg_in HO_6.out 4 rfl HS_19.out) HO_6.out.base HP22.out).mono ?_);rintro e w_7 ⟨rfl,hI,hB,hK⟩;refine ⟨_,rfl,?_⟩;obtain ⟨vS_22,hS,ho⟩:=dg_out HO_6.out 4 rfl hI hB hK;have HS_22:=aM hS;have HO_7:=aM ho;clear hI hB hK hS ho))
         have HD_13_2:=aM (HO_7.out.drew)
         refine start_ (n:=10) (S:=fun w'=>w'.cell? ⟨g3,1,none⟩=some (.slice ((some ⟨gl,0,none⟩)) mg_ cg_)∧w'.cell? ⟨gl,0,none⟩=some (.int .i64 (rd_T70 l9 0).f0)∧w'.cell? ⟨gl,1,none⟩=some (.int .i64 (rd_T70 l9 0).f1)∧w'.cell? ⟨gl,2,none⟩=some (.int .i64 (rd_T70 l9 0).f2)) (ds:=[7,9]) #[fi,fi,fi,fi,fi,fi,fi,fi,fi,fi] (by kernel_rfl) rfl rfl ⟨(HD_13_2.out.cell 0 rfl 1 rfl),(dg_cell HD_13_2.out 1 rfl zhh_).1,(dg_cell HD_13_2.out 1 rfl zhh_).2.1,(dg_cell HD_13_2.out 1 rfl zhh_).2.2⟩ (fun hHeld=>?_)
         generalize w_7.drew=wd_13_3 at HD_13_2 hHeld ⊢
         refine oz_ 0 57 ?_
         refine oz_ 2 59 ?_
         refine tz4_ 1 58 hHeld ?_
         refine tz4_ 3 60 hHeld ?_
         refine oz_ 4 61 ?_
         refine tz4_ 5 62 hHeld ?_
         refine oo_ 6 63 (fun K hK=>?_)
         refine value_ (w1:=?_) (v:=?_) (by rfl) rfl ?_ ?_
         rotate_left 2
         ·go_simp
          constructor
          ·rfl
          ·rfl
         have HOb63:=aM (HD_13_2.out.below (pA (Below.refl _ _) (.cells #[.int .i64 ((rd_T70 l9 0).f0),.int .i64 ((rd_T70 l9 0).f1),.int .i64 ((rd_T70 l9 0).f2)] 70)))
         refine hK.out _ _ ⟨(HOb63.out.cell 0 rfl 1 rfl),(dg_cell HOb63.out 1 rfl zhh_).1,(dg_cell HOb63.out 1 rfl zhh_).2.1,(dg_cell HOb63.out 1 rfl zhh_).2.2⟩ (fun hHeld=>?_)
         clear hK K
         refine nz_ 63 ?_
         refine last_ (i:=7) (N:=some 64) #[ti,ti,ti,ti,ti,ti,ti,ti,fi,fi] rfl rfl (by kernel_rfl) (by decide) (fun K hK=>?_)
         refine Sep.own_append_step k70 HD_13_2.out 1 _ (l9) 70 rfl (by rfl) (.tmp 58) (.tmp 63) 28 (.agg #[.int .i64 0,.int .i64 0,.int .i64 0]) 24 rfl Tryd.underlying28 info70 rfl (by decide) (by omega) ((⟨(rd_T70 l9 0).f0,(rd_T70 l9 0).f1,(rd_T70 l9 0).f2⟩:S70)) [.int .i64 ((rd_T70 l9 0).f0),.int .i64 ((rd_T70 l9 0).f1),.int .i64 ((rd_T70 l9 0).f2)] rfl rfl (k70_mkM _ _ _ _) (by have:=HL9.out;have:=HMG.out;omega) ?_
         intro x_64 w_9 ho
         obtain ⟨A_64,n_64,c_64,hn_,rfl⟩:=ho.row_seal 1 rfl;have HN_64:=aM hn_;clear hn_;have HO_9:=aM ho;clear ho
         refine hK.out _ _ ?_
         clear hK K
         refine nz_ 64 ?_
         refine oz_ 8 65 ?_
         refine last_ (i:=9) (N:=none) #[ti,ti,ti,ti,ti,ti,ti,ti,ti,ti] rfl rfl (by kernel_rfl) (by decide) (fun K hK=>?_)
         have hbs:=HO_9.out.cell 0 rfl 1 rfl;have hbf:=HO_9.out.free 0 rfl 1
         refine skip_ (w1:=?_) (by rfl) rfl ?_ ?_
         rotate_left
         ·go_simp
          rfl
         have HO_10:=aM (HO_9.out.put1 0 rfl 1 (.slice A_64 n_64 c_64));clear hbs hbf
         refine hK.out _ _ ?_
         clear hK K
         refine done_ (by kernel_rfl) ?_
         go_wp2
         go_meet
         case rel=>exact ⟨vS_22,_,_,_,⟨HN_64.out⟩,HS_22,⟨(((((HO_10.out.front 3 rfl).front 1 rfl).front 4 rfl).front 3 rfl).front 4 rfl).tail⟩⟩
        ·cases hg
       ·rw [if_neg c2_3] at hg
        have c2b0:(q22 == 0)=false:=beq_eq_false_iff_ne.mpr c2_0;clear c2_0;have c2b1:(q22 == 1)=false:=beq_eq_false_iff_ne.mpr c2_1;clear c2_1;have c2b2:(q22 == 2)=false:=beq_eq_false_iff_ne.mpr c2_2;clear c2_2;have c2b3:(q22 == 3)=false:=beq_eq_false_iff_ne.mpr c2_3;clear c2_3
        injection hg with hg
        injection hg with e_0 hg
        injection hg with e_1 hg
        have e_2:=hg;clear hg;subst e_0;subst e_1;subst e_2
        go_wp2
        have HD_4_1:=aM (HO_5.out.drew)
        refine start_ (n:=7) (S:=fun w'=>w'.cell? ⟨g3,1,none⟩=some (.slice ((some ⟨gl,0,none⟩)) mg_ cg_)) (ds:=[]) #[fi,fi,fi,fi,fi,fi,fi] (by kernel_rfl) rfl rfl ((HD_4_1.out.cell 0 rfl 1 rfl)) (fun hHeld=>?_)
        generalize w_5.drew=wd_4_2 at HD_4_1 hHeld ⊢
        refine oz_ 0 15 ?_
        refine oz_ 2 17 ?_
        refine oz_ 3 18 ?_
        refine tz1_ 1 16 hHeld ?_
        refine oo_ 4 19 (fun K hK=>?_)
        refine goes_ Tryd.func59 (by kernel_rfl) rfl #[.pointer (some ⟨g,0,none⟩),.int .i64 ((mg_:Int))] (by rfl) rfl rfl zid_ ?_
        (refine (spec_l1Cur_pick.calls g s0_0 a9 m9 ((mg_:Int)) q19 a19 m19 w0 _ (dg_in HD_4_1.out 4 rfl HS_9.out) HD_4_1.out.base HP19.out).mono ?_)
        rintro e w_6 ⟨rfl,hI,hB,hK⟩
        refine ⟨_,rfl,?_⟩
        obtain ⟨vS_19,hS,ho⟩:=dg_out HD_4_1.out 4 rfl hI hB hK;have HS_19:=aM hS;have HO_6:=aM ho;clear hI hB hK hS ho
        refine hK.out _ _ ((HO_6.out.cell 0 rfl 1 rfl)) (fun hHeld=>?_)
        clear hK K
        refine nz_ 19 ?_
        refine oz_ 5 20 ?_
        refine oz_ 6 5 ?_
        refine done_ (by kernel_rfl) ?_
        go_wp2_with (first | ((with_reducible refine gate_callee (f:=59) rfl ?_);refine goesL_ (some 22) rfl rfl Tryd.func59 (by kernel_rfl) rfl #[.pointer (some ⟨g,0,none⟩),.int .i64 24] rfl zbc_ ?_;(refine (spec_l1Cur_pick.calls g s0_0 a19 m19 24 q22 a22 m22 w0 _ (dg_in HO_6.out 4 rfl HS_19.out) HO_6.out.base HP22.out).mono ?_);rintro e w_7 ⟨rfl,hI,hB,hK⟩;refine ⟨_,rfl,?_⟩;obtain ⟨vS_22,hS,ho⟩:=dg_out HO_6.out 4 rfl hI hB hK;have HS_22:=aM hS;have HO_7:=aM ho;clear hI hB hK hS ho))
        go_meet
        case rel=>exact ⟨vS_22,_,_,_,⟨HMG.out⟩,HS_22,⟨(((((HO_7.out.front 3 rfl).front 1 rfl).front 4 rfl).front 3 rfl).front 4 rfl).tail⟩⟩
   ·cases hg
  ·rw [if_neg c1] at hg
   have c1b:decide ((mg_:Int)>0)=false:=decide_eq_false c1;have c1c:decide (0<(mg_:Int))=false:=decide_eq_false c1;have c1d:decide (0<mg_)=false:=decide_eq_false (by omega);(first | rw [c1d] | skip);clear c1
   injection hg with hg
   injection hg with e_0 hg
   injection hg with e_1 hg
   have e_2:=hg;clear hg;subst e_0;subst e_1;subst e_2
   go_wp2
   go_meet
   case rel=>exact ⟨vS_9,_,_,_,⟨HMG.out⟩,HS_9,⟨(((((HO_5.out.front 3 rfl).front 1 rfl).front 4 rfl).front 3 rfl).front 4 rfl).tail⟩⟩
 case rest =>
  clear HO_5 HMG HS_9 HP200;obtain ⟨vS_,Ag_,mg_,cg_,HMG,HS_,HO⟩:=hcut;have h:=HE.out;clear HE
  unfold dgE at h
  obtain ⟨⟨q67,a67,m67⟩,e67,h_⟩:=oB.mp h;clear h;have h:=h_;clear h_;have HP67:=aM e67;clear e67
  dsimp only at h
  by_cases c5_0:q67=0
  ·rw [if_pos c5_0] at h
   subst c5_0;rw [← HMG.out] at h;obtain ⟨⟨q76,a76,m76⟩,e76,h_⟩:=oB.mp h;clear h;have h:=h_;clear h_;have HP76:=aM e76;clear e76
   dsimp only at h
   injection h with h
   injection h with e_0 h
   injection h with e_1 h
   injection h with e_2 h
   injection h with e_3 h
   have e_4:=h;clear h;subst e_0;subst e_1;subst e_2;subst e_3;subst e_4
   go_wp2_with (first | ((with_reducible refine gate_callee (f:=59) rfl ?_);refine goesL_ (some 67) rfl rfl Tryd.func59 (by kernel_rfl) rfl #[.pointer (some ⟨g,0,none⟩),.int .i64 30] rfl zbc_ ?_;(refine (spec_l1Cur_pick.calls g s0_0 a200 m200 30 0 a67 m67 w0 _ (dg_in HO.out 1 rfl HS_.out) HO.out.base HP67.out).mono ?_);rintro e w_1 ⟨rfl,hI,hB,hK⟩;refine ⟨_,rfl,?_⟩;obtain ⟨vS_67,hS,ho⟩:=dg_out HO.out 1 rfl hI hB hK;have HS_67:=aM hS;have HO_1:=aM ho;clear hI hB hK hS ho;have z_2:w_1.cell? ⟨g3,1,none⟩=some (.slice Ag_ mg_ cg_):=(HO_1.out.cell 2 rfl 1 rfl))|((with_reducible refine gate_dst (N:=75) rfl ?_);refine Sep.own_litN (Value.int .i64) (h1:=fun _=>rfl) HO_1.out 3 [-1,0,1,wrap64 ((mg_:Int)+2)] 4 rfl [.int .i64 (-1),.int .i64 0,.int .i64 1,.int .i64 (wrap64 ((mg_:Int)+2))] rfl (by decide) ?hg (N:=75) ?hd ?hr ?_;(case hd=>rfl);(case hg=>rfl);(case hr=>exact zb_);intro x_75 w_2 ho _;obtain ⟨g_75,n_75,c_75,hn_,rfl⟩:=Sep.own_row_fseal ho 0 rfl (by simp);obtain rfl:n_75=4:=hn_;have HO_2:=aM ho;clear ho)|((with_reducible refine gate_callee (f:=61) rfl ?_);refine goesL_ (some 76) rfl rfl Tryd.func61 (by kernel_rfl) rfl #[.pointer (some ⟨g,0,none⟩),.slice ((some ⟨g_75,0,none⟩)) 4 c_75] rfl zbc_ ?_;(refine (spec_l1Cur_among.calls g s0_0 a67 m67 ((some ⟨g_75,0,none⟩)) c_75 ([-1,0,1,wrap64 ((mg_:Int)+2)]) q76 a76 m76 w0 _ (dg_in HO_2.out 2 rfl HS_67.out) HO_2.out.base (by exact (HO_2.out.row_reads 0 rfl).2.2) (by exact (HO_2.out.row_reads 0 rfl).2.1) (fun ad he _=>by injection he with he;subst he;exact HO_2.out.row_ne_box 0 2 (by decide) rfl rfl) HP76.out).mono ?_);rintro e w_3 ⟨rfl,hI,hB,hK⟩;refine ⟨_,rfl,?_⟩;obtain ⟨vS_76,hS,ho⟩:=dg_out HO_2.out 2 rfl hI hB hK;have HS_76:=aM hS;have HO_3:=aM ho;clear hI hB hK hS ho)|((with_reducible refine gate_store (t:=3) (p:=77) (v := .tmp 76) rfl ?_);refine Sep.own_store_at HO_3.out 3 g3 30 _ rfl rfl rfl 3 (.tmp 77) (.tmp 76) rfl 2 rfl (.int .i64 q76) rfl rfl (by kernel_rfl) rfl (by simp) ?_;intro w_4 ho;have HO_4:=aM ho;clear ho;have z_3:w_4.cell? ⟨g3,0,none⟩=some (.int .i64 inp):=(HO_4.out.cell 3 rfl 0 rfl);have z_4:w_4.cell? ⟨g3,1,none⟩=some (.slice Ag_ mg_ cg_):=(HO_4.out.cell 3 rfl 1 rfl);have z_5:w_4.cell? ⟨g3,2,none⟩=some (.int .i64 q76):=(HO_4.out.cell 3 rfl 2 rfl))|((with_reducible refine gate_store (t:=30) (p:=2) (v := .tmp 103) rfl ?_);refine Sep.own_store HO_4.out 4 g2 30 _ #[.int .i64 inp,.slice Ag_ mg_ cg_,.int .i64 q76] rfl rfl rfl 30 (.tmp 2) (.tmp 103) rfl rfl _ rfl rfl rfl (by kernel_rfl) (by simp [Value.oneCell']) ?_;intro w_5 ho;have HO_5:=aM ho;clear ho))
   obtain ⟨hR,hbx2,hB2,hK2⟩:=Sep.own_end ((((((HO_5.out.front 2 rfl).front 2 rfl).front 4 rfl).front 4 rfl).front 4 rfl).tail.tail.tail) HBW.out HG.out (fun w ok x cs b b' hM=>by obtain rfl:=k70_openM hM;exact k70_mkM _ _ _ _);obtain ⟨A9,c9,e9,hC9⟩:=HS_76.out;subst e9;have HR_:=aM hR;have HX_:=aM (show IsS66 w0 _ g s0_0 _ _ from ⟨A9,c9,hbx2,HGE.out,hC9⟩);have HB_:=aM hB2;have HK_:=aM hK2;clear hR hbx2 hB2 hK2 hC9;(try simp only [Exit.inBlock,Exit.then])
   refine bodyPost_ret (results_cell_row rfl _ _ g2 30 #[.int .i64 inp,.slice Ag_ mg_ cg_,.int .i64 q76] (0,0) _ rfl (HO_5.out.blk 4 rfl) Tryd.underlying30 rfl (by kernel_rfl)) rfl ?_
   exact ⟨_,rfl,HR_.out,HX_.out,HB_.out,HK_.out⟩
  ·rw [if_neg c5_0] at h
   by_cases c5_1:q67=1
   ·rw [if_pos c5_1] at h
    subst c5_1;obtain ⟨⟨q85,a85,m85⟩,e85,h_⟩:=oB.mp h;clear h;have h:=h_;clear h_;have HP85:=aM e85;clear e85
    dsimp only at h
    injection h with h
    injection h with e_0 h
    injection h with e_1 h
    injection h with e_2 h
    injection h with e_3 h
    have e_4:=h;clear h;subst e_0;subst e_1;subst e_2;subst e_3;subst e_4
    go_wp2_with (first | ((with_reducible refine gate_callee (f:=59) rfl ?_);refine goesL_ (some 67) rfl rfl Tryd.func59 (by kernel_rfl) rfl #[.pointer (some ⟨g,0,none⟩),.int .i64 30] rfl zbc_ ?_;(refine (spec_l1Cur_pick.calls g s0_0 a200 m200 30 1 a67 m67 w0 _ (dg_in HO.out 1 rfl HS_.out) HO.out.base HP67.out).mono ?_);rintro e w_1 ⟨rfl,hI,hB,hK⟩;refine ⟨_,rfl,?_⟩;obtain ⟨vS_67,hS,ho⟩:=dg_out HO.out 1 rfl hI hB hK;have HS_67:=aM hS;have HO_1:=aM ho;clear hI hB hK hS ho;have z_2:w_1.cell? ⟨g3,0,none⟩=some (.int .i64 inp):=(HO_1.out.cell 2 rfl 0 rfl))|((with_reducible refine gate_dst (N:=84) rfl ?_);refine Sep.own_litN (Value.int .i64) (h1:=fun _=>rfl) HO_1.out 3 [-1,0,wrap64 (inp+1),5] 4 rfl [.int .i64 (-1),.int .i64 0,.int .i64 (wrap64 (inp+1)),.int .i64 5] rfl (by decide) ?hg (N:=84) ?hd ?hr ?_;(case hd=>rfl);(case hg=>rfl);(case hr=>exact zb_);intro x_84 w_2 ho _;obtain ⟨g_84,n_84,c_84,hn_,rfl⟩:=Sep.own_row_fseal ho 0 rfl (by simp);obtain rfl:n_84=4:=hn_;have HO_2:=aM ho;clear ho)|((with_reducible refine gate_callee (f:=61) rfl ?_);refine goesL_ (some 85) rfl rfl Tryd.func61 (by kernel_rfl) rfl #[.pointer (some ⟨g,0,none⟩),.slice ((some ⟨g_84,0,none⟩)) 4 c_84] rfl zbc_ ?_;(refine (spec_l1Cur_among.calls g s0_0 a67 m67 ((some ⟨g_84,0,none⟩)) c_84 ([-1,0,wrap64 (inp+1),5]) q85 a85 m85 w0 _ (dg_in HO_2.out 2 rfl HS_67.out) HO_2.out.base (by exact (HO_2.out.row_reads 0 rfl).2.2) (by exact (HO_2.out.row_reads 0 rfl).2.1) (fun ad he _=>by injection he with he;subst he;exact HO_2.out.row_ne_box 0 2 (by decide) rfl rfl) HP85.out).mono ?_);rintro e w_3 ⟨rfl,hI,hB,hK⟩;refine ⟨_,rfl,?_⟩;obtain ⟨vS_85,hS,ho⟩:=dg_out HO_2.out 2 rfl hI hB hK;have HS_85:=aM hS;have HO_3:=aM ho;clear hI hB hK hS ho)|((with_reducible refine gate_store (t:=3) (p:=86) (v := .tmp 85) rfl ?_);refine Sep.own_store_at HO_3.out 3 g3 30 _ rfl rfl rfl 3 (.tmp 86) (.tmp 85) rfl 0 rfl (.int .i64 q85) rfl rfl (by kernel_rfl) rfl (by simp) ?_;intro w_4 ho;have HO_4:=aM ho;clear ho;have z_3:w_4.cell? ⟨g3,0,none⟩=some (.int .i64 q85):=(HO_4.out.cell 3 rfl 0 rfl);have z_4:w_4.cell? ⟨g3,1,none⟩=some (.slice Ag_ mg_ cg_):=(HO_4.out.cell 3 rfl 1 rfl);have z_5:w_4.cell? ⟨g3,2,none⟩=some (.int .i64 root):=(HO_4.out.cell 3 rfl 2 rfl))|((with_reducible refine gate_store (t:=30) (p:=2) (v := .tmp 103) rfl ?_);refine Sep.own_store HO_4.out 4 g2 30 _ #[.int .i64 q85,.slice Ag_ mg_ cg_,.int .i64 root] rfl rfl rfl 30 (.tmp 2) (.tmp 103) rfl rfl _ rfl rfl rfl (by kernel_rfl) (by simp [Value.oneCell']) ?_;intro w_5 ho;have HO_5:=aM ho;clear ho))
    obtain ⟨hR,hbx2,hB2,hK2⟩:=Sep.own_end ((((((HO_5.out.front 2 rfl).front 2 rfl).front 4 rfl).front 4 rfl).front 4 rfl).tail.tail.tail) HBW.out HG.out (fun w ok x cs b b' hM=>by obtain rfl:=k70_openM hM;exact k70_mkM _ _ _ _);obtain ⟨A9,c9,e9,hC9⟩:=HS_85.out;subst e9;have HR_:=aM hR;have HX_:=aM (show IsS66 w0 _ g s0_0 _ _ from ⟨A9,c9,hbx2,HGE.out,hC9⟩);have HB_:=aM hB2;have HK_:=aM hK2;clear hR hbx2 hB2 hK2 hC9;(try simp only [Exit.inBlock,Exit.then])
    refine bodyPost_ret (results_cell_row rfl _ _ g2 30 #[.int .i64 q85,.slice Ag_ mg_ cg_,.int .i64 root] (0,0) _ rfl (HO_5.out.blk 4 rfl) Tryd.underlying30 rfl (by kernel_rfl)) rfl ?_
    exact ⟨_,rfl,HR_.out,HX_.out,HB_.out,HK_.out⟩
   ·rw [if_neg c5_1] at h
    by_cases c5_2:q67=2
    ·rw [if_pos c5_2] at h
     subst c5_2;obtain ⟨⟨q90,a90,m90⟩,e90,h_⟩:=oB.mp h;clear h;have h:=h_;clear h_;have HP90:=aM e90;clear e90
     dsimp only at h
     obtain ⟨nn,hnn⟩:∃ nn,wrap64 (40+q90)=nn:=⟨_,rfl⟩;rw [hnn] at h
     split at h
     ·rename_i hn1
      have HN1:=aM hn1;clear hn1
      injection h with h
      injection h with e_0 h
      injection h with e_1 h
      injection h with e_2 h
      injection h with e_3 h
      have e_4:=h;clear h;subst e_0;subst e_1;subst e_2;subst e_3;subst e_4
      go_wp2_with (first | ((with_reducible refine gate_callee (f:=59) rfl ?_);refine goesL_ (some 67) rfl rfl Tryd.func59 (by kernel_rfl) rfl #[.pointer (some ⟨g,0,none⟩),.int .i64 30] rfl zbc_ ?_;(refine (spec_l1Cur_pick.calls g s0_0 a200 m200 30 2 a67 m67 w0 _ (dg_in HO.out 1 rfl HS_.out) HO.out.base HP67.out).mono ?_);rintro e w_1 ⟨rfl,hI,hB,hK⟩;refine ⟨_,rfl,?_⟩;obtain ⟨vS_67,hS,ho⟩:=dg_out HO.out 1 rfl hI hB hK;have HS_67:=aM hS;have HO_1:=aM ho;clear hI hB hK hS ho)|((with_reducible refine gate_callee (f:=59) rfl ?_);refine goesL_ (some 90) rfl rfl Tryd.func59 (by kernel_rfl) rfl #[.pointer (some ⟨g,0,none⟩),.int .i64 2] rfl zbc_ ?_;(refine (spec_l1Cur_pick.calls g s0_0 a67 m67 2 q90 a90 m90 w0 _ (dg_in HO_1.out 1 rfl HS_67.out) HO_1.out.base HP90.out).mono ?_);rintro e w_2 ⟨rfl,hI,hB,hK⟩;refine ⟨_,rfl,?_⟩;obtain ⟨vS_90,hS,ho⟩:=dg_out HO_1.out 1 rfl hI hB hK;have HS_90:=aM hS;have HO_2:=aM ho;clear hI hB hK hS ho))
      (try simp only [Act.put,sI,s0,sS]);(first | rw [hnn] | skip)
      go_loopg [] (nn.toNat - q200.length) (fun kq wr => ∃ (j:Nat) (Ag_:Option Addr) (mg_ cg_:Nat),Aside0 (mg_=q200.length+j∧j+kq=nn.toNat - q200.length)∧Aside0 (Own w0 wr (Item.row k70 70 (.slice Ag_ mg_ cg_) (q200++List.replicate j (⟨0,0,1⟩:S70)) :: Item.box g 66 #[vS_90,.int .i64 a90,.int .u64 m90] :: Item.box g3 30 #[.int .i64 inp,.slice Ag_ mg_ cg_,.int .i64 root] :: Item.box g2 30 #[.int .i64 0,.slice none 0 0,.int .i64 0] :: [Sep.Item.kept w g])))
      case atStart=>exact ⟨0,Ag_,mg_,cg_,⟨by have:=HMG.out;omega,by omega⟩,⟨by rw [show (List.replicate 0 (⟨0,0,1⟩:S70):List S70)=[] from rfl,List.append_nil];exact ((((HO_2.out.front 3 rfl).front 3 rfl).front 3 rfl).front 3 rfl)⟩⟩
      case round =>
       clear HO_2;obtain ⟨j,Ag_,mg_,cg_,HM,HO⟩:=hrel
       cases gk with
       | zero =>
        have c6:decide ((mg_:Int)<nn)=false:=decide_eq_false (by have:=HM.out;omega);obtain rfl:j=nn.toNat - q200.length:=by have:=HM.out;omega
        have z_2:wr.cell? ⟨g3,1,none⟩=some (.slice Ag_ mg_ cg_):=(HO.out.cell 2 rfl 1 rfl);have z_3:wr.cell? ⟨g3,0,none⟩=some (.int .i64 inp):=(HO.out.cell 2 rfl 0 rfl);have z_4:wr.cell? ⟨g3,1,none⟩=some (.slice Ag_ mg_ cg_):=(HO.out.cell 2 rfl 1 rfl);have z_5:wr.cell? ⟨g3,2,none⟩=some (.int .i64 root):=(HO.out.cell 2 rfl 2 rfl)
        go_wp2_with (first | ((with_reducible refine gate_store (t:=30) (p:=2) (v := .tmp 103) rfl ?_);refine Sep.own_store HO.out 3 g2 30 _ #[.int .i64 inp,.slice Ag_ mg_ cg_,.int .i64 root] rfl rfl rfl 30 (.tmp 2) (.tmp 103) rfl rfl _ rfl rfl rfl (by kernel_rfl) (by simp [Value.oneCell']) ?_;intro w_1 ho;have HO_1:=aM ho;clear ho))
        obtain ⟨hR,hbx2,hB2,hK2⟩:=Sep.own_end (((((HO_1.out.front 1 rfl).front 1 rfl).front 3 rfl).front 3 rfl).tail.tail) HBW.out HG.out (fun w ok x cs b b' hM=>by obtain rfl:=k70_openM hM;exact k70_mkM _ _ _ _);obtain ⟨A9,c9,e9,hC9⟩:=HS_90.out;subst e9;have HR_:=aM hR;have HX_:=aM (show IsS66 w0 _ g s0_0 _ _ from ⟨A9,c9,hbx2,HGE.out,hC9⟩);have HB_:=aM hB2;have HK_:=aM hK2;clear hR hbx2 hB2 hK2 hC9;(try simp only [Exit.inBlock,Exit.then])
        refine bodyPost_ret (results_cell_row rfl _ _ g2 30 #[.int .i64 inp,.slice Ag_ mg_ cg_,.int .i64 root] (0,0) _ rfl (HO_1.out.blk 3 rfl) Tryd.underlying30 rfl (by kernel_rfl)) rfl ?_
        exact ⟨_,rfl,HR_.out,HX_.out,HB_.out,HK_.out⟩
       | succ k1 =>
        have c6:decide ((mg_:Int)<nn)=true:=decide_eq_true (by have:=HM.out;omega);have z_2:wr.cell? ⟨g3,1,none⟩=some (.slice Ag_ mg_ cg_):=(HO.out.cell 2 rfl 1 rfl);have z_3:wr.cell? ⟨g3,1,none⟩=some (.slice Ag_ mg_ cg_):=(HO.out.cell 2 rfl 1 rfl)
        go_wp2_with (first | ((with_reducible refine gate_dst (N:=101) rfl ?_);at_builtin;refine Sep.own_append k70 HO.out 0 _ (q200++List.replicate j (⟨0,0,1⟩:S70)) 70 rfl rfl (.tmp 98) (.tmp 100) 28 (.agg #[.int .i64 0,.int .i64 0,.int .i64 0]) 24 rfl Tryd.underlying28 info70 rfl (by decide) (by omega) ((⟨0,0,1⟩:S70)) [.int .i64 0,.int .i64 0,.int .i64 1] rfl rfl (k70_mkM _ _ _ _) (by have:=HM.out;have:=HN1.out;simp only [List.length_append,List.length_replicate,List.length_singleton];omega) ?_;intro x_101 w_2 ho;have ho_:=ho;clear ho;rw [show ((q200++List.replicate j (⟨0,0,1⟩:S70)) ++ [(⟨0,0,1⟩:S70)]:List _)=q200++List.replicate (j+1) (⟨0,0,1⟩:S70) from by rw [List.append_assoc,← List.replicate_succ']] at ho_;have ho:=ho_;clear ho_;obtain ⟨A_101,n_101,c_101,hn_,rfl⟩:=ho.row_seal 0 rfl;have HN_101:=aM hn_;clear hn_;have HO_2:=aM ho;clear ho)|((with_reducible refine gate_store (t:=28) (p:=102) (v := .tmp 101) rfl ?_);refine Sep.own_store_at HO_2.out 2 g3 30 _ rfl rfl rfl 28 (.tmp 102) (.tmp 101) rfl 1 rfl (.slice A_101 n_101 c_101) rfl rfl (by kernel_rfl) rfl (by simp) ?_;intro w_3 ho;have HO_3:=aM ho;clear ho))
        go_roundg k1
        case measure=>omega
        case rel=>exact ⟨j+1,_,_,_,⟨by rw [HN_101.out,List.length_append,List.length_replicate],by have:=HM.out;omega⟩,⟨((((HO_3.out.front 3 rfl).front 3 rfl).front 3 rfl).front 3 rfl)⟩⟩
     ·cases h
    ·rw [if_neg c5_2] at h
     have c5b0:(q67 == 0)=false:=beq_eq_false_iff_ne.mpr c5_0;clear c5_0;have c5b1:(q67 == 1)=false:=beq_eq_false_iff_ne.mpr c5_1;clear c5_1;have c5b2:(q67 == 2)=false:=beq_eq_false_iff_ne.mpr c5_2;clear c5_2
     injection h with h
     injection h with e_0 h
     injection h with e_1 h
     injection h with e_2 h
     injection h with e_3 h
     have e_4:=h;clear h;subst e_0;subst e_1;subst e_2;subst e_3;subst e_4
     go_wp2_with (first | ((with_reducible refine gate_callee (f:=59) rfl ?_);refine goesL_ (some 67) rfl rfl Tryd.func59 (by kernel_rfl) rfl #[.pointer (some ⟨g,0,none⟩),.int .i64 30] rfl zbc_ ?_;(refine (spec_l1Cur_pick.calls g s0_0 a200 m200 30 q67 a67 m67 w0 _ (dg_in HO.out 1 rfl HS_.out) HO.out.base HP67.out).mono ?_);rintro e w_1 ⟨rfl,hI,hB,hK⟩;refine ⟨_,rfl,?_⟩;obtain ⟨vS_67,hS,ho⟩:=dg_out HO.out 1 rfl hI hB hK;have HS_67:=aM hS;have HO_1:=aM ho;clear hI hB hK hS ho;have z_2:w_1.cell? ⟨g3,0,none⟩=some (.int .i64 inp):=(HO_1.out.cell 2 rfl 0 rfl);have z_3:w_1.cell? ⟨g3,1,none⟩=some (.slice Ag_ mg_ cg_):=(HO_1.out.cell 2 rfl 1 rfl);have z_4:w_1.cell? ⟨g3,2,none⟩=some (.int .i64 root):=(HO_1.out.cell 2 rfl 2 rfl))|((with_reducible refine gate_store (t:=30) (p:=2) (v := .tmp 103) rfl ?_);refine Sep.own_store HO_1.out 3 g2 30 _ #[.int .i64 inp,.slice Ag_ mg_ cg_,.int .i64 root] rfl rfl rfl 30 (.tmp 2) (.tmp 103) rfl rfl _ rfl rfl rfl (by kernel_rfl) (by simp [Value.oneCell']) ?_;intro w_2 ho;have HO_2:=aM ho;clear ho))
     obtain ⟨hR,hbx2,hB2,hK2⟩:=Sep.own_end (((((HO_2.out.front 1 rfl).front 1 rfl).front 3 rfl).front 3 rfl).tail.tail) HBW.out HG.out (fun w ok x cs b b' hM=>by obtain rfl:=k70_openM hM;exact k70_mkM _ _ _ _);obtain ⟨A9,c9,e9,hC9⟩:=HS_67.out;subst e9;have HR_:=aM hR;have HX_:=aM (show IsS66 w0 _ g s0_0 _ _ from ⟨A9,c9,hbx2,HGE.out,hC9⟩);have HB_:=aM hB2;have HK_:=aM hK2;clear hR hbx2 hB2 hK2 hC9;(try simp only [Exit.inBlock,Exit.then])
     refine bodyPost_ret (results_cell_row rfl _ _ g2 30 #[.int .i64 inp,.slice Ag_ mg_ cg_,.int .i64 root] (0,0) _ rfl (HO_2.out.blk 3 rfl) Tryd.underlying30 rfl (by kernel_rfl)) rfl ?_
     exact ⟨_,rfl,HR_.out,HX_.out,HB_.out,HK_.out⟩
end Go.Proofs.YtlnhpkjioppbiaaDoor.QFnDiagrams
