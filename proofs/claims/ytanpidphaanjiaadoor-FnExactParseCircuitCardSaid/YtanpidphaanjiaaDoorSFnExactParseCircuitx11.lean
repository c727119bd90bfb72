/- Functions of FnExactParseCircuit, each as a Lean function, with the proof that the Go code comes to its answers. -/
import Derived.Test.YtanpidphaanjiaaDoorSFnExactParseCircuitx2
import Derived.Test.YtanpidphaanjiaaDoorSFnExactParseCircuitx6
import Derived.Test.YtanpidphaanjiaaDoorSFnExactParseCircuitx10
namespace Go.Proofs.YtanpidphaanjiaaDoor.QFnExactParseCircuit
open Go.RowKit Go.Proofs.YtanpidphaanjiaaDoorW.PrintWords Go.Proofs.YtanpidphaanjiaaDoorW.PrintLast Go.Proofs.YtanpidphaanjiaaDoorW.PrintMore
open Go.Proofs.YtanpidphaanjiaaDoorW.PrintWords renaming pw_below_drewN→pN,below_drew1→p1,below_alloc→pA
open Go.Proofs.YtanpidphaanjiaaDoorW.PrintWords.Kd renaming R_alloc→kA,R_drewN→kN,R_drew→kD,Q_alloc→qA,Q_drewN→qN,Q_drew→qD,C_alloc→cA,C_drewN→cN,C_drew→cD
open Go.Proofs.YtanpidphaanjiaaDoorW.PrintWords.Aside0 renaming mk→aM
open List renaming setIfInBounds_toArray→sI,set_cons_zero→s0,set_cons_succ→sS,map_toArray→mT,length_take→lT,length_drop→lD,map_cons→mC,map_nil→mN
open Option renaming bind_eq_some_iff→oB,bind_some→oS
attribute [local go_sem] max2_int min2_int max_two min_two max_three min_three max_four min_four
set_option maxHeartbeats 8000000
set_option maxRecDepth 100000
set_option linter.unusedVariables false
set_option linter.unusedSimpArgs false
def laws_markIntS.l0:Nat→List Int→Int→Int→Option (Int×List Int)
 | 0,_,_,_=>none
 | k+1,x0,x1,x5=>if x5<(x0.length:Int) then (if 0≤x5 then (laws_markIntS.l0 k (x0.set (x5:Int).toNat x1) (wrap64 (x1+1)) (wrap64 (x5+1))) else (none)) else (some (x1,x0))
def laws_markIntS.f (k:Nat) (l0:List Int) (a1:Int):Option (Int×List Int):=laws_markIntS.l0 k l0 a1 0
theorem laws_markIntS.mono_l:∀ k,(∀ y0 y1 y2,LeO (laws_markIntS.l0 k y0 y1 y2) (laws_markIntS.l0 (k+1) y0 y1 y2))
 | 0=>fun _ _ _ r h=>by simp [laws_markIntS.l0] at h
 | k+1=>by
  have ih0:=laws_markIntS.mono_l k
  ·intro y0 y1 y2
   unfold laws_markIntS.l0
   repeat' first
   | (with_reducible exact ih0 _ _ _)
   | (with_reducible exact LeO.refl _)
   | (with_reducible exact LeO.none _)
   | (with_reducible refine LeO.ite ?_ ?_)
   | (with_reducible refine LeO.bind ?_ (fun _=>?_))
   | exact ih0 _ _ _
   | exact LeO.none _
   | refine LeO.ite ?_ ?_
   | refine LeO.bind ?_ (fun _=>?_)
theorem laws_markIntS.mono:∀ a0 a1 k,LeO (laws_markIntS.f k a0 a1) (laws_markIntS.f (k+1) a0 a1):=by
 intro a0 a1 k
 have ih0:=laws_markIntS.mono_l k
 unfold laws_markIntS.f
 repeat' first
   | (with_reducible exact ih0 _ _ _)
   | (with_reducible exact LeO.refl _)
   | (with_reducible exact LeO.none _)
   | (with_reducible refine LeO.ite ?_ ?_)
   | (with_reducible refine LeO.bind ?_ (fun _=>?_))
   | exact ih0 _ _ _
   | exact LeO.none _
   | refine LeO.ite ?_ ?_
   | refine LeO.bind ?_ (fun _=>?_)
theorem laws_markIntS.calls (k:Nat) (P0_:Nat→Prop) (u9000_:Value) (l0:List Int) (a1:Int) (r1:Int) (r2:List Int) (w0 w:World) (hB:Below w0.heap.size w0 w) (ho0:Kd.R (Kd.int .i64) 3 w w0.heap.size P0_ u9000_ l0) (h:laws_markIntS.f k l0 a1=some (r1,r2)) :
  Calls Tryd.prog 34 #[u9000_,.int .i64 a1] w fun e w'=>e = .returned (.int .i64 r1)∧Kd.R (Kd.int .i64) 3 w' w0.heap.size (fun k_=>(P0_ k_∨w.heap.size≤k_)) u9000_ r2∧Below w0.heap.size w0 w'∧Kept w w' (fun k_=>P0_ k_):=by
 have HO0:=aM (show Kd.R (Kd.int .i64) 3 w w0.heap.size (fun k_=>(P0_ k_∨w.heap.size≤k_)) u9000_ l0 from Kd.R_mono ho0 (fun k_ hk=>(.inl hk)))
 have HK:=aM (Kept.refl w (fun k_=>P0_ k_))
 have HW0:=aM hB.size
 have HB:=aM hB
 clear hB
 have H:(laws_markIntS.l0 k l0 a1 0)=some (r1,r2):=h
 clear h
 have H':=aM H
 clear H
 go_enter Tryd.func34,Tryd.ntmps34
 go_wp2
 go_loopg [1,5] k (fun kq v1 v5 w' => ∃ (x0_1:List Int) (x1_1:Int) (x5_1:Int),v1 = .int .i64 x1_1∧v5 = .int .i64 x5_1∧Aside0 (laws_markIntS.l0 kq x0_1 x1_1 x5_1=some (r1,r2))∧Aside0 (kq≤k)∧Aside0 (Kd.R (Kd.int .i64) 3 w' w0.heap.size (fun k_=>(P0_ k_∨w.heap.size≤k_)) u9000_ x0_1)∧Aside0 (Kept w w' (fun k_=>P0_ k_))∧Aside0 (Below w0.heap.size w0 w'))
 case atStart=>exact ⟨(l0),(a1),(0),zc_,zc_,H',⟨Nat.le_refl _⟩,⟨zr HO0.out⟩,⟨zcc_⟩,⟨zb_⟩⟩
 case round =>
  clear H';obtain ⟨x0_1,x1_1,x5_1,rfl,rfl,HA,HK1,HO_0,HK,HB⟩:=hrel
  cases gk with
  | zero=>exact absurd HA.out (by simp [laws_markIntS.l0])
  | succ k1 =>
   have H:=HA.out;clear HA
   simp only [laws_markIntS.l0] at H
   by_cases c3:x5_1<(x0_1.length:Int)
   ·rw [if_pos c3] at H
    have c3b0:=decide_eq_true c3;clear c3
    by_cases c4:0≤x5_1
    ·rw [if_pos c4] at H
     have c4b0:=decide_eq_true c4;clear c4;obtain ⟨y298,hy298⟩:∃ y_:List Int,y_=(x0_1.set (x5_1:Int).toNat x1_1):=⟨_,rfl⟩;replace H:(laws_markIntS.l0 k1 y298 (wrap64 (x1_1+1)) (wrap64 (x5_1+1)))=some (r1,r2):=q3y_ hy298 H
     have Ny298:=aM hy298;clear hy298;have H':=aM H;clear H;obtain ⟨Ao6,co6,eo6⟩:=Kd.R_slice HO_0.out;subst eo6;have p5:0≤(x5_1:Int):=of_decide_eq_true za_;have q5:(x5_1:Int)<((x0_1.length:Int):Int):=of_decide_eq_true za_;obtain ⟨go5,co5,eo5,gb5,gl5,cl5,HG5⟩:=Kd.R_form HO_0.out (by omega);(first | cases eo5 | (injection eo5 with ea_ en_ ec_;(first | subst ea_ | (injection ea_ with ea_;subst ea_));subst ec_;clear en_));have GB5:=aM gb5;have GG5:=aM HG5;clear gb5 gl5 HG5;have HMgo5:=aM (show (P0_ go5∨w.heap.size≤go5) from (HO_0.out.1 _ rfl));obtain ⟨hx5_0,hf5_0⟩:=Kd.R_celln 0 HO_0.out (x5_1:Int) p5 q5;replace p5:=eq_true p5;replace q5:=eq_true q5;have HP7:=Kd.R_putg HO_0.out (x5_1:Int) x1_1
     go_wp2_with (first | ((with_reducible refine gate_store (t:=3) (p:=15) rfl ?_);refine store_event (t:=3) (p:=15) (v:=?vo_w8) (w1:=(wr.setCell ⟨go5,(x5_1:Int).toNat,none⟩ (.int .i64 x1_1))) ?hg ?ho ?hn ?hr ?_;(case ho=>rfl);(case hg=>rfl);(case hn=>rfl);(case hr=>exact ze_);intro w8 hw;have hg:wr.grownBy w8 (some go5):=(by rw [hw];exact HP7.2);have hp_:Kd.R (Kd.int .i64) 3 w8 w0.heap.size (fun k_=>(P0_ k_∨w.heap.size≤k_)) (.slice (some ⟨go5,0,none⟩) x0_1.length co6) y298:=(by rw [hw,Ny298.out];exact HP7.1);clear HP7;have n_:=z (hp_)<|z ((by rw [hw];exact below_set (HB.out) GB5.out:Below w0.heap.size w0 w8))<|z1 (Kept.of_grown (S:=(fun k_=>P0_ k_)) hg zcc_ (fun k_ e_=>(HO_0.out.1 k_ e_)));clear HO_0 HB HK;obtain ⟨HO_0,HB,HK⟩:=n_;clear hg hw hp_))
     go_roundg k1
     case measure=>have:=HK1.out;omega
     case rel=>exact ⟨(y298),(wrap64 (x1_1+1)),(wrap64 (x5_1+1)),zc_,zc_,H',⟨zbd_⟩,⟨zr HO_0.out⟩,⟨zcc_⟩,⟨zb_⟩⟩
    ·rw [if_neg c4] at H
     exact q3n_ H
   ·rw [if_neg c3] at H
    have c3b0:=decide_eq_false c3;clear c3
    simp only [Option.some.injEq,Prod.mk.injEq] at H
    obtain ⟨rfl,rfl⟩:=H;obtain ⟨Ao9,co9,eo9⟩:=Kd.R_slice HO_0.out;subst eo9
    go_wp2
    go_ret
    exact ⟨zf_,by refine zr ?_;exact HO_0.out,zb_,zcc_⟩
def laws_markCircuit.f (k:Nat) (a0_0:Int) (l0_1:List (S47)) (l0_2:List Int) (a1:Int):Option (Int×(List (S47))×List Int):=(laws_markGateS.f k l0_1 a1).bind fun bt300=>((laws_markIntS.f k l0_2 bt300.1).bind fun bt302=>(some (bt302.1,bt300.2,bt302.2)))
theorem laws_markCircuit.mono:∀ a0 a1 a2 a3 k,LeO (laws_markCircuit.f k a0 a1 a2 a3) (laws_markCircuit.f (k+1) a0 a1 a2 a3):=by
 intro a0 a1 a2 a3 k
 unfold laws_markCircuit.f
 repeat' first
   | (with_reducible exact laws_markGateS.mono _ _ _)
   | (with_reducible exact laws_markIntS.mono _ _ _)
   | (with_reducible exact LeO.refl _)
   | (with_reducible exact LeO.none _)
   | (with_reducible refine LeO.ite ?_ ?_)
   | (with_reducible refine LeO.bind ?_ (fun _=>?_))
   | exact laws_markGateS.mono _ _ _
   | exact laws_markIntS.mono _ _ _
   | exact LeO.none _
   | refine LeO.ite ?_ ?_
   | refine LeO.bind ?_ (fun _=>?_)
theorem laws_markCircuit.calls (k:Nat) (a0_0:Int) (P0_1_:Nat→Prop) (u9000_:Value) (l0_1:List (S47)) (P0_2_:Nat→Prop) (u9001_:Value) (l0_2:List Int) (a1:Int) (r1:Int) (r2:List (S47)) (r3:List Int) (w0 w:World) (hB:Below w0.heap.size w0 w) (ho0_1:Kd.R k47 47 w w0.heap.size P0_1_ u9000_ l0_1) (ho0_2:Kd.R (Kd.int .i64) 3 w w0.heap.size P0_2_ u9001_ l0_2) (h:laws_markCircuit.f k a0_0 l0_1 l0_2 a1=some (r1,r2,r3)) :
  Calls Tryd.prog 12 #[.agg #[.int .i64 a0_0,u9000_,u9001_],.int .i64 a1] w fun e w'=>e = .returned (.int .i64 r1)∧Kd.R k47 47 w' w0.heap.size (fun k_=>((P0_1_ k_∨P0_2_ k_)∨w.heap.size≤k_)) u9000_ r2∧Kd.R (Kd.int .i64) 3 w' w0.heap.size (fun k_=>((P0_1_ k_∨P0_2_ k_)∨w.heap.size≤k_)) u9001_ r3∧Below w0.heap.size w0 w'∧Kept w w' (fun k_=>P0_1_ k_∨P0_2_ k_):=by
 have hu31:=Tryd.underlying31
 have HO0_1:=aM (show Kd.R k47 47 w w0.heap.size (fun k_=>((P0_1_ k_∨P0_2_ k_)∨w.heap.size≤k_)) u9000_ l0_1 from Kd.R_mono ho0_1 (fun k_ hk=>(.inl (.inl hk))))
 have HO0_2:=aM (show Kd.R (Kd.int .i64) 3 w w0.heap.size (fun k_=>((P0_1_ k_∨P0_2_ k_)∨w.heap.size≤k_)) u9001_ l0_2 from Kd.R_mono ho0_2 (fun k_ hk=>(.inl (.inr hk))))
 have HK:=aM (Kept.refl w (fun k_=>P0_1_ k_∨P0_2_ k_))
 have HW0:=aM hB.size
 have HB:=aM hB
 clear hB
 have H:((laws_markGateS.f k l0_1 a1).bind fun bt300=>((laws_markIntS.f k l0_2 bt300.1).bind fun bt302=>(some (bt302.1,bt300.2,bt302.2))))=some (r1,r2,r3):=h
 clear h
 replace H:=oB.mp H
 obtain ⟨⟨t300,t301⟩,A30,H⟩:=H
 replace H:((laws_markIntS.f k l0_2 t300).bind fun bt302=>(some (bt302.1,t301,bt302.2)))=some (r1,r2,r3):=H
 have A3:=aM A30
 clear A30
 replace H:=oB.mp H
 obtain ⟨⟨t302,t303⟩,A40,H⟩:=H
 replace H:(some (t302,t301,t303))=some (r1,r2,r3):=H
 have A4:=aM A40
 clear A40
 simp only [Option.some.injEq,Prod.mk.injEq] at H
 obtain ⟨rfl,rfl,rfl⟩:=H
 obtain ⟨Ao5,co5,eo5⟩:=Kd.R_slice HO0_1.out
 subst eo5
 obtain ⟨Ao6,co6,eo6⟩:=Kd.R_slice HO0_2.out
 subst eo6
 go_enter Tryd.func12,Tryd.ntmps12
 go_wp2_with (first | ((with_reducible refine gate_dst (N:=2) rfl ?_);refine box_event ?hg (N:=2) ?hd (cs:=#[.int .i64 a0_0,.slice Ao5 l0_1.length co5,.slice Ao6 l0_2.length co6]) (t:=31) ?hr ?_;(case hd=>rfl);(case hg=>rfl);(case hr=>exact ze_);intro gb299 hg w7 hbox hb;have n_:=z (Kd.R_below (zr HO0_1.out) hb)<|z (Kd.R_below (zr HO0_2.out) hb)<|z (Kept.below (S:=(fun k_=>P0_1_ k_∨P0_2_ k_)) zcc_ hb)<|z (below_step zb_ hb)<|z (hbox)<|z ((by rw [hg];exact (by first | exact HK.out.1 | exact (show Kept w _ (fun k_=>P0_1_ k_∨P0_2_ k_) from zcc_).1):w.heap.size≤gb299))<|z1 ((by rw [hg];exact (below_size zb_):w0.heap.size≤gb299));clear HO0_1 HO0_2 HK HB;obtain ⟨HO0_1,HO0_2,HK,HB,BK299,GW299,GE299⟩:=n_;clear hb hbox hg;obtain ⟨hcz8_0,hcz8_1,hcz8_2,hfz8_0,hfz8_1,hfz8_2⟩:=zk3 BK299.out)|((with_reducible refine gate_callee (f:=33) rfl ?_);refine goesL_ (some 8) rfl rfl Tryd.func33 (by kernel_rfl) rfl #[.slice Ao5 l0_1.length co5,.int .i64 a1] rfl zd_ ?_;(with_reducible refine (laws_markGateS.calls k (fun k_=>some k_=(.slice Ao5 l0_1.length co5:Value).ownBlock) (.slice Ao5 l0_1.length co5) l0_1 a1 t300 t301 w0 _ ?side1 ?side2 A3.out).mono ?_);(case side1=>exact zfb_);(case side2=>exact Kd.R_tight rfl HO0_1.out);rintro e w9 ⟨rfl,hy0,hb,hkp⟩;refine ⟨_,rfl,?_⟩;have n_:=z (Kd.R_reok rfl hy0 (fun k_ e_=>HO0_1.out.1 k_ e_))<|z (Kd.R_mono (ok':=fun k_=>((P0_1_ k_∨P0_2_ k_)∨w.heap.size≤k_)) (Kd.R_keptB ((Kd.R_apart' HO0_2.out (Kd.R_typed HO0_1.out) (by decide))) hkp (fun k_ hk_ hs_=>(hk_.2) hs_)) (fun k_ hk_=>hk_.1.1))<|z (blk_kept (zb BK299.out) hkp (fun hs_=>(fun e_=>(Kd.R_ne HO0_1.out BK299.out (by decide)) e_) hs_))<|z (Kept.then_ (S:=(fun k_=>P0_1_ k_∨P0_2_ k_)) zfc_ hkp (fun k_ hs_=>(fun e_=>(HO0_1.out.1 k_ e_.symm)) hs_))<|z1 (hb);clear HO0_1 HO0_2 BK299 HK HB;obtain ⟨HO0_1,HO0_2,BK299,HK,HB⟩:=n_;(try clear hb);(try clear hkp);(try clear hy0);obtain ⟨hcz10_0,hcz10_1,hcz10_2,hfz10_0,hfz10_1,hfz10_2⟩:=zk3 BK299.out)|((with_reducible refine gate_callee (f:=34) rfl ?_);refine goesL_ (some 12) rfl rfl Tryd.func34 (by kernel_rfl) rfl #[.slice Ao6 l0_2.length co6,.int .i64 t300] rfl zd_ ?_;(with_reducible refine (laws_markIntS.calls k (fun k_=>some k_=(.slice Ao6 l0_2.length co6:Value).ownBlock) (.slice Ao6 l0_2.length co6) l0_2 t300 t302 t303 w0 _ ?side1 ?side2 A4.out).mono ?_);(case side1=>exact zfb_);(case side2=>exact Kd.R_tight rfl HO0_2.out);rintro e w11 ⟨rfl,hy0,hb,hkp⟩;refine ⟨_,rfl,?_⟩;have n_:=z (Kd.R_mono (ok':=fun k_=>((P0_1_ k_∨P0_2_ k_)∨w.heap.size≤k_)) (Kd.R_keptB ((Kd.R_apart' HO0_1.out (Kd.R_typed HO0_2.out) (by decide))) hkp (fun k_ hk_ hs_=>(hk_.2) hs_)) (fun k_ hk_=>hk_.1.1))<|z (Kd.R_reok rfl hy0 (fun k_ e_=>HO0_2.out.1 k_ e_))<|z (blk_kept (zb BK299.out) hkp (fun hs_=>(fun e_=>(Kd.R_ne HO0_2.out BK299.out (by decide)) e_) hs_))<|z (Kept.then_ (S:=(fun k_=>P0_1_ k_∨P0_2_ k_)) zfc_ hkp (fun k_ hs_=>(fun e_=>(HO0_2.out.1 k_ e_.symm)) hs_))<|z1 (hb);clear HO0_1 HO0_2 BK299 HK HB;obtain ⟨HO0_1,HO0_2,BK299,HK,HB⟩:=n_;(try clear hb);(try clear hkp);(try clear hy0)))
 go_ret
 exact ⟨zf_,by refine zr ?_;exact HO0_1.out,by refine zr ?_;exact HO0_2.out,zfb_,zfc_⟩
def laws_heldGateS.l0:Nat→List (S47)→Int→Int→Option (Int)
 | 0,_,_,_=>none
 | k+1,x0,x1,x5=>if x5<(x0.length:Int) then (if 0≤x5 then (if ((rd_T47 x0 x5).f0)=x1 then (if ((rd_T47 x0 x5).f1)=(wrap64 (x1+1)) then (if ((rd_T47 x0 x5).f2)=(wrap64 ((wrap64 (x1+1))+1)) then (laws_heldGateS.l0 k x0 (wrap64 ((wrap64 ((wrap64 (x1+1))+1))+1)) (wrap64 (x5+1))) else (some (-1))) else (some (-1))) else (some (-1))) else (none)) else (some x1)
def laws_heldGateS.f (k:Nat) (l0:List (S47)) (a1:Int):Option (Int):=laws_heldGateS.l0 k l0 a1 0
theorem laws_heldGateS.mono_l:∀ k,(∀ y0 y1 y2,LeO (laws_heldGateS.l0 k y0 y1 y2) (laws_heldGateS.l0 (k+1) y0 y1 y2))
 | 0=>fun _ _ _ r h=>by simp [laws_heldGateS.l0] at h
 | k+1=>by
  have ih0:=laws_heldGateS.mono_l k
  ·intro y0 y1 y2
   unfold laws_heldGateS.l0
   repeat' first
   | (with_reducible exact ih0 _ _ _)
   | (with_reducible exact LeO.refl _)
   | (with_reducible exact LeO.none _)
   | (with_reducible refine LeO.ite ?_ ?_)
   | (with_reducible refine LeO.bind ?_ (fun _=>?_))
   | exact ih0 _ _ _
   | exact LeO.none _
   | refine LeO.ite ?_ ?_
   | refine LeO.bind ?_ (fun _=>?_)
theorem laws_heldGateS.mono:∀ a0 a1 k,LeO (laws_heldGateS.f k a0 a1) (laws_heldGateS.f (k+1) a0 a1):=by
 intro a0 a1 k
 have ih0:=laws_heldGateS.mono_l k
 unfold laws_heldGateS.f
 repeat' first
   | (with_reducible exact ih0 _ _ _)
   | (with_reducible exact LeO.refl _)
   | (with_reducible exact LeO.none _)
   | (with_reducible refine LeO.ite ?_ ?_)
   | (with_reducible refine LeO.bind ?_ (fun _=>?_))
   | exact ih0 _ _ _
   | exact LeO.none _
   | refine LeO.ite ?_ ?_
   | refine LeO.bind ?_ (fun _=>?_)
theorem laws_heldGateS.calls (k:Nat) (A0:Option Addr) (c0:Nat) (l0:List (S47)) (a1:Int) (r:Int) (w:World) (hr0:Kd.C k47 w A0 l0.length l0) (hc0:l0.length≤c0) (h:laws_heldGateS.f k l0 a1=some r) :
  Calls Tryd.prog 35 #[.slice A0 l0.length c0,.int .i64 a1] w fun e w'=>e = .returned (.int .i64 r)∧Drawn0 w w':=by
 have HR0:=aM hr0
 have HC0:=aM hc0
 clear hr0 hc0
 have H:(laws_heldGateS.l0 k l0 a1 0)=some r:=h
 clear h
 have H':=aM H
 clear H
 go_enter Tryd.func35,Tryd.ntmps35
 go_wp2
 go_loopg [1,5] k (fun kq v1 v5 w' => ∃ (x1_1:Int) (x5_1:Int),v1 = .int .i64 x1_1∧v5 = .int .i64 x5_1∧Aside0 (laws_heldGateS.l0 kq l0 x1_1 x5_1=some r)∧Aside0 (kq≤k)∧Drawn0 w w')
 case atStart=>exact ⟨(a1),(0),zc_,zc_,H',⟨Nat.le_refl _⟩,zg_⟩
 case round =>
  clear H';obtain ⟨x1_1,x5_1,rfl,rfl,HA,HK1,⟨m1,rfl⟩⟩:=hrel
  cases gk with
  | zero=>exact absurd HA.out (by simp [laws_heldGateS.l0])
  | succ k1 =>
   have H:=HA.out;clear HA
   simp only [laws_heldGateS.l0] at H
   by_cases c3:x5_1<(l0.length:Int)
   ·rw [if_pos c3] at H
    have c3b0:=decide_eq_true c3;clear c3
    by_cases c4:0≤x5_1
    ·rw [if_pos c4] at H
     have c4b0:=decide_eq_true c4;clear c4
     by_cases c5:((rd_T47 l0 x5_1).f0)=x1_1
     ·rw [if_pos c5] at H
      have c5b0:=beq_iff_eq.mpr c5;have c5b1:=bne_eq_false_iff_eq.mpr c5;clear c5
      by_cases c6:((rd_T47 l0 x5_1).f1)=(wrap64 (x1_1+1))
      ·rw [if_pos c6] at H
       have c6b0:=beq_iff_eq.mpr c6;have c6b1:=bne_eq_false_iff_eq.mpr c6;clear c6
       by_cases c7:((rd_T47 l0 x5_1).f2)=(wrap64 ((wrap64 (x1_1+1))+1))
       ·rw [if_pos c7] at H
        have c7b0:=beq_iff_eq.mpr c7;have c7b1:=bne_eq_false_iff_eq.mpr c7;clear c7;have H':=aM H;clear H;have p304:0≤(x5_1:Int):=of_decide_eq_true za_;have q304:x5_1<(l0.length:Int):=of_decide_eq_true za_;obtain ⟨ad304,e304,hx304_0,hx304_1,hx304_2⟩:=at_T47 HR0.out x5_1 p304 q304
        cases e304
        replace p304:=eq_true p304;replace q304:=eq_true q304;have p305:0≤(x5_1:Int):=of_decide_eq_true za_;have q305:x5_1<(l0.length:Int):=of_decide_eq_true za_;obtain ⟨ad305,e305,hx305_0,hx305_1,hx305_2⟩:=at_T47 HR0.out x5_1 p305 q305;obtain rfl:ad304=ad305:=(by injection e305);replace p305:=eq_true p305;replace q305:=eq_true q305;have p306:0≤(x5_1:Int):=of_decide_eq_true za_;have q306:x5_1<(l0.length:Int):=of_decide_eq_true za_;obtain ⟨ad306,e306,hx306_0,hx306_1,hx306_2⟩:=at_T47 HR0.out x5_1 p306 q306;obtain rfl:ad304=ad306:=(by injection e306);replace p306:=eq_true p306;replace q306:=eq_true q306
        go_wp2
        go_roundg k1
        case measure=>have:=HK1.out;omega
        case rel=>exact ⟨(wrap64 ((wrap64 ((wrap64 (x1_1+1))+1))+1)),(wrap64 (x5_1+1)),zc_,zc_,H',⟨zbd_⟩,zg_⟩
       ·rw [if_neg c7] at H
        have c7b0:=beq_eq_false_iff_ne.mpr c7;have c7b1:=bne_iff_ne.mpr c7;obtain rfl:=Option.some.inj H;have p304:0≤(x5_1:Int):=of_decide_eq_true za_;have q304:x5_1<(l0.length:Int):=of_decide_eq_true za_;obtain ⟨ad304,e304,hx304_0,hx304_1,hx304_2⟩:=at_T47 HR0.out x5_1 p304 q304
        cases e304
        replace p304:=eq_true p304;replace q304:=eq_true q304;have p305:0≤(x5_1:Int):=of_decide_eq_true za_;have q305:x5_1<(l0.length:Int):=of_decide_eq_true za_;obtain ⟨ad305,e305,hx305_0,hx305_1,hx305_2⟩:=at_T47 HR0.out x5_1 p305 q305;obtain rfl:ad304=ad305:=(by injection e305);replace p305:=eq_true p305;replace q305:=eq_true q305;have p306:0≤(x5_1:Int):=of_decide_eq_true za_;have q306:x5_1<(l0.length:Int):=of_decide_eq_true za_;obtain ⟨ad306,e306,hx306_0,hx306_1,hx306_2⟩:=at_T47 HR0.out x5_1 p306 q306;obtain rfl:ad304=ad306:=(by injection e306);replace p306:=eq_true p306;replace q306:=eq_true q306
        go_wp2
        go_ret
        exact ⟨zc_,zg_⟩
      ·rw [if_neg c6] at H
       have c6b0:=beq_eq_false_iff_ne.mpr c6;have c6b1:=bne_iff_ne.mpr c6;obtain rfl:=Option.some.inj H;have p304:0≤(x5_1:Int):=of_decide_eq_true za_;have q304:x5_1<(l0.length:Int):=of_decide_eq_true za_;obtain ⟨ad304,e304,hx304_0,hx304_1,hx304_2⟩:=at_T47 HR0.out x5_1 p304 q304
       cases e304
       replace p304:=eq_true p304;replace q304:=eq_true q304;have p305:0≤(x5_1:Int):=of_decide_eq_true za_;have q305:x5_1<(l0.length:Int):=of_decide_eq_true za_;obtain ⟨ad305,e305,hx305_0,hx305_1,hx305_2⟩:=at_T47 HR0.out x5_1 p305 q305;obtain rfl:ad304=ad305:=(by injection e305);replace p305:=eq_true p305;replace q305:=eq_true q305
       go_wp2
       go_ret
       exact ⟨zc_,zg_⟩
     ·rw [if_neg c5] at H
      have c5b0:=beq_eq_false_iff_ne.mpr c5;have c5b1:=bne_iff_ne.mpr c5;obtain rfl:=Option.some.inj H;have p304:0≤(x5_1:Int):=of_decide_eq_true za_;have q304:x5_1<(l0.length:Int):=of_decide_eq_true za_;obtain ⟨ad304,e304,hx304_0,hx304_1,hx304_2⟩:=at_T47 HR0.out x5_1 p304 q304
      cases e304
      replace p304:=eq_true p304;replace q304:=eq_true q304
      go_wp2
      go_ret
      exact ⟨zc_,zg_⟩
    ·rw [if_neg c4] at H
     exact q3n_ H
   ·rw [if_neg c3] at H
    have c3b0:=decide_eq_false c3;clear c3;obtain rfl:=Option.some.inj H
    go_wp2
    go_ret
    exact ⟨zc_,zg_⟩
def laws_heldIntS.l0:Nat→List Int→Int→Int→Option (Int)
 | 0,_,_,_=>none
 | k+1,x0,x1,x5=>if x5<(x0.length:Int) then (if 0≤x5 then (if (rd x0 x5)=x1 then (laws_heldIntS.l0 k x0 (wrap64 (x1+1)) (wrap64 (x5+1))) else (some (-1))) else (none)) else (some x1)
def laws_heldIntS.f (k:Nat) (l0:List Int) (a1:Int):Option (Int):=laws_heldIntS.l0 k l0 a1 0
theorem laws_heldIntS.mono_l:∀ k,(∀ y0 y1 y2,LeO (laws_heldIntS.l0 k y0 y1 y2) (laws_heldIntS.l0 (k+1) y0 y1 y2))
 | 0=>fun _ _ _ r h=>by simp [laws_heldIntS.l0] at h
 | k+1=>by
  have ih0:=laws_heldIntS.mono_l k
  ·intro y0 y1 y2
   unfold laws_heldIntS.l0
   repeat' first
   | (with_reducible exact ih0 _ _ _)
   | (with_reducible exact LeO.refl _)
   | (with_reducible exact LeO.none _)
   | (with_reducible refine LeO.ite ?_ ?_)
   | (with_reducible refine LeO.bind ?_ (fun _=>?_))
   | exact ih0 _ _ _
   | exact LeO.none _
   | refine LeO.ite ?_ ?_
   | refine LeO.bind ?_ (fun _=>?_)
theorem laws_heldIntS.mono:∀ a0 a1 k,LeO (laws_heldIntS.f k a0 a1) (laws_heldIntS.f (k+1) a0 a1):=by
 intro a0 a1 k
 have ih0:=laws_heldIntS.mono_l k
 unfold laws_heldIntS.f
 repeat' first
   | (with_reducible exact ih0 _ _ _)
   | (with_reducible exact LeO.refl _)
   | (with_reducible exact LeO.none _)
   | (with_reducible refine LeO.ite ?_ ?_)
   | (with_reducible refine LeO.bind ?_ (fun _=>?_))
   | exact ih0 _ _ _
   | exact LeO.none _
   | refine LeO.ite ?_ ?_
   | refine LeO.bind ?_ (fun _=>?_)
theorem laws_heldIntS.calls (k:Nat) (A0:Option Addr) (c0:Nat) (l0:List Int) (a1:Int) (r:Int) (w:World) (hr0:Kd.C (Kd.int .i64) w A0 l0.length l0) (hc0:l0.length≤c0) (h:laws_heldIntS.f k l0 a1=some r) :
  Calls Tryd.prog 36 #[.slice A0 l0.length c0,.int .i64 a1] w fun e w'=>e = .returned (.int .i64 r)∧Drawn0 w w':=by
 have HR0:=aM hr0
 have HC0:=aM hc0
 clear hr0 hc0
 have H:(laws_heldIntS.l0 k l0 a1 0)=some r:=h
 clear h
 have H':=aM H
 clear H
 go_enter Tryd.func36,Tryd.ntmps36
 go_wp2
 go_loopg [1,5] k (fun kq v1 v5 w' => ∃ (x1_1:Int) (x5_1:Int),v1 = .int .i64 x1_1∧v5 = .int .i64 x5_1∧Aside0 (laws_heldIntS.l0 kq l0 x1_1 x5_1=some r)∧Aside0 (kq≤k)∧Drawn0 w w')
 case atStart=>exact ⟨(a1),(0),zc_,zc_,H',⟨Nat.le_refl _⟩,zg_⟩
 case round =>
  clear H';obtain ⟨x1_1,x5_1,rfl,rfl,HA,HK1,⟨m1,rfl⟩⟩:=hrel
  cases gk with
  | zero=>exact absurd HA.out (by simp [laws_heldIntS.l0])
  | succ k1 =>
   have H:=HA.out;clear HA
   simp only [laws_heldIntS.l0] at H
   by_cases c3:x5_1<(l0.length:Int)
   ·rw [if_pos c3] at H
    have c3b0:=decide_eq_true c3;clear c3
    by_cases c4:0≤x5_1
    ·rw [if_pos c4] at H
     have c4b0:=decide_eq_true c4;clear c4
     by_cases c5:(rd l0 x5_1)=x1_1
     ·rw [if_pos c5] at H
      have c5b0:=beq_iff_eq.mpr c5;have c5b1:=bne_eq_false_iff_eq.mpr c5;clear c5;have H':=aM H;clear H;have p307:0≤(x5_1:Int):=of_decide_eq_true za_;have q307:x5_1<(l0.length:Int):=of_decide_eq_true za_;obtain ⟨ad307,e307,hx307_0⟩:=Kd.at_int HR0.out x5_1 p307 q307
      cases e307
      replace p307:=eq_true p307;replace q307:=eq_true q307
      go_wp2
      go_roundg k1
      case measure=>have:=HK1.out;omega
      case rel=>exact ⟨(wrap64 (x1_1+1)),(wrap64 (x5_1+1)),zc_,zc_,H',⟨zbd_⟩,zg_⟩
     ·rw [if_neg c5] at H
      have c5b0:=beq_eq_false_iff_ne.mpr c5;have c5b1:=bne_iff_ne.mpr c5;obtain rfl:=Option.some.inj H;have p307:0≤(x5_1:Int):=of_decide_eq_true za_;have q307:x5_1<(l0.length:Int):=of_decide_eq_true za_;obtain ⟨ad307,e307,hx307_0⟩:=Kd.at_int HR0.out x5_1 p307 q307
      cases e307
      replace p307:=eq_true p307;replace q307:=eq_true q307
      go_wp2
      go_ret
      exact ⟨zc_,zg_⟩
    ·rw [if_neg c4] at H
     exact q3n_ H
   ·rw [if_neg c3] at H
    have c3b0:=decide_eq_false c3;clear c3;obtain rfl:=Option.some.inj H
    go_wp2
    go_ret
    exact ⟨zc_,zg_⟩
def laws_heldCircuit.f (k:Nat) (a0_0:Int) (l0_1:List (S47)) (l0_2:List Int) (a1:Int):Option (Int):=(laws_heldGateS.f k l0_1 a1).bind fun t309=>(if t309<0 then (some (-1)) else ((laws_heldIntS.f k l0_2 t309).bind fun t310=>(if t310<0 then (some (-1)) else (some t310))))
theorem laws_heldCircuit.mono:∀ a0 a1 a2 a3 k,LeO (laws_heldCircuit.f k a0 a1 a2 a3) (laws_heldCircuit.f (k+1) a0 a1 a2 a3):=by
 intro a0 a1 a2 a3 k
 unfold laws_heldCircuit.f
 repeat' first
   | (with_reducible exact laws_heldGateS.mono _ _ _)
   | (with_reducible exact laws_heldIntS.mono _ _ _)
   | (with_reducible exact LeO.refl _)
   | (with_reducible exact LeO.none _)
   | (with_reducible refine LeO.ite ?_ ?_)
   | (with_reducible refine LeO.bind ?_ (fun _=>?_))
   | exact laws_heldGateS.mono _ _ _
   | exact laws_heldIntS.mono _ _ _
   | exact LeO.none _
   | refine LeO.ite ?_ ?_
   | refine LeO.bind ?_ (fun _=>?_)
theorem laws_heldCircuit.calls (k:Nat) (a0_0:Int) (A0_1:Option Addr) (c0_1:Nat) (l0_1:List (S47)) (A0_2:Option Addr) (c0_2:Nat) (l0_2:List Int) (a1:Int) (r:Int) (w:World) (hr0_1:Kd.C k47 w A0_1 l0_1.length l0_1) (hc0_1:l0_1.length≤c0_1) (hr0_2:Kd.C (Kd.int .i64) w A0_2 l0_2.length l0_2) (hc0_2:l0_2.length≤c0_2) (h:laws_heldCircuit.f k a0_0 l0_1 l0_2 a1=some r) :
  Calls Tryd.prog 13 #[.agg #[.int .i64 a0_0,.slice A0_1 l0_1.length c0_1,.slice A0_2 l0_2.length c0_2],.int .i64 a1] w fun e w'=>e = .returned (.int .i64 r)∧Below w.heap.size w w':=by
 have hu31:=Tryd.underlying31
 have HR0_1:=aM hr0_1
 have HC0_1:=aM hc0_1
 clear hr0_1 hc0_1
 have HR0_2:=aM hr0_2
 have HC0_2:=aM hc0_2
 clear hr0_2 hc0_2
 have HB:=aM (Below.refl w.heap.size w)
 have H:((laws_heldGateS.f k l0_1 a1).bind fun t309=>(if t309<0 then (some (-1)) else ((laws_heldIntS.f k l0_2 t309).bind fun t310=>(if t310<0 then (some (-1)) else (some t310)))))=some r:=h
 clear h
 replace H:=oB.mp H
 obtain ⟨t309,A30,H⟩:=H
 replace H:(if t309<0 then (some (-1)) else ((laws_heldIntS.f k l0_2 t309).bind fun t310=>(if t310<0 then (some (-1)) else (some t310))))=some r:=H
 have A3:=aM A30
 clear A30
 by_cases c4:t309<0
 ·rw [if_pos c4] at H
  have c4b0:=decide_eq_true c4;clear c4;obtain rfl:=Option.some.inj H
  go_enter Tryd.func13,Tryd.ntmps13
  go_wp2_with (first | ((with_reducible refine gate_dst (N:=2) rfl ?_);refine box_event ?hg (N:=2) ?hd (cs:=#[.int .i64 a0_0,.slice A0_1 l0_1.length c0_1,.slice A0_2 l0_2.length c0_2]) (t:=31) ?hr ?_;(case hd=>rfl);(case hg=>rfl);(case hr=>exact ze_);intro gb308 hg w5 hbox hb;have n_:=z (below_step zb_ hb)<|z (hbox)<|z ((by rw [hg];exact (below_size zb_):w.heap.size≤gb308))<|z1 ((by rw [hg];exact (below_size zb_):w.heap.size≤gb308));clear HB;obtain ⟨HB,BK308,GW308,GE308⟩:=n_;clear hb hbox hg;obtain ⟨hcz6_0,hcz6_1,hcz6_2,hfz6_0,hfz6_1,hfz6_2⟩:=zk3 BK308.out)|((with_reducible refine gate_callee (f:=35) rfl ?_);refine goesL_ (some 8) rfl rfl Tryd.func35 (by kernel_rfl) rfl #[.slice A0_1 l0_1.length c0_1,.int .i64 a1] rfl zd_ ?_;(with_reducible refine (laws_heldGateS.calls k _ _ l0_1 a1 t309 _ ?side1 ?side2 A3.out).mono ?_);(case side1=>exact zdd_);(case side2=>exact HC0_1.out);rintro e w' ⟨rfl,⟨nd,rfl⟩⟩;refine ⟨_,rfl,?_⟩))
  go_ret
  exact ⟨zf_,zed_⟩
 ·rw [if_neg c4] at H
  have c4b0:=decide_eq_false c4;clear c4;replace H:=oB.mp H;obtain ⟨t310,A70,H⟩:=H;replace H:(if t310<0 then (some (-1)) else (some t310))=some r:=H;have A7:=aM A70;clear A70
  by_cases c8:t310<0
  ·rw [if_pos c8] at H
   have c8b0:=decide_eq_true c8;clear c8;obtain rfl:=Option.some.inj H
   go_enter Tryd.func13,Tryd.ntmps13
   go_wp2_with (first | ((with_reducible refine gate_dst (N:=2) rfl ?_);refine box_event ?hg (N:=2) ?hd (cs:=#[.int .i64 a0_0,.slice A0_1 l0_1.length c0_1,.slice A0_2 l0_2.length c0_2]) (t:=31) ?hr ?_;(case hd=>rfl);(case hg=>rfl);(case hr=>exact ze_);intro gb308 hg w9 hbox hb;have n_:=z (below_step zb_ hb)<|z (hbox)<|z ((by rw [hg];exact (below_size zb_):w.heap.size≤gb308))<|z1 ((by rw [hg];exact (below_size zb_):w.heap.size≤gb308));clear HB;obtain ⟨HB,BK308,GW308,GE308⟩:=n_;clear hb hbox hg;obtain ⟨hcz10_0,hcz10_1,hcz10_2,hfz10_0,hfz10_1,hfz10_2⟩:=zk3 BK308.out)|((with_reducible refine gate_callee (f:=35) rfl ?_);refine goesL_ (some 8) rfl rfl Tryd.func35 (by kernel_rfl) rfl #[.slice A0_1 l0_1.length c0_1,.int .i64 a1] rfl zd_ ?_;(with_reducible refine (laws_heldGateS.calls k _ _ l0_1 a1 t309 _ ?side1 ?side2 A3.out).mono ?_);(case side1=>exact zdd_);(case side2=>exact HC0_1.out);rintro e w' ⟨rfl,⟨nd,rfl⟩⟩;refine ⟨_,rfl,?_⟩)|((with_reducible refine gate_callee (f:=36) rfl ?_);refine goesL_ (some 14) rfl rfl Tryd.func36 (by kernel_rfl) rfl #[.slice A0_2 l0_2.length c0_2,.int .i64 t309] rfl zd_ ?_;(with_reducible refine (laws_heldIntS.calls k _ _ l0_2 t309 t310 _ ?side1 ?side2 A7.out).mono ?_);(case side1=>repeat (first | exact (Kd.C_below HR0_2.out zed_)|(with_reducible refine cA ?_ _)|(with_reducible refine cN ?_ _)|(with_reducible refine cD ?_)));(case side2=>exact HC0_2.out);rintro e w' ⟨rfl,⟨nd,rfl⟩⟩;refine ⟨_,rfl,?_⟩))
   go_ret
   exact ⟨zf_,zed_⟩
  ·rw [if_neg c8] at H
   have c8b0:=decide_eq_false c8;clear c8;obtain rfl:=Option.some.inj H
   go_enter Tryd.func13,Tryd.ntmps13
   go_wp2_with (first | ((with_reducible refine gate_dst (N:=2) rfl ?_);refine box_event ?hg (N:=2) ?hd (cs:=#[.int .i64 a0_0,.slice A0_1 l0_1.length c0_1,.slice A0_2 l0_2.length c0_2]) (t:=31) ?hr ?_;(case hd=>rfl);(case hg=>rfl);(case hr=>exact ze_);intro gb308 hg w11 hbox hb;have n_:=z (below_step zb_ hb)<|z (hbox)<|z ((by rw [hg];exact (below_size zb_):w.heap.size≤gb308))<|z1 ((by rw [hg];exact (below_size zb_):w.heap.size≤gb308));clear HB;obtain ⟨HB,BK308,GW308,GE308⟩:=n_;clear hb hbox hg;obtain ⟨hcz12_0,hcz12_1,hcz12_2,hfz12_0,hfz12_1,hfz12_2⟩:=zk3 BK308.out)|((with_reducible refine gate_callee (f:=35) rfl ?_);refine goesL_ (some 8) rfl rfl Tryd.func35 (by kernel_rfl) rfl #[.slice A0_1 l0_1.length c0_1,.int .i64 a1] rfl zd_ ?_;(with_reducible refine (laws_heldGateS.calls k _ _ l0_1 a1 t309 _ ?side1 ?side2 A3.out).mono ?_);(case side1=>exact zdd_);(case side2=>exact HC0_1.out);rintro e w' ⟨rfl,⟨nd,rfl⟩⟩;refine ⟨_,rfl,?_⟩)|((with_reducible refine gate_callee (f:=36) rfl ?_);refine goesL_ (some 14) rfl rfl Tryd.func36 (by kernel_rfl) rfl #[.slice A0_2 l0_2.length c0_2,.int .i64 t309] rfl zd_ ?_;(with_reducible refine (laws_heldIntS.calls k _ _ l0_2 t309 t310 _ ?side1 ?side2 A7.out).mono ?_);(case side1=>repeat (first | exact (Kd.C_below HR0_2.out zed_)|(with_reducible refine cA ?_ _)|(with_reducible refine cN ?_ _)|(with_reducible refine cD ?_)));(case side2=>exact HC0_2.out);rintro e w' ⟨rfl,⟨nd,rfl⟩⟩;refine ⟨_,rfl,?_⟩))
   go_ret
   exact ⟨zf_,zed_⟩
def laws_FnExactParseCircuit.f (k:Nat) (a0:ByteArray):Option (Bool):=if (a0.size:Int)>1048576 then (some true) else ((spec_ParseCircuit.f k a0).bind fun bt311=>((impl_ParseCircuit.f k a0).bind fun bt320=>((laws_eqCircuit.f k bt320.1 bt320.2.1 bt320.2.2.1 bt311.1 bt311.2.1 bt311.2.2.1).bind fun t329=>(if t329=true then (if (bt320.2.2.2 != bt311.2.2.2)=true then (none) else ((laws_markCircuit.f k bt320.1 bt320.2.1 bt320.2.2.1 1).bind fun bt330=>((laws_heldCircuit.f k bt320.1 bt330.2.1 bt330.2.2 1).bind fun t333=>(if t333<0 then (none) else (if t333=bt330.1 then ((impl_ParseCircuit.f k a0).bind fun bt334=>((laws_eqCircuit.f k bt334.1 bt334.2.1 bt334.2.2.1 bt311.1 bt311.2.1 bt311.2.2.1).bind fun t343=>(if t343=true then (if (bt334.2.2.2 != bt311.2.2.2)=true then (none) else ((laws_heldCircuit.f k bt320.1 bt330.2.1 bt330.2.2 1).bind fun t344=>(if t344<0 then (none) else (if t344=bt330.1 then (some true) else (none))))) else (none)))) else (none)))))) else (none)))))
theorem laws_FnExactParseCircuit.mono:∀ a0 k,LeO (laws_FnExactParseCircuit.f k a0) (laws_FnExactParseCircuit.f (k+1) a0):=by
 intro a0 k
 unfold laws_FnExactParseCircuit.f
 repeat' first
   | (with_reducible exact impl_ParseCircuit.mono _ _)
   | (with_reducible exact laws_eqCircuit.mono _ _ _ _ _ _ _)
   | (with_reducible exact laws_heldCircuit.mono _ _ _ _ _)
   | (with_reducible exact laws_markCircuit.mono _ _ _ _ _)
   | (with_reducible exact spec_ParseCircuit.mono _ _)
   | (with_reducible exact LeO.refl _)
   | (with_reducible exact LeO.none _)
   | (with_reducible refine LeO.ite ?_ ?_)
   | (with_reducible refine LeO.bind ?_ (fun _=>?_))
   | exact impl_ParseCircuit.mono _ _
   | exact laws_eqCircuit.mono _ _ _ _ _ _ _
   | exact laws_heldCircuit.mono _ _ _ _ _
   | exact laws_markCircuit.mono _ _ _ _ _
   | exact spec_ParseCircuit.mono _ _
   | exact LeO.none _
   | refine LeO.ite ?_ ?_
   | refine LeO.bind ?_ (fun _=>?_)
theorem laws_FnExactParseCircuit.calls (k:Nat) (a0:ByteArray) (r:Bool) (w:World) (h:laws_FnExactParseCircuit.f k a0=some r) (hG:GW w) :
  Calls Tryd.prog 4 #[.string a0] w fun e w'=>e = .returned (.bool r)∧Below w.heap.size w w':=by
 have hu31:=Tryd.underlying31
 have hG_:=aM hG
 clear hG
 have HB:=aM (Below.refl w.heap.size w)
 have H:(if (a0.size:Int)>1048576 then (some true) else ((spec_ParseCircuit.f k a0).bind fun bt311=>((impl_ParseCircuit.f k a0).bind fun bt320=>((laws_eqCircuit.f k bt320.1 bt320.2.1 bt320.2.2.1 bt311.1 bt311.2.1 bt311.2.2.1).bind fun t329=>(if t329=true then (if (bt320.2.2.2 != bt311.2.2.2)=true then (none) else ((laws_markCircuit.f k bt320.1 bt320.2.1 bt320.2.2.1 1).bind fun bt330=>((laws_heldCircuit.f k bt320.1 bt330.2.1 bt330.2.2 1).bind fun t333=>(if t333<0 then (none) else (if t333=bt330.1 then ((impl_ParseCircuit.f k a0).bind fun bt334=>((laws_eqCircuit.f k bt334.1 bt334.2.1 bt334.2.2.1 bt311.1 bt311.2.1 bt311.2.2.1).bind fun t343=>(if t343=true then (if (bt334.2.2.2 != bt311.2.2.2)=true then (none) else ((laws_heldCircuit.f k bt320.1 bt330.2.1 bt330.2.2 1).bind fun t344=>(if t344<0 then (none) else (if t344=bt330.1 then (some true) else (none))))) else (none)))) else (none)))))) else (none))))))=some r:=h
 clear h
 by_cases c2:(a0.size:Int)>1048576
 ·rw [if_pos c2] at H
  have c2b0:decide (1048576<(a0.size:Int))=true:=decide_eq_true c2;have c2b1:decide (1048576<a0.size)=true:=decide_eq_true (by omega);clear c2;obtain rfl:=Option.some.inj H
  go_enter Tryd.func4,Tryd.ntmps4
  go_wp2
  go_ret
  exact ⟨zf_,zb_⟩
 ·rw [if_neg c2] at H
  have c2b0:decide (1048576<(a0.size:Int))=false:=decide_eq_false c2;have c2b1:decide (1048576<a0.size)=false:=decide_eq_false (by omega);clear c2;replace H:=oB.mp H;obtain ⟨⟨t311,t312,t315,t318⟩,A30,H⟩:=H;(try dsimp only at H);have A3:=aM A30;clear A30;replace H:=oB.mp H;obtain ⟨⟨t320,t321,t324,t327⟩,A40,H⟩:=H;(try dsimp only at H);have A4:=aM A40;clear A40;replace H:=oB.mp H;obtain ⟨t329,A50,H⟩:=H;(try dsimp only at H);have A5:=aM A50;clear A50
  by_cases c6:t329=true
  ·subst c6
   rw [if_pos rfl] at H
   by_cases c7:(t327 != t318)=true
   ·rw [if_pos c7] at H
    exact q3n_ H
   rw [if_neg c7] at H;have c7b0:(t327 != t318)=false:=by simpa using c7
   (try (have c7b1:decide (t327=t318)=true:=by simpa using c7));(try (have c7b2:(t327 == t318)=true:=by simpa using c7));clear c7;replace H:=oB.mp H;obtain ⟨⟨t330,t331,t332⟩,A80,H⟩:=H;(try dsimp only at H);have A8:=aM A80;clear A80;replace H:=oB.mp H;obtain ⟨t333,A90,H⟩:=H;(try dsimp only at H);have A9:=aM A90;clear A90
   by_cases c10:t333<0
   ·rw [if_pos c10] at H
    exact q3n_ H
   rw [if_neg c10] at H;have c10b0:=decide_eq_false c10;clear c10
   by_cases c11:t333=t330
   rotate_left
   ·rw [if_neg c11] at H
    exact q3n_ H
   rw [if_pos c11] at H;have c11b0:=beq_iff_eq.mpr c11;have c11b1:=bne_eq_false_iff_eq.mpr c11;clear c11;replace H:=oB.mp H;obtain ⟨⟨t334,t335,t338,t341⟩,A120,H⟩:=H;(try dsimp only at H);have A12:=aM A120;clear A120;replace H:=oB.mp H;obtain ⟨t343,A130,H⟩:=H;(try dsimp only at H);have A13:=aM A130;clear A130
   by_cases c14:t343=true
   ·subst c14
    rw [if_pos rfl] at H
    by_cases c15:(t341 != t318)=true
    ·rw [if_pos c15] at H
     exact q3n_ H
    rw [if_neg c15] at H;have c15b0:(t341 != t318)=false:=by simpa using c15
    (try (have c15b1:decide (t341=t318)=true:=by simpa using c15));(try (have c15b2:(t341 == t318)=true:=by simpa using c15));clear c15;replace H:=oB.mp H;obtain ⟨t344,A160,H⟩:=H;(try dsimp only at H);have A16:=aM A160;clear A160
    by_cases c17:t344<0
    ·rw [if_pos c17] at H
     exact q3n_ H
    rw [if_neg c17] at H;have c17b0:=decide_eq_false c17;clear c17
    by_cases c18:t344=t330
    rotate_left
    ·rw [if_neg c18] at H
     exact q3n_ H
    rw [if_pos c18] at H;have c18b0:=beq_iff_eq.mpr c18;have c18b1:=bne_eq_false_iff_eq.mpr c18;clear c18;obtain rfl:=Option.some.inj H
    go_enter Tryd.func4,Tryd.ntmps4
    go_wp2_with (first | ((with_reducible refine gate_callee (f:=10) rfl ?_);refine goesL_ (some 16) rfl rfl Tryd.func10 (by kernel_rfl) rfl #[.string a0] rfl zd_ ?_;(with_reducible refine (spec_ParseCircuit.calls k a0 t311 t312 t315 t318 _ A3.out).mono ?_);rintro e w19 ⟨v313,v316,rfl,ho0,ho1,hb⟩;refine ⟨_,rfl,?_⟩;have n_:=z (Kd.R_lower ho0 (below_size zb_))<|z (Kd.R_lower ho1 (below_size zb_))<|z1 (below_step zb_ hb);clear HB;obtain ⟨HO314,HO317,HB⟩:=n_;clear hb;(try clear ho0);(try clear ho1))|((with_reducible refine gate_dst (N:=3) rfl ?_);refine box_event ?hg (N:=3) ?hd (cs:=#[.int .i64 0,.slice none 0 0,.slice none 0 0]) (t:=31) ?hr ?_;(case hd=>rfl);(case hg=>rfl);(case hr=>exact ze_);intro gb319 hg w20 hbox hb;have n_:=z (Kd.R_below (zr HO314.out) hb)<|z (Kd.R_below (zr HO317.out) hb)<|z (below_step zb_ hb)<|z (hbox)<|z ((by rw [hg];exact (below_size zb_):w.heap.size≤gb319))<|z1 ((by rw [hg];exact (below_size zb_):w.heap.size≤gb319));clear HO314 HO317 HB;obtain ⟨HO314,HO317,HB,BK319,GW319,GE319⟩:=n_;clear hb hbox hg;obtain ⟨hcz21_0,hcz21_1,hcz21_2,hfz21_0,hfz21_1,hfz21_2⟩:=zk3 BK319.out;obtain ⟨Ao22,co22,eo22⟩:=Kd.R_slice HO314.out;subst eo22;obtain ⟨Ao23,co23,eo23⟩:=Kd.R_slice HO317.out;subst eo23)|((with_reducible refine gate_callee (f:=11) rfl ?_);refine goesL_ (some 21) rfl rfl Tryd.func11 (by kernel_rfl) rfl #[.string a0] rfl zd_ ?_;(with_reducible refine (impl_ParseCircuit.calls k a0 t320 t321 t324 t327 _ A4.out ?side1).mono ?_);(case side1=>exact GW_below hG_.out zdc_);rintro e w24 ⟨v322,v325,rfl,ho0,ho1,hb⟩;refine ⟨_,rfl,?_⟩;have n_:=z (Kd.R_elder' (by refine zr ?_;exact (Kd.R_mono (Kd.R_far (p:=⟨gb319,2,none⟩) (Kd.R_far (p:=⟨gb319,1,none⟩) (Kd.R_far (p:=⟨gb319,0,none⟩) (Kd.R_types HO314.out BK319.out (by decide)) (fun _ hk=>hk.2) (.int .i64 t311)) (fun _ hk=>hk.2) (.slice Ao22 t312.length co22)) (fun _ hk=>hk.2) (.slice Ao23 t315.length co23)) (fun _ h_=>h_.1))) (Kd.R_base ho0) hb)<|z (Kd.R_elder' (by refine zr ?_;exact (Kd.R_mono (Kd.R_far (p:=⟨gb319,2,none⟩) (Kd.R_far (p:=⟨gb319,1,none⟩) (Kd.R_far (p:=⟨gb319,0,none⟩) (Kd.R_types HO317.out BK319.out (by decide)) (fun _ hk=>hk.2) (.int .i64 t311)) (fun _ hk=>hk.2) (.slice Ao22 t312.length co22)) (fun _ hk=>hk.2) (.slice Ao23 t315.length co23)) (fun _ h_=>h_.1))) (Kd.R_base ho1) hb)<|z (Kd.R_lower (Kd.R_new' ho0 (Kd.R_lt (by refine zr ?_;exact (Kd.R_mono (Kd.R_far (p:=⟨gb319,2,none⟩) (Kd.R_far (p:=⟨gb319,1,none⟩) (Kd.R_far (p:=⟨gb319,0,none⟩) (Kd.R_types HO314.out BK319.out (by decide)) (fun _ hk=>hk.2) (.int .i64 t311)) (fun _ hk=>hk.2) (.slice Ao22 t312.length co22)) (fun _ hk=>hk.2) (.slice Ao23 t315.length co23)) (fun _ h_=>h_.1))))) (below_size zdc_))<|z (Kd.R_lower (Kd.R_new' ho1 (Kd.R_lt (by refine zr ?_;exact (Kd.R_mono (Kd.R_far (p:=⟨gb319,2,none⟩) (Kd.R_far (p:=⟨gb319,1,none⟩) (Kd.R_far (p:=⟨gb319,0,none⟩) (Kd.R_types HO317.out BK319.out (by decide)) (fun _ hk=>hk.2) (.int .i64 t311)) (fun _ hk=>hk.2) (.slice Ao22 t312.length co22)) (fun _ hk=>hk.2) (.slice Ao23 t315.length co23)) (fun _ h_=>h_.1))))) (below_size zdc_))<|z (blk_below (g:=gb319) (o := .cells #[.int .i64 t311,.slice Ao22 t312.length co22,.slice Ao23 t315.length co23] 31 (0,0)) (by refine zb ?_;refine blk_put (cs:=#[.int .i64 t311,.slice Ao22 t312.length co22,.slice none 0 0]) ?_ 2 _ rfl;refine zb ?_;refine blk_put (cs:=#[.int .i64 t311,.slice none 0 0,.slice none 0 0]) ?_ 1 _ rfl;refine zb ?_;refine blk_put (cs:=#[.int .i64 0,.slice none 0 0,.slice none 0 0]) ?_ 0 _ rfl;refine zb ?_;exact BK319.out) hb)<|z1 (below_step zdc_ hb);clear HO314 HO317 BK319 HB;obtain ⟨HO314,HO317,HO323,HO326,BK319,HB⟩:=n_;clear hb;(try clear hk);(try clear ho0);(try clear ho1))|((with_reducible refine gate_dst (N:=5) rfl ?_);refine box_event ?hg (N:=5) ?hd (cs:=#[.int .i64 0,.slice none 0 0,.slice none 0 0]) (t:=31) ?hr ?_;(case hd=>rfl);(case hg=>rfl);(case hr=>exact ze_);intro gb328 hg w25 hbox hb;have n_:=z (Kd.R_below (zr HO314.out) hb)<|z (Kd.R_below (zr HO317.out) hb)<|z (Kd.R_below (zr HO323.out) hb)<|z (Kd.R_below (zr HO326.out) hb)<|z (blk_below (zb BK319.out) hb)<|z (below_step zdc_ hb)<|z (hbox)<|z ((by rw [hg];exact (below_size zdc_):w.heap.size≤gb328))<|z ((by rw [hg];exact (below_size zdc_):w.heap.size≤gb328))<|z ((by rw [hg];exact Nat.ne_of_lt (blk_lt (zb BK319.out)):gb319≠gb328))<|z1 ((by rw [hg];exact Nat.ne_of_gt (blk_lt (zb BK319.out)):gb328≠gb319));clear HO314 HO317 HO323 HO326 BK319 HB;obtain ⟨HO314,HO317,HO323,HO326,BK319,HB,BK328,GW328,GE328,NB319_328,NB328_319⟩:=n_;clear hb hbox hg;have hnb26:=NB328_319.out;have hnc26:=NB319_328.out;obtain ⟨hcz27_0,hcz27_1,hcz27_2,hfz27_0,hfz27_1,hfz27_2⟩:=zk3 BK328.out;obtain ⟨Ao28,co28,eo28⟩:=Kd.R_slice HO323.out;subst eo28;obtain ⟨Ao29,co29,eo29⟩:=Kd.R_slice HO326.out;subst eo29;obtain ⟨hcz30_0,hcz30_1,hcz30_2,hfz30_0,hfz30_1,hfz30_2⟩:=zk3 BK319.out)|((with_reducible refine gate_callee (f:=9) rfl ?_);refine goesL_ (some 26) rfl rfl Tryd.func9 (by kernel_rfl) rfl #[.agg #[.int .i64 t320,.slice Ao28 t321.length co28,.slice Ao29 t324.length co29],.agg #[.int .i64 t311,.slice Ao22 t312.length co22,.slice Ao23 t315.length co23]] rfl zd_ ?_;(with_reducible refine (laws_eqCircuit.calls k t320 _ _ t321 _ _ t324 t311 _ _ t312 _ _ t315 true _ ?side1 ?side2 ?side3 ?side4 ?side5 ?side6 ?side7 ?side8 A5.out).mono ?_);(case side1=>refine (Kd.R_reads' (e:=47) (base:=w.heap.size) (ok:=fun k_=>(True∧some k_≠(.slice Ao22 t312.length co22:Value).ownBlock)) (n:=t321.length) (c:=co28) ?_).2.2;exact (by refine zr ?_;exact (Kd.R_mono (Kd.R_far (p:=⟨gb328,2,none⟩) (Kd.R_far (p:=⟨gb328,1,none⟩) (Kd.R_far (p:=⟨gb328,0,none⟩) (Kd.R_types HO323.out BK328.out (by decide)) (fun _ hk=>hk.2) (.int .i64 t320)) (fun _ hk=>hk.2) (.slice Ao28 t321.length co28)) (fun _ hk=>hk.2) (.slice Ao29 t324.length co29)) (fun _ h_=>h_.1))));(case side2=>exact (Kd.R_reads' HO323.out).2.1);(case side3=>refine (Kd.R_reads' (e:=3) (base:=w.heap.size) (ok:=fun k_=>(True∧some k_≠(.slice Ao23 t315.length co23:Value).ownBlock)) (n:=t324.length) (c:=co29) ?_).2.2;exact (by refine zr ?_;exact (Kd.R_mono (Kd.R_far (p:=⟨gb328,2,none⟩) (Kd.R_far (p:=⟨gb328,1,none⟩) (Kd.R_far (p:=⟨gb328,0,none⟩) (Kd.R_types HO326.out BK328.out (by decide)) (fun _ hk=>hk.2) (.int .i64 t320)) (fun _ hk=>hk.2) (.slice Ao28 t321.length co28)) (fun _ hk=>hk.2) (.slice Ao29 t324.length co29)) (fun _ h_=>h_.1))));(case side4=>exact (Kd.R_reads' HO326.out).2.1);(case side5=>refine (Kd.R_reads' (e:=47) (base:=w.heap.size) (ok:=fun k_=>(True∧some k_≠(.slice Ao28 t321.length co28:Value).ownBlock)) (n:=t312.length) (c:=co22) ?_).2.2;exact (by refine zr ?_;exact (Kd.R_mono (Kd.R_far (p:=⟨gb328,2,none⟩) (Kd.R_far (p:=⟨gb328,1,none⟩) (Kd.R_far (p:=⟨gb328,0,none⟩) (Kd.R_types HO314.out BK328.out (by decide)) (fun _ hk=>hk.2) (.int .i64 t320)) (fun _ hk=>hk.2) (.slice Ao28 t321.length co28)) (fun _ hk=>hk.2) (.slice Ao29 t324.length co29)) (fun _ h_=>h_.1))));(case side6=>exact (Kd.R_reads' HO314.out).2.1);(case side7=>refine (Kd.R_reads' (e:=3) (base:=w.heap.size) (ok:=fun k_=>(True∧some k_≠(.slice Ao29 t324.length co29:Value).ownBlock)) (n:=t315.length) (c:=co23) ?_).2.2;exact (by refine zr ?_;exact (Kd.R_mono (Kd.R_far (p:=⟨gb328,2,none⟩) (Kd.R_far (p:=⟨gb328,1,none⟩) (Kd.R_far (p:=⟨gb328,0,none⟩) (Kd.R_types HO317.out BK328.out (by decide)) (fun _ hk=>hk.2) (.int .i64 t320)) (fun _ hk=>hk.2) (.slice Ao28 t321.length co28)) (fun _ hk=>hk.2) (.slice Ao29 t324.length co29)) (fun _ h_=>h_.1))));(case side8=>exact (Kd.R_reads' HO317.out).2.1);rintro e w31 ⟨rfl,hb⟩;refine ⟨_,rfl,?_⟩;have n_:=z (Kd.R_below (by refine zr ?_;exact (Kd.R_mono (Kd.R_far (p:=⟨gb328,2,none⟩) (Kd.R_far (p:=⟨gb328,1,none⟩) (Kd.R_far (p:=⟨gb328,0,none⟩) (Kd.R_types HO314.out BK328.out (by decide)) (fun _ hk=>hk.2) (.int .i64 t320)) (fun _ hk=>hk.2) (.slice Ao28 t321.length co28)) (fun _ hk=>hk.2) (.slice Ao29 t324.length co29)) (fun _ h_=>h_.1))) hb)<|z (Kd.R_below (by refine zr ?_;exact (Kd.R_mono (Kd.R_far (p:=⟨gb328,2,none⟩) (Kd.R_far (p:=⟨gb328,1,none⟩) (Kd.R_far (p:=⟨gb328,0,none⟩) (Kd.R_types HO317.out BK328.out (by decide)) (fun _ hk=>hk.2) (.int .i64 t320)) (fun _ hk=>hk.2) (.slice Ao28 t321.length co28)) (fun _ hk=>hk.2) (.slice Ao29 t324.length co29)) (fun _ h_=>h_.1))) hb)<|z (Kd.R_below (by refine zr ?_;exact (Kd.R_mono (Kd.R_far (p:=⟨gb328,2,none⟩) (Kd.R_far (p:=⟨gb328,1,none⟩) (Kd.R_far (p:=⟨gb328,0,none⟩) (Kd.R_types HO323.out BK328.out (by decide)) (fun _ hk=>hk.2) (.int .i64 t320)) (fun _ hk=>hk.2) (.slice Ao28 t321.length co28)) (fun _ hk=>hk.2) (.slice Ao29 t324.length co29)) (fun _ h_=>h_.1))) hb)<|z (Kd.R_below (by refine zr ?_;exact (Kd.R_mono (Kd.R_far (p:=⟨gb328,2,none⟩) (Kd.R_far (p:=⟨gb328,1,none⟩) (Kd.R_far (p:=⟨gb328,0,none⟩) (Kd.R_types HO326.out BK328.out (by decide)) (fun _ hk=>hk.2) (.int .i64 t320)) (fun _ hk=>hk.2) (.slice Ao28 t321.length co28)) (fun _ hk=>hk.2) (.slice Ao29 t324.length co29)) (fun _ h_=>h_.1))) hb)<|z (blk_below (g:=gb319) (o := .cells #[.int .i64 t311,.slice Ao22 t312.length co22,.slice Ao23 t315.length co23] 31 (0,0)) (by refine zb ?_;refine blk_far ?_ NB319_328.out _;refine zb ?_;refine blk_far ?_ NB319_328.out _;refine zb ?_;refine blk_far ?_ NB319_328.out _;refine zb ?_;exact BK319.out) hb)<|z (blk_below (g:=gb328) (o := .cells #[.int .i64 t320,.slice Ao28 t321.length co28,.slice Ao29 t324.length co29] 31 (0,0)) (by refine zb ?_;refine blk_put (cs:=#[.int .i64 t320,.slice Ao28 t321.length co28,.slice none 0 0]) ?_ 2 _ rfl;refine zb ?_;refine blk_put (cs:=#[.int .i64 t320,.slice none 0 0,.slice none 0 0]) ?_ 1 _ rfl;refine zb ?_;refine blk_put (cs:=#[.int .i64 0,.slice none 0 0,.slice none 0 0]) ?_ 0 _ rfl;refine zb ?_;exact BK328.out) hb)<|z1 (below_step zcd_ hb);clear HO314 HO317 HO323 HO326 BK319 BK328 HB;obtain ⟨HO314,HO317,HO323,HO326,BK319,BK328,HB⟩:=n_;clear hb;(try clear hk);obtain ⟨hcz32_0,hcz32_1,hcz32_2,hfz32_0,hfz32_1,hfz32_2⟩:=zk3 BK328.out)|((with_reducible refine gate_callee (f:=12) rfl ?_);refine goesL_ (some 35) rfl rfl Tryd.func12 (by kernel_rfl) rfl #[.agg #[.int .i64 t320,.slice Ao28 t321.length co28,.slice Ao29 t324.length co29],.int .i64 1] rfl zd_ ?_;(with_reducible refine (laws_markCircuit.calls k t320 (fun k_=>some k_=(.slice Ao28 t321.length co28:Value).ownBlock) (.slice Ao28 t321.length co28) t321 (fun k_=>some k_=(.slice Ao29 t324.length co29:Value).ownBlock) (.slice Ao29 t324.length co29) t324 1 t330 t331 t332 w _ ?side1 ?side2 ?side3 A8.out).mono ?_);(case side1=>exact zcd_);(case side2=>exact Kd.R_tight rfl HO323.out);(case side3=>exact Kd.R_tight rfl HO326.out);rintro e w33 ⟨rfl,hy0,hy1,hb,hkp⟩;refine ⟨_,rfl,?_⟩;have n_:=z (Kd.R_mono (ok':=fun k_=>some k_≠(.slice Ao28 t321.length co28:Value).ownBlock) (Kd.R_keptB ((Kd.R_apart' HO314.out (Kd.R_typed HO326.out) (by decide))) hkp (fun k_ hk_ hs_=>Or.elim hs_ (fun e_=>(hk_.1.2) e_) (fun e_=>(hk_.2) e_))) (fun k_ hk_=>hk_.1.1.2))<|z (Kd.R_mono (ok':=fun k_=>some k_≠(.slice Ao29 t324.length co29:Value).ownBlock) (Kd.R_keptB ((Kd.R_apart' HO317.out (Kd.R_typed HO323.out) (by decide))) hkp (fun k_ hk_ hs_=>Or.elim hs_ (fun e_=>(hk_.2) e_) (fun e_=>(hk_.1.2) e_))) (fun k_ hk_=>hk_.1.1.2))<|z (blk_kept (zb BK319.out) hkp (fun hs_=>Or.elim hs_ (fun e_=>(fun e_=>(Kd.R_ne HO323.out BK319.out (by decide)) e_) e_) (fun e_=>(fun e_=>(Kd.R_ne HO326.out BK319.out (by decide)) e_) e_)))<|z (Kd.R_reok rfl hy0 (fun k_ e_=>HO323.out.1 k_ e_))<|z (Kd.R_reok rfl hy1 (fun k_ e_=>HO326.out.1 k_ e_))<|z (blk_kept (zb BK328.out) hkp (fun hs_=>Or.elim hs_ (fun e_=>(fun e_=>(Kd.R_ne HO323.out BK328.out (by decide)) e_) e_) (fun e_=>(fun e_=>(Kd.R_ne HO326.out BK328.out (by decide)) e_) e_)))<|z1 (hb);clear HO314 HO317 BK319 HO323 HO326 BK328 HB;obtain ⟨HO314,HO317,BK319,HO323,HO326,BK328,HB⟩:=n_;(try clear hb);(try clear hkp);(try clear hy0);(try clear hy1);obtain ⟨hcz34_0,hcz34_1,hcz34_2,hfz34_0,hfz34_1,hfz34_2⟩:=zk3 BK328.out)|((with_reducible refine gate_callee (f:=13) rfl ?_);refine goesL_ (some 38) rfl rfl Tryd.func13 (by kernel_rfl) rfl #[.agg #[.int .i64 t320,.slice Ao28 t331.length co28,.slice Ao29 t332.length co29],.int .i64 1] rfl (by (try simp only [mT,mC,mN]);first | done | (rw [show t331.length=t321.length from (Kd.R_reads' HO323.out).1.symm,show t332.length=t324.length from (Kd.R_reads' HO326.out).1.symm] <;> rfl) | rfl | (simp only [lD,lT];rfl)) ?_;(with_reducible refine (laws_heldCircuit.calls k t320 _ _ t331 _ _ t332 1 t333 _ ?side1 ?side2 ?side3 ?side4 A9.out).mono ?_);(case side1=>repeat (first | exact (Kd.R_reads' HO323.out).2.2 | (with_reducible refine cA ?_ _)|(with_reducible refine cN ?_ _)|(with_reducible refine cD ?_)));(case side2=>rw [show t331.length=t321.length from (Kd.R_reads' HO323.out).1.symm];exact (Kd.R_reads' HO323.out).2.1);(case side3=>repeat (first | exact (Kd.R_reads' HO326.out).2.2 | (with_reducible refine cA ?_ _)|(with_reducible refine cN ?_ _)|(with_reducible refine cD ?_)));(case side4=>rw [show t332.length=t324.length from (Kd.R_reads' HO326.out).1.symm];exact (Kd.R_reads' HO326.out).2.1);rintro e w35 ⟨rfl,hb⟩;refine ⟨_,rfl,?_⟩;have n_:=z (Kd.R_below (zr HO314.out) hb)<|z (Kd.R_below (zr HO317.out) hb)<|z (Kd.R_below (zr HO323.out) hb)<|z (Kd.R_below (zr HO326.out) hb)<|z (blk_below (zb BK319.out) hb)<|z (blk_below (zb BK328.out) hb)<|z1 (below_step zcd_ hb);clear HO314 HO317 HO323 HO326 BK319 BK328 HB;obtain ⟨HO314,HO317,HO323,HO326,BK319,BK328,HB⟩:=n_;clear hb)|((with_reducible refine gate_callee (f:=11) rfl ?_);refine goesL_ (some 46) rfl rfl Tryd.func11 (by kernel_rfl) rfl #[.string a0] rfl zd_ ?_;(with_reducible refine (impl_ParseCircuit.calls k a0 t334 t335 t338 t341 _ A12.out ?side1).mono ?_);(case side1=>exact GW_below hG_.out zcd_);rintro e w36 ⟨v336,v339,rfl,ho0,ho1,hb⟩;refine ⟨_,rfl,?_⟩;have n_:=z (Kd.R_elder' (zr HO314.out) (Kd.R_base ho0) hb)<|z (Kd.R_elder' (zr HO317.out) (Kd.R_base ho1) hb)<|z (Kd.R_elder' (zr HO323.out) (Kd.R_base ho0) hb)<|z (Kd.R_elder' (zr HO326.out) (Kd.R_base ho1) hb)<|z (Kd.R_lower (Kd.R_new' (Kd.R_new' ho0 (Kd.R_lt (zr HO314.out))) (Kd.R_lt (zr HO323.out))) (below_size zcd_))<|z (Kd.R_lower (Kd.R_new' (Kd.R_new' ho1 (Kd.R_lt (zr HO317.out))) (Kd.R_lt (zr HO326.out))) (below_size zcd_))<|z (blk_below (zb BK319.out) hb)<|z (blk_below (zb BK328.out) hb)<|z1 (below_step zcd_ hb);clear HO314 HO317 HO323 HO326 BK319 BK328 HB;obtain ⟨HO314,HO317,HO323,HO326,HO337,HO340,BK319,BK328,HB⟩:=n_;clear hb;(try clear ho0);(try clear ho1))|((with_reducible refine gate_dst (N:=9) rfl ?_);refine box_event ?hg (N:=9) ?hd (cs:=#[.int .i64 0,.slice none 0 0,.slice none 0 0]) (t:=31) ?hr ?_;(case hd=>rfl);(case hg=>rfl);(case hr=>exact ze_);intro gb342 hg w37 hbox hb;have n_:=z (Kd.R_below (zr HO314.out) hb)<|z (Kd.R_below (zr HO317.out) hb)<|z (Kd.R_below (zr HO323.out) hb)<|z (Kd.R_below (zr HO326.out) hb)<|z (Kd.R_below (zr HO337.out) hb)<|z (Kd.R_below (zr HO340.out) hb)<|z (blk_below (zb BK319.out) hb)<|z (blk_below (zb BK328.out) hb)<|z (below_step zcd_ hb)<|z (hbox)<|z ((by rw [hg];exact (below_size zcd_):w.heap.size≤gb342))<|z ((by rw [hg];exact (below_size zcd_):w.heap.size≤gb342))<|z ((by rw [hg];exact Nat.ne_of_lt (blk_lt (zb BK319.out)):gb319≠gb342))<|z ((by rw [hg];exact Nat.ne_of_gt (blk_lt (zb BK319.out)):gb342≠gb319))<|z ((by rw [hg];exact Nat.ne_of_lt (blk_lt (zb BK328.out)):gb328≠gb342))<|z1 ((by rw [hg];exact Nat.ne_of_gt (blk_lt (zb BK328.out)):gb342≠gb328));clear HO314 HO317 HO323 HO326 HO337 HO340 BK319 BK328 HB;obtain ⟨HO314,HO317,HO323,HO326,HO337,HO340,BK319,BK328,HB,BK342,GW342,GE342,NB319_342,NB342_319,NB328_342,NB342_328⟩:=n_;clear hb hbox hg;have hnb38:=NB342_319.out;have hnc38:=NB319_342.out;have hnb39:=NB342_328.out;have hnc39:=NB328_342.out;obtain ⟨hcz40_0,hcz40_1,hcz40_2,hfz40_0,hfz40_1,hfz40_2⟩:=zk3 BK342.out;obtain ⟨Ao41,co41,eo41⟩:=Kd.R_slice HO337.out;subst eo41;obtain ⟨Ao42,co42,eo42⟩:=Kd.R_slice HO340.out;subst eo42;obtain ⟨hcz43_0,hcz43_1,hcz43_2,hfz43_0,hfz43_1,hfz43_2⟩:=zk3 BK319.out)|((with_reducible refine gate_callee (f:=9) rfl ?_);refine goesL_ (some 51) rfl rfl Tryd.func9 (by kernel_rfl) rfl #[.agg #[.int .i64 t334,.slice Ao41 t335.length co41,.slice Ao42 t338.length co42],.agg #[.int .i64 t311,.slice Ao22 t312.length co22,.slice Ao23 t315.length co23]] rfl zd_ ?_;(with_reducible refine (laws_eqCircuit.calls k t334 _ _ t335 _ _ t338 t311 _ _ t312 _ _ t315 true _ ?side1 ?side2 ?side3 ?side4 ?side5 ?side6 ?side7 ?side8 A13.out).mono ?_);(case side1=>refine (Kd.R_reads' (e:=47) (base:=w.heap.size) (ok:=fun k_=>((True∧some k_≠(.slice Ao22 t312.length co22:Value).ownBlock)∧some k_≠(.slice Ao28 t321.length co28:Value).ownBlock)) (n:=t335.length) (c:=co41) ?_).2.2;exact (by refine zr ?_;exact (Kd.R_mono (Kd.R_far (p:=⟨gb342,2,none⟩) (Kd.R_far (p:=⟨gb342,1,none⟩) (Kd.R_far (p:=⟨gb342,0,none⟩) (Kd.R_types HO337.out BK342.out (by decide)) (fun _ hk=>hk.2) (.int .i64 t334)) (fun _ hk=>hk.2) (.slice Ao41 t335.length co41)) (fun _ hk=>hk.2) (.slice Ao42 t338.length co42)) (fun _ h_=>h_.1))));(case side2=>exact (Kd.R_reads' HO337.out).2.1);(case side3=>refine (Kd.R_reads' (e:=3) (base:=w.heap.size) (ok:=fun k_=>((True∧some k_≠(.slice Ao23 t315.length co23:Value).ownBlock)∧some k_≠(.slice Ao29 t324.length co29:Value).ownBlock)) (n:=t338.length) (c:=co42) ?_).2.2;exact (by refine zr ?_;exact (Kd.R_mono (Kd.R_far (p:=⟨gb342,2,none⟩) (Kd.R_far (p:=⟨gb342,1,none⟩) (Kd.R_far (p:=⟨gb342,0,none⟩) (Kd.R_types HO340.out BK342.out (by decide)) (fun _ hk=>hk.2) (.int .i64 t334)) (fun _ hk=>hk.2) (.slice Ao41 t335.length co41)) (fun _ hk=>hk.2) (.slice Ao42 t338.length co42)) (fun _ h_=>h_.1))));(case side4=>exact (Kd.R_reads' HO340.out).2.1);(case side5=>refine (Kd.R_reads' (e:=47) (base:=w.heap.size) (ok:=fun k_=>(some k_≠(.slice Ao28 t321.length co28:Value).ownBlock∧some k_≠(.slice Ao41 t335.length co41:Value).ownBlock)) (n:=t312.length) (c:=co22) ?_).2.2;exact (by refine zr ?_;exact (Kd.R_mono (Kd.R_far (p:=⟨gb342,2,none⟩) (Kd.R_far (p:=⟨gb342,1,none⟩) (Kd.R_far (p:=⟨gb342,0,none⟩) (Kd.R_types HO314.out BK342.out (by decide)) (fun _ hk=>hk.2) (.int .i64 t334)) (fun _ hk=>hk.2) (.slice Ao41 t335.length co41)) (fun _ hk=>hk.2) (.slice Ao42 t338.length co42)) (fun _ h_=>h_.1))));(case side6=>exact (Kd.R_reads' HO314.out).2.1);(case side7=>refine (Kd.R_reads' (e:=3) (base:=w.heap.size) (ok:=fun k_=>(some k_≠(.slice Ao29 t324.length co29:Value).ownBlock∧some k_≠(.slice Ao42 t338.length co42:Value).ownBlock)) (n:=t315.length) (c:=co23) ?_).2.2;exact (by refine zr ?_;exact (Kd.R_mono (Kd.R_far (p:=⟨gb342,2,none⟩) (Kd.R_far (p:=⟨gb342,1,none⟩) (Kd.R_far (p:=⟨gb342,0,none⟩) (Kd.R_types HO317.out BK342.out (by decide)) (fun _ hk=>hk.2) (.int .i64 t334)) (fun _ hk=>hk.2) (.slice Ao41 t335.length co41)) (fun _ hk=>hk.2) (.slice Ao42 t338.length co42)) (fun _ h_=>h_.1))));(case side8=>exact (Kd.R_reads' HO317.out).2.1);rintro e w44 ⟨rfl,hb⟩;refine ⟨_,rfl,?_⟩;have n_:=z (Kd.R_below (by refine zr ?_;exact (Kd.R_mono (Kd.R_far (p:=⟨gb342,2,none⟩) (Kd.R_far (p:=⟨gb342,1,none⟩) (Kd.R_far (p:=⟨gb342,0,none⟩) (Kd.R_types HO314.out BK342.out (by decide)) (fun _ hk=>hk.2) (.int .i64 t334)) (fun _ hk=>hk.2) (.slice Ao41 t335.length co41)) (fun _ hk=>hk.2) (.slice Ao42 t338.length co42)) (fun _ h_=>h_.1))) hb)<|z (Kd.R_below (by refine zr ?_;exact (Kd.R_mono (Kd.R_far (p:=⟨gb342,2,none⟩) (Kd.R_far (p:=⟨gb342,1,none⟩) (Kd.R_far (p:=⟨gb342,0,none⟩) (Kd.R_types HO317.out BK342.out (by decide)) (fun _ hk=>hk.2) (.int .i64 t334)) (fun _ hk=>hk.2) (.slice Ao41 t335.length co41)) (fun _ hk=>hk.2) (.slice Ao42 t338.length co42)) (fun _ h_=>h_.1))) hb)<|z (Kd.R_below (by refine zr ?_;exact (Kd.R_mono (Kd.R_far (p:=⟨gb342,2,none⟩) (Kd.R_far (p:=⟨gb342,1,none⟩) (Kd.R_far (p:=⟨gb342,0,none⟩) (Kd.R_types HO323.out BK342.out (by decide)) (fun _ hk=>hk.2) (.int .i64 t334)) (fun _ hk=>hk.2) (.slice Ao41 t335.length co41)) (fun _ hk=>hk.2) (.slice Ao42 t338.length co42)) (fun _ h_=>h_.1))) hb)<|z (Kd.R_below (by refine zr ?_;exact (Kd.R_mono (Kd.R_far (p:=⟨gb342,2,none⟩) (Kd.R_far (p:=⟨gb342,1,none⟩) (Kd.R_far (p:=⟨gb342,0,none⟩) (Kd.R_types HO326.out BK342.out (by decide)) (fun _ hk=>hk.2) (.int .i64 t334)) (fun _ hk=>hk.2) (.slice Ao41 t335.length co41)) (fun _ hk=>hk.2) (.slice Ao42 t338.length co42)) (fun _ h_=>h_.1))) hb)<|z (Kd.R_below (by refine zr ?_;exact (Kd.R_mono (Kd.R_far (p:=⟨gb342,2,none⟩) (Kd.R_far (p:=⟨gb342,1,none⟩) (Kd.R_far (p:=⟨gb342,0,none⟩) (Kd.R_types HO337.out BK342.out (by decide)) (fun _ hk=>hk.2) (.int .i64 t334)) (fun _ hk=>hk.2) (.slice Ao41 t335.length co41)) (fun _ hk=>hk.2) (.slice Ao42 t338.length co42)) (fun _ h_=>h_.1))) hb)<|z (Kd.R_below (by refine zr ?_;exact (Kd.R_mono (Kd.R_far (p:=⟨gb342,2,none⟩) (Kd.R_far (p:=⟨gb342,1,none⟩) (Kd.R_far (p:=⟨gb342,0,none⟩) (Kd.R_types HO340.out BK342.out (by decide)) (fun _ hk=>hk.2) (.int .i64 t334)) (fun _ hk=>hk.2) (.slice Ao41 t335.length co41)) (fun _ hk=>hk.2) (.slice Ao42 t338.length co42)) (fun _ h_=>h_.1))) hb)<|z (blk_below (g:=gb319) (o := .cells #[.int .i64 t311,.slice Ao22 t312.length co22,.slice Ao23 t315.length co23] 31 (0,0)) (by refine zb ?_;refine blk_far ?_ NB319_342.out _;refine zb ?_;refine blk_far ?_ NB319_342.out _;refine zb ?_;refine blk_far ?_ NB319_342.out _;refine zb ?_;exact BK319.out) hb)<|z (blk_below (g:=gb328) (o := .cells #[.int .i64 t320,.slice Ao28 t321.length co28,.slice Ao29 t324.length co29] 31 (0,0)) (by refine zb ?_;refine blk_far ?_ NB328_342.out _;refine zb ?_;refine blk_far ?_ NB328_342.out _;refine zb ?_;refine blk_far ?_ NB328_342.out _;refine zb ?_;exact BK328.out) hb)<|z (blk_below (g:=gb342) (o := .cells #[.int .i64 t334,.slice Ao41 t335.length co41,.slice Ao42 t338.length co42] 31 (0,0)) (by refine zb ?_;refine blk_put (cs:=#[.int .i64 t334,.slice Ao41 t335.length co41,.slice none 0 0]) ?_ 2 _ rfl;refine zb ?_;refine blk_put (cs:=#[.int .i64 t334,.slice none 0 0,.slice none 0 0]) ?_ 1 _ rfl;refine zb ?_;refine blk_put (cs:=#[.int .i64 0,.slice none 0 0,.slice none 0 0]) ?_ 0 _ rfl;refine zb ?_;exact BK342.out) hb)<|z1 (below_step zfd_ hb);clear HO314 HO317 HO323 HO326 HO337 HO340 BK319 BK328 BK342 HB;obtain ⟨HO314,HO317,HO323,HO326,HO337,HO340,BK319,BK328,BK342,HB⟩:=n_;clear hb;(try clear hk);obtain ⟨hcz45_0,hcz45_1,hcz45_2,hfz45_0,hfz45_1,hfz45_2⟩:=zk3 BK328.out)|((with_reducible refine gate_callee (f:=13) rfl ?_);refine goesL_ (some 60) rfl rfl Tryd.func13 (by kernel_rfl) rfl #[.agg #[.int .i64 t320,.slice Ao28 t331.length co28,.slice Ao29 t332.length co29],.int .i64 1] rfl (by (try simp only [mT,mC,mN]);first | done | (rw [show t331.length=t321.length from (Kd.R_reads' HO323.out).1.symm,show t332.length=t324.length from (Kd.R_reads' HO326.out).1.symm] <;> rfl) | rfl | (simp only [lD,lT];rfl)) ?_;(with_reducible refine (laws_heldCircuit.calls k t320 _ _ t331 _ _ t332 1 t344 _ ?side1 ?side2 ?side3 ?side4 A16.out).mono ?_);(case side1=>repeat (first | exact (Kd.R_reads' HO323.out).2.2 | (with_reducible refine cA ?_ _)|(with_reducible refine cN ?_ _)|(with_reducible refine cD ?_)));(case side2=>rw [show t331.length=t321.length from (Kd.R_reads' HO323.out).1.symm];exact (Kd.R_reads' HO323.out).2.1);(case side3=>repeat (first | exact (Kd.R_reads' HO326.out).2.2 | (with_reducible refine cA ?_ _)|(with_reducible refine cN ?_ _)|(with_reducible refine cD ?_)));(case side4=>rw [show t332.length=t324.length from (Kd.R_reads' HO326.out).1.symm];exact (Kd.R_reads' HO326.out).2.1);rintro e w46 ⟨rfl,hb⟩;refine ⟨_,rfl,?_⟩;have n_:=z (Kd.R_below (zr HO314.out) hb)<|z (Kd.R_below (zr HO317.out) hb)<|z (Kd.R_below (zr HO323.out) hb)<|z (Kd.R_below (zr HO326.out) hb)<|z (Kd.R_below (zr HO337.out) hb)<|z (Kd.R_below (zr HO340.out) hb)<|z (blk_below (zb BK319.out) hb)<|z (blk_below (zb BK328.out) hb)<|z (blk_below (zb BK342.out) hb)<|z1 (below_step zfd_ hb);clear HO314 HO317 HO323 HO326 HO337 HO340 BK319 BK328 BK342 HB;obtain ⟨HO314,HO317,HO323,HO326,HO337,HO340,BK319,BK328,BK342,HB⟩:=n_;clear hb))
    go_ret
    exact ⟨zf_,zfd_⟩
   ·replace c14:=Bool.eq_false_iff.mpr c14
    subst c14;rw [if_neg (show ¬ (false=true) by decide)] at H;exact q3n_ H
  ·replace c6:=Bool.eq_false_iff.mpr c6
   subst c6;rw [if_neg (show ¬ (false=true) by decide)] at H;exact q3n_ H
def laws_FnExactParseCircuit.Pure:Prop:=∀ (a0:ByteArray),a0.size≤140737488351232→∃ k,laws_FnExactParseCircuit.f k a0=some true
end Go.Proofs.YtanpidphaanjiaaDoor.QFnExactParseCircuit
