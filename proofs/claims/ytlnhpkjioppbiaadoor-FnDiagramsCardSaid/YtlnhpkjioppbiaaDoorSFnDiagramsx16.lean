/- Functions of FnDiagrams, each as a Lean function, with the proof that the Go code comes to its answers. -/
import Derived.Test.YtlnhpkjioppbiaaDoorSFnDiagramsx2
import Derived.Test.YtlnhpkjioppbiaaDoorSFnDiagramsx5
import Derived.Test.YtlnhpkjioppbiaaDoorSFnDiagramsx14
import Derived.Test.YtlnhpkjioppbiaaDoorSFnDiagramsx8
import Derived.Test.YtlnhpkjioppbiaaDoorSFnDiagramsx13
namespace Go.Proofs.YtlnhpkjioppbiaaDoor.QFnDiagrams
open Go.RowKit Go.Proofs.YtlnhpkjioppbiaaDoorW.PrintWords Go.Proofs.YtlnhpkjioppbiaaDoorW.PrintLast Go.Proofs.YtlnhpkjioppbiaaDoorW.PrintMore
open Go.Proofs.YtlnhpkjioppbiaaDoorW.PrintWords renaming pw_below_drewN→pN,below_drew1→p1,below_alloc→pA
open Go.Proofs.YtlnhpkjioppbiaaDoorW.PrintWords.Kd renaming R_alloc→kA,R_drewN→kN,R_drew→kD,Q_alloc→qA,Q_drewN→qN,Q_drew→qD,C_alloc→cA,C_drewN→cN,C_drew→cD
open Go.Proofs.YtlnhpkjioppbiaaDoorW.PrintWords.Aside0 renaming mk→aM
open List renaming setIfInBounds_toArray→sI,set_cons_zero→s0,set_cons_succ→sS,map_toArray→mT,length_take→lT,length_drop→lD,map_cons→mC,map_nil→mN
open Option renaming bind_eq_some_iff→oB,bind_some→oS
attribute [local go_sem] max2_int min2_int max_two min_two max_three min_three max_four min_four
set_option maxHeartbeats 8000000
set_option maxRecDepth 100000
set_option linter.unusedVariables false
set_option linter.unusedSimpArgs false
def spec_ddTable.l0:Nat→Int→Int→List (S70)→Int→Int→List Int→Option (Int×List Int)
 | 0,_,_,_,_,_,_=>none
 | k+1,x4,x389000,x389001,x389002,x391000,x391001=>if 0≤(IntKind.u64.wrap (x389000)) then (if x4<(shl .i64 1 (IntKind.u64.wrap (x389000))) then ((spec_ddValue.f k x389000 x389001 x389002 x4).bind fun t391=>(if x391001.length<17592186044416 then (spec_ddTable.l0 k (wrap64 (x4+1)) x389000 x389001 x389002 x391000 (x391001 ++ [t391])) else (none))) else (some (x391000,x391001))) else (none)
def spec_ddTable.f (k:Nat) (a0_0:Int) (l0_1:List (S70)) (a0_2:Int):Option (Int×List Int):=spec_ddTable.l0 k 0 a0_0 l0_1 a0_2 a0_0 ([]:List Int)
def spec_ddTable.T5:Bool×List (List Nat×List Nat):=(true,[([],[]),([0],[0]),([],[]),([],[]),([2,3],[2,3]),([4],[4]),([1,5,4],[1,5]),([0,1,2,3,4,5,6],[]),([7,6,6,0,1,2,3,4,5,6],[6,7])])
def spec_ddTable.B5:List Nat:=[0,1,0,0,12,28,63,127,255]
theorem spec_ddTable.tab5:rtab .any (opsOf Tryd.f91 5)=spec_ddTable.T5:=by kernel_rfl
theorem spec_ddTable.bits5:waitsOk spec_ddTable.T5.2 spec_ddTable.B5=true:=by kernel_rfl
theorem spec_ddTable.calls (k:Nat) (a0_0:Int) (A0_1:Option Addr) (c0_1:Nat) (l0_1:List (S70)) (a0_2:Int) (r1:Int) (r2:List Int) (w:World) (hr0_1:Kd.C k70 w A0_1 l0_1.length l0_1) (hc0_1:l0_1.length≤c0_1) (h:spec_ddTable.f k a0_0 l0_1 a0_2=some (r1,r2)) :
  Calls Tryd.prog 91 #[.agg #[.int .i64 a0_0,.slice A0_1 l0_1.length c0_1,.int .i64 a0_2]] w fun e w' => ∃ v1_:Value,e = .returned (.agg #[.int .i64 r1,v1_])∧Kd.R (Kd.int .i64) 3 w' w.heap.size (fun _=>True) v1_ r2∧Below w.heap.size w w':=by
 have hu30:=Tryd.underlying30
 have hu26:=Tryd.underlying26
 have HR0_1:=aM hr0_1
 have HC0_1:=aM hc0_1
 clear hr0_1 hc0_1
 have HB:=aM (Below.refl w.heap.size w)
 have H:(spec_ddTable.l0 k 0 a0_0 l0_1 a0_2 a0_0 ([]:List Int))=some (r1,r2):=h
 clear h
 have H':=aM H
 clear H
 go_enter Tryd.func91,Tryd.ntmps91
 go_wp2_with (first | ((with_reducible refine gate_dst (N:=1) rfl ?_);refine box_event ?hg (N:=1) ?hd (cs:=#[.int .i64 a0_0,.slice A0_1 l0_1.length c0_1,.int .i64 a0_2]) (t:=30) ?hr ?_;(case hd=>rfl);(case hg=>rfl);(case hr=>exact zb_);intro gb388 hg w2 hbox hb;have n_:=z (below_step za_ hb)<|z (hbox)<|z ((by rw [hg];exact (below_size za_):w.heap.size≤gb388))<|z1 ((by rw [hg];exact (below_size za_):w.heap.size≤gb388));clear HB;obtain ⟨HB,BK388,GW388,GE388⟩:=n_;clear hb hbox hg)|((with_reducible refine gate_dst (N:=2) rfl ?_);refine box_event ?hg (N:=2) ?hd (cs:=#[.int .i64 0,.slice none 0 0]) (t:=26) ?hr ?_;(case hd=>rfl);(case hg=>rfl);(case hr=>exact zb_);intro gb389 hg w3 hbox hb;have n_:=z (blk_below (zb BK388.out) hb)<|z (below_step zbbj_ hb)<|z (hbox)<|z ((by rw [hg];exact (below_size zbbj_):w.heap.size≤gb389))<|z ((by rw [hg];exact (below_size zbbj_):w.heap.size≤gb389))<|z ((by rw [hg];exact Nat.ne_of_lt (blk_lt (zb BK388.out)):gb388≠gb389))<|z1 ((by rw [hg];exact Nat.ne_of_gt (blk_lt (zb BK388.out)):gb389≠gb388));clear BK388 HB;obtain ⟨BK388,HB,BK389,GW389,GE389,NB388_389,NB389_388⟩:=n_;clear hb hbox hg;have hnb4:=NB388_389.out;have hnc4:=NB389_388.out;obtain ⟨hcz5_0,hcz5_1,hcz5_2,hfz5_0,hfz5_1,hfz5_2⟩:=zk3 BK388.out)|((with_reducible refine gate_dst (N:=3) rfl ?_);refine box_event ?hg (N:=3) ?hd (cs:=#[.int .i64 0,.slice none 0 0]) (t:=26) ?hr ?_;(case hd=>rfl);(case hg=>rfl);(case hr=>exact zb_);intro gb390 hg w6 hbox hb;have n_:=z (blk_below (zb BK388.out) hb)<|z (blk_below (zb BK389.out) hb)<|z (below_step zbca_ hb)<|z (hbox)<|z ((by rw [hg];exact (below_size zbca_):w.heap.size≤gb390))<|z ((by rw [hg];exact (below_size zbca_):w.heap.size≤gb390))<|z ((by rw [hg];exact Nat.ne_of_lt (blk_lt (zb BK388.out)):gb388≠gb390))<|z ((by rw [hg];exact Nat.ne_of_gt (blk_lt (zb BK388.out)):gb390≠gb388))<|z ((by rw [hg];exact Nat.ne_of_lt (blk_lt (zb BK389.out)):gb389≠gb390))<|z1 ((by rw [hg];exact Nat.ne_of_gt (blk_lt (zb BK389.out)):gb390≠gb389));clear BK388 BK389 HB;obtain ⟨BK388,BK389,HB,BK390,GW390,GE390,NB388_390,NB390_388,NB389_390,NB390_389⟩:=n_;clear hb hbox hg;have hnb7:=NB390_388.out;have hnc7:=NB388_390.out;have hnb8:=NB390_389.out;have hnc8:=NB389_390.out;obtain ⟨hcz9_0,hcz9_1,hfz9_0,hfz9_1⟩:=zk2 BK390.out))
 go_loopg [4] k (fun kq v4 w' => ∃ (x4_1:Int) (x391001_1:List Int) (u391001:Value),v4 = .int .i64 x4_1∧Aside0 (spec_ddTable.l0 kq x4_1 a0_0 l0_1 a0_2 a0_0 x391001_1=some (r1,r2))∧Aside0 (kq≤k)∧Aside0 (Kd.R (Kd.int .i64) 3 w' w.heap.size (fun _=>True) u391001 x391001_1)∧Aside0 (w'.heap[gb388]?=some (.cells #[.int .i64 a0_0,(.slice A0_1 l0_1.length c0_1),.int .i64 a0_2] 30 (0,0)))∧Aside0 (w'.heap[gb389]?=some (.cells #[.int .i64 0,(.slice none 0 0)] 26 (0,0)))∧Aside0 (w'.heap[gb390]?=some (.cells #[.int .i64 a0_0,u391001] 26 (0,0)))∧Aside0 (Below w.heap.size w w'))
 case atStart=>exact ⟨(0),(([]:List Int)),(.slice none 0 0),ze_,H',⟨Nat.le_refl _⟩,⟨zdi_⟩,⟨by refine zb ?_;refine blk_far ?_ NB388_390.out _;refine zb ?_;refine blk_far ?_ NB388_390.out _;refine zb ?_;exact BK388.out⟩,⟨by refine zb ?_;refine blk_far ?_ NB389_390.out _;refine zb ?_;refine blk_far ?_ NB389_390.out _;refine zb ?_;exact BK389.out⟩,⟨by refine zb ?_;refine blk_put (cs:=#[.int .i64 a0_0,.slice none 0 0]) ?_ 1 _ rfl;refine zb ?_;refine blk_put (cs:=#[.int .i64 0,.slice none 0 0]) ?_ 0 _ rfl;refine zb ?_;exact BK390.out⟩,⟨zhi_⟩⟩
 case round =>
  clear H';(try clear hcz5_0);(try clear hcz5_1);(try clear hcz5_2);(try clear hcz9_0);(try clear hcz9_1);(try clear hfz5_0);(try clear hfz5_1);(try clear hfz5_2);(try clear hfz9_0);(try clear hfz9_1);obtain ⟨x4_1,x391001_1,u391001,rfl,HA,HK1,HO_391001,BK388,BK389,BK390,HB⟩:=hrel
  cases gk with
  | zero=>exact absurd HA.out (by simp [spec_ddTable.l0])
  | succ k1 =>
   have H:=HA.out;clear HA
   simp only [spec_ddTable.l0] at H
   obtain ⟨ji10,hji10⟩:∃ j_:Int,(IntKind.u64.wrap (a0_0))=j_:=⟨_,rfl⟩;replace H:(if 0≤(ji10) then (if x4_1<(shl .i64 1 (ji10)) then ((spec_ddValue.f k1 a0_0 l0_1 a0_2 x4_1).bind fun t391=>(if x391001_1.length<17592186044416 then (spec_ddTable.l0 k1 (wrap64 (x4_1+1)) a0_0 l0_1 a0_2 a0_0 (x391001_1 ++ [t391])) else (none))) else (some (a0_0,x391001_1))) else (none))=some (r1,r2):=by first | (rw [hji10] at H;exact H)|(simp only [hji10] at H ⊢;exact H)
   by_cases c11:0≤(ji10)
   ·rw [if_pos c11] at H
    have c11b0:=eq_true c11;have c11b1:=decide_eq_true c11;clear c11;obtain ⟨ji12,hji12⟩:∃ j_:Int,(shl .i64 1 (ji10))=j_:=⟨_,rfl⟩;replace H:(if x4_1<(ji12) then ((spec_ddValue.f k1 a0_0 l0_1 a0_2 x4_1).bind fun t391=>(if x391001_1.length<17592186044416 then (spec_ddTable.l0 k1 (wrap64 (x4_1+1)) a0_0 l0_1 a0_2 a0_0 (x391001_1 ++ [t391])) else (none))) else (some (a0_0,x391001_1)))=some (r1,r2):=by first | (rw [hji12] at H;exact H)|(simp only [hji12] at H ⊢;exact H)
    have hji12_:(IntKind.i64.wrap (1 * 2 ^ min (ji10).toNat 64))=ji12:=hji12;have hji12z:(ji10)≤64→(IntKind.i64.wrap (1 * 2 ^ (ji10).toNat))=ji12:=shl_small hji12;have hji12u:(IntKind.i64.wrap (2 ^ min (ji10).toNat 64))=ji12:=by have h_:=hji12_;rw [Int.one_mul] at h_;exact h_
    have hji12v:(ji10)≤64→(IntKind.i64.wrap (2 ^ (ji10).toNat))=ji12:=fun hle_=>by have h_:=hji12z hle_;rw [Int.one_mul] at h_;exact h_
    have hji12y:(wrap64 (1 * 2 ^ min (ji10).toNat 64))=ji12:=(i64_w _).symm.trans hji12_;have hji12x:(ji10)≤64→(wrap64 (1 * 2 ^ (ji10).toNat))=ji12:=fun h_=>(i64_w _).symm.trans (hji12z h_)
    by_cases c13:x4_1<(ji12)
    ·rw [if_pos c13] at H
     have c13b0:=decide_eq_true c13;clear c13;replace H:=oB.mp H;obtain ⟨t391,A140,H⟩:=H;replace H:(if x391001_1.length<17592186044416 then (spec_ddTable.l0 k1 (wrap64 (x4_1+1)) a0_0 l0_1 a0_2 a0_0 (x391001_1 ++ [t391])) else (none))=some (r1,r2):=H;have A14:=aM A140;clear A140
     by_cases c15:x391001_1.length<17592186044416
     ·rw [if_pos c15] at H
      have LMc15:=aM c15;clear c15;obtain ⟨y392,hy392⟩:∃ y_:List Int,y_=(x391001_1 ++ [t391]):=⟨_,rfl⟩;replace H:(spec_ddTable.l0 k1 (wrap64 (x4_1+1)) a0_0 l0_1 a0_2 a0_0 y392)=some (r1,r2):=q3y_ hy392 H
      have Ny392:=aM hy392;clear hy392;have H':=aM H;clear H;have hnb16:=NB388_389.out;have hnc16:=NB389_388.out;have hnb17:=NB388_390.out;have hnc17:=NB390_388.out;obtain ⟨hcz18_0,hcz18_1,hcz18_2,hfz18_0,hfz18_1,hfz18_2⟩:=zk3 BK388.out;(try go_wp2);have n_:=z (kD HO_391001.out)<|z (blk_drew BK388.out)<|z (blk_drew BK389.out)<|z (blk_drew BK390.out)<|z1 (p1 HB.out)
      clear HO_391001 BK388 BK389 BK390 HB;obtain ⟨HO_391001,BK388,BK389,BK390,HB⟩:=n_
      refine start_ (n:=9) (S:=fun w'=>w'.cell? ⟨gb390,0,none⟩=some (.int .i64 a0_0)∧w'.cell? ⟨gb390,1,none⟩=some (u391001)∧w'.cell? ⟨gb388,0,none⟩=some (.int .i64 a0_0)∧w'.cell? ⟨gb388,1,none⟩=some (.slice A0_1 l0_1.length c0_1)∧w'.cell? ⟨gb388,2,none⟩=some (.int .i64 a0_2)) (ds:=[8]) #[fi,fi,fi,fi,fi,fi,fi,fi,fi] (by kernel_rfl) rfl rfl ⟨(blk_cell BK390.out 0).trans rfl,(blk_cell BK390.out 1).trans rfl,(blk_cell BK388.out 0).trans rfl,(blk_cell BK388.out 1).trans rfl,(blk_cell BK388.out 2).trans rfl⟩ (fun hHeld=>?_);refine with_tabW spec_ddTable.tab5 spec_ddTable.bits5 (fun HT_ HW_=>?_)
      generalize wr.drew=w19 at HO_391001 BK388 BK389 BK390 HB hHeld ⊢;refine py_ 0 16 HT_.out ?_;refine py_ 3 19 HT_.out ?_
      refine tw5_ 1 17 HT_.out HW_.out hHeld ?_
      refine tw5_ 2 18 HT_.out HW_.out hHeld ?_
      refine one_ (i:=4) (N:=some 20) #[ti,ti,ti,ti,ti,fi,fi,fi,fi] rfl rfl (one_of HT_.out (by kernel_rfl)) (by decide) (fun K hK=>?_)
      refine goes_ Tryd.func64 (by kernel_rfl) rfl #[.agg #[.int .i64 a0_0,.slice A0_1 l0_1.length c0_1,.int .i64 a0_2],.int .i64 x4_1] (by rfl) rfl rfl zd_ ?_
      with_reducible refine (spec_ddValue.calls k1 a0_0 _ _ l0_1 a0_2 x4_1 t391 _ ?side1 ?side2 A14.out).mono ?_
      (case side1=>exact zg_)
      (case side2=>exact HC0_1.out)
      rintro e w20 ⟨rfl,hb⟩
      refine ⟨_,rfl,?_⟩
      have n_:=z (Kd.R_below (zr HO_391001.out) hb)<|z (blk_below (zb BK388.out) hb)<|z (blk_below (zb BK389.out) hb)<|z (blk_below (zb BK390.out) hb)<|z1 (below_step zhi_ hb)
      clear HO_391001 BK388 BK389 BK390 HB;obtain ⟨HO_391001,BK388,BK389,BK390,HB⟩:=n_;(try clear hb);(try clear hb2);(try clear hk);(try clear hi)
      refine hK.out _ _ ⟨(blk_cell BK390.out 0).trans rfl,(blk_cell BK390.out 1).trans rfl,(blk_cell BK388.out 0).trans rfl,(blk_cell BK388.out 1).trans rfl,(blk_cell BK388.out 2).trans rfl⟩ (fun hHeld=>?_)
      clear hK K
      refine nz_ 20 ?_
      refine one_ (i:=5) (N:=some 21) #[ti,ti,ti,ti,ti,ti,fi,fi,fi] rfl rfl (one_of HT_.out (by kernel_rfl)) (by decide) (fun K hK=>?_)
      refine value_ (w1:=?_) (v:=?_) (by rfl) rfl ?_ ?_
      rotate_left 2
      ·go_simp
       constructor
       ·rfl
       ·rfl
      refine hK.out _ _ ⟨(blk_cell (blk_alloc BK390.out _) 0).trans rfl,(blk_cell (blk_alloc BK390.out _) 1).trans rfl,(blk_cell (blk_alloc BK388.out _) 0).trans rfl,(blk_cell (blk_alloc BK388.out _) 1).trans rfl,(blk_cell (blk_alloc BK388.out _) 2).trans rfl⟩ (fun hHeld=>?_)
      clear hK K
      refine nz_ 21 ?_
      refine one_ (i:=6) (N:=some 22) #[ti,ti,ti,ti,ti,ti,ti,fi,fi] rfl rfl (one_of HT_.out (by kernel_rfl)) (by decide) (fun K hK=>?_)
      refine Kd.R_append_step (Kd.int .i64) (w0:=w) w.heap.size (by rfl) (.tmp 17) (.tmp 21) 24 3 (.int .i64 0) 8 rfl Tryd.underlying24 info3 rfl (by decide) (by omega) u391001 x391001_1 t391 [.int .i64 t391] (fun _=>True) (fun _=>False) rfl rfl ?aP (fun _ hk=>hk.elim) ?aF ?aO ?aB ?aS ?aL ?_
      (case aP=>exact rfl)
      (case aB=>exact zhi_)
      (case aF=>exact zdf_)
      (case aO=>exact (zr HO_391001.out))
      (case aS=>exact (below_size zhi_))
      (case aL=>have:=LMc15.out;omega)
      intro v393 w21 ho hb hg hat
      rw [← Ny392.out] at ho;have n_:=z (blk_grown (g:=gb388) (o := .cells #[.int .i64 a0_0,.slice A0_1 l0_1.length c0_1,.int .i64 a0_2] 30 (0,0)) (zb BK388.out) hg (Kd.R_ne HO_391001.out BK388.out (by decide)))<|z (blk_grown (g:=gb389) (o := .cells #[.int .i64 0,.slice none 0 0] 26 (0,0)) (zb BK389.out) hg (Kd.R_ne HO_391001.out BK389.out (by decide)))<|z (blk_grown (g:=gb390) (o := .cells #[.int .i64 a0_0,u391001] 26 (0,0)) (zb BK390.out) hg (Kd.R_ne HO_391001.out BK390.out (by decide)))<|z (hb)<|z1 (ho)
      clear BK388 BK389 BK390 HB HO_391001;obtain ⟨BK388,BK389,BK390,HB,HO394⟩:=n_;clear ho hb hg hat;obtain ⟨Ao22,co22,eo22⟩:=Kd.R_slice HO394.out;(first | subst eo22 | (injection eo22 with f1_ f2_ f3_;have f4_:=f1_.symm;have f5_:=f3_.symm;clear f1_ f2_ f3_;subst f4_;subst f5_))
      refine hK.out _ _ ⟨(blk_cell BK390.out 0).trans rfl,(blk_cell BK390.out 1).trans rfl,(blk_cell BK388.out 0).trans rfl,(blk_cell BK388.out 1).trans rfl,(blk_cell BK388.out 2).trans rfl⟩ (fun hHeld=>?_)
      clear hK K
      refine nz_ 22 ?_
      refine py_ 7 23 HT_.out ?_
      refine last_ (i:=8) (N:=none) #[ti,ti,ti,ti,ti,ti,ti,ti,ti] rfl rfl (one_of HT_.out (by kernel_rfl)) (by decide) (fun K hK=>?_)
      have hs23:w21.cell? ⟨gb390,1,none⟩=some (u391001):=(blk_cell BK390.out 1).trans rfl;have hfs23:=blk_frozen BK390.out 1;have hns23_0:=NB388_390.out;have hns23_1:=NB389_390.out;have hms23_0:=NB390_388.out;have hms23_1:=NB390_389.out
      refine skip_ (w1:=?_) (by rfl) rfl ?_ ?_
      rotate_left
      ·go_simp
       rfl
      refine hK.out _ _ ?_
      clear hK K
      refine done_ (done_of HT_.out (by kernel_rfl)) ?_
      (try go_wp2)
      go_roundg k1
      case measure=>have:=HK1.out;omega
      case rel=>exact ⟨(wrap64 (x4_1+1)),(y392),(.slice Ao22 y392.length co22),ze_,H',⟨zbd_⟩,⟨by refine zr ?_;exact Kd.R_mono (Kd.R_far (p:=⟨gb390,1,none⟩) (Kd.R_types HO394.out BK390.out (by decide)) (fun _ hk=>hk.2) (.slice Ao22 y392.length co22)) (fun _ hk=>trivial)⟩,⟨by refine zb ?_;refine blk_far ?_ NB388_390.out _;refine zb ?_;exact BK388.out⟩,⟨by refine zb ?_;refine blk_far ?_ NB389_390.out _;refine zb ?_;exact BK389.out⟩,⟨by refine zb ?_;refine blk_put (cs:=#[.int .i64 a0_0,u391001]) ?_ 1 _ rfl;refine zb ?_;exact BK390.out⟩,⟨zhi_⟩⟩
     ·rw [if_neg c15] at H
      exact q3n_ H
    ·rw [if_neg c13] at H
     have c13b0:=decide_eq_false c13;clear c13
     simp only [Option.some.injEq,Prod.mk.injEq] at H
     obtain ⟨rfl,rfl⟩:=H;have hnb24:=NB388_389.out;have hnc24:=NB389_388.out;have hnb25:=NB388_390.out;have hnc25:=NB390_388.out;obtain ⟨hcz26_0,hcz26_1,hcz26_2,hfz26_0,hfz26_1,hfz26_2⟩:=zk3 BK388.out;have hnb27:=NB390_389.out;have hnc27:=NB389_390.out;obtain ⟨hcz28_0,hcz28_1,hfz28_0,hfz28_1⟩:=zk2 BK390.out;obtain ⟨hcz29_0,hcz29_1,hfz29_0,hfz29_1⟩:=zk2 BK389.out;obtain ⟨Ao30,co30,eo30⟩:=Kd.R_slice HO_391001.out;subst eo30
     go_wp2
     refine bodyPost_ret (results_cell_row rfl _ _ gb389 26 #[.int .i64 a0_0,.slice Ao30 x391001_1.length co30] (0,0) _ rfl (by refine zb ?_;refine blk_put (cs:=#[.int .i64 a0_0,.slice none 0 0]) ?_ 1 _ rfl;refine zb ?_;refine blk_put (cs:=#[.int .i64 0,.slice none 0 0]) ?_ 0 _ rfl;refine zb ?_;exact BK389.out) Tryd.underlying26 rfl (by kernel_rfl)) rfl ?_
     exact ⟨_,by first | rfl | (simp [errW_none,errW_some] <;> rfl)|(simp only [← hji10,← hji12];first | rfl | (simp [errW_none,errW_some] <;> rfl))|(simp [*,errW_none,errW_some] <;> rfl),by refine zr ?_;exact Kd.R_mono (Kd.R_far (p:=⟨gb389,1,none⟩) (Kd.R_far (p:=⟨gb389,0,none⟩) (Kd.R_types HO_391001.out BK389.out (by decide)) (fun _ hk=>hk.2) (.int .i64 a0_0)) (fun _ hk=>hk.2) (.slice Ao30 x391001_1.length co30)) (fun _ hk=>trivial),zhi_⟩
   ·rw [if_neg c11] at H
    exact q3n_ H
mutual
def spec_ddGood.j0:Nat→Bool→Int→List (S70)→Int→Option (Bool)
 | 0,_,_,_,_=>none
 | k+1,x24,x396000,x396001,x396002=>if x24=true then (some false) else (spec_ddGood.l0 k x396001 (x396001.length:Int) 0 x396000 x396001 x396002)
def spec_ddGood.l0:Nat→List (S70)→Int→Int→Int→List (S70)→Int→Option (Bool)
 | 0,_,_,_,_,_,_=>none
 | k+1,x26,x27,x28,x396000,x396001,x396002=>if x28<x27 then (if 0≤x28 then (if x28<(x26.length:Int) then ((spec_l1In.f ((rd_T70 x26 x28).f0) 0 (wrap64 (x396000 - 1))).bind fun t410=>(if t410=true then ((spec_l1In.f ((rd_T70 x26 x28).f1) 0 (wrap64 (x28+1))).bind fun t411=>(if t411=true then ((spec_l1In.f ((rd_T70 x26 x28).f2) 0 (wrap64 (x28+1))).bind fun t412=>(if t412=true then (spec_ddGood.l0 k x26 x27 (wrap64 (x28+1)) x396000 x396001 x396002) else (some false))) else (some false))) else (some false))) else (none)) else (none)) else ((spec_ddTable.f k x396000 x396001 x396002).bind fun bt398=>((spec_ddMake.f k bt398.1 bt398.2).bind fun bt402=>((spec_ddSame.f k x396000 x396001 x396002 bt402.1 bt402.2.1 bt402.2.2).bind fun t407=>(some t407))))
end
def spec_ddGood.f (k:Nat) (a0_0:Int) (l0_1:List (S70)) (a0_2:Int):Option (Bool):=(spec_ttInputs.f a0_0).bind fun t396=>(if t396=true then (if (l0_1.length:Int)>40 then (spec_ddGood.j0 k true a0_0 l0_1 a0_2) else ((spec_l1In.f a0_2 0 (wrap64 ((l0_1.length:Int)+1))).bind fun t397=>(spec_ddGood.j0 k (!t397) a0_0 l0_1 a0_2))) else (spec_ddGood.j0 k true a0_0 l0_1 a0_2))
theorem spec_ddGood.calls (k:Nat) (a0_0:Int) (A0_1:Option Addr) (c0_1:Nat) (l0_1:List (S70)) (a0_2:Int) (r:Bool) (w:World) (hr0_1:Kd.C k70 w A0_1 l0_1.length l0_1) (hc0_1:l0_1.length≤c0_1) (h:spec_ddGood.f k a0_0 l0_1 a0_2=some r) :
  Calls Tryd.prog 62 #[.agg #[.int .i64 a0_0,.slice A0_1 l0_1.length c0_1,.int .i64 a0_2]] w fun e w'=>e = .returned (.bool r)∧Below w.heap.size w w':=by
 have hu30:=Tryd.underlying30
 have hu70:=Tryd.underlying70
 have HR0_1:=aM hr0_1
 have HC0_1:=aM hc0_1
 clear hr0_1 hc0_1
 have HB:=aM (Below.refl w.heap.size w)
 have H:((spec_ttInputs.f a0_0).bind fun t396=>(if t396=true then (if (l0_1.length:Int)>40 then (spec_ddGood.j0 k true a0_0 l0_1 a0_2) else ((spec_l1In.f a0_2 0 (wrap64 ((l0_1.length:Int)+1))).bind fun t397=>(spec_ddGood.j0 k (!t397) a0_0 l0_1 a0_2))) else (spec_ddGood.j0 k true a0_0 l0_1 a0_2)))=some r:=h
 clear h
 have HC2:=aM H
 clear H
 go_enter Tryd.func62,Tryd.ntmps62
 go_upto_region 1 with (first | ((with_reducible refine gate_dst (N:=1) rfl ?_);(try (refine gate_guard (by rfl) ?_;dsimp only));refine box_event ?hg (N:=1) ?hd (cs:=#[.int .i64 a0_0,.slice A0_1 l0_1.length c0_1,.int .i64 a0_2]) (t:=30) ?hr ?_;(case hd=>rfl);(case hg=>rfl);(case hr=>exact zb_);intro gb395 hg w3 hbox hb;have n_:=z (below_step za_ hb)<|z (hbox)<|z ((by rw [hg];exact (below_size za_):w.heap.size≤gb395))<|z1 ((by rw [hg];exact (below_size za_):w.heap.size≤gb395));clear HB;obtain ⟨HB,BK395,GW395,GE395⟩:=n_;clear hb hbox hg))
 (try simp only [Act.put,sI,s0,sS])
 go_cut [24] (fun v24 wc => ∃ (kq:Nat) (x24_1:Bool),v24 = .bool x24_1∧Aside0 (spec_ddGood.j0 kq x24_1 a0_0 l0_1 a0_2=some r)∧Aside0 (kq≤k)∧Aside0 (wc.heap[gb395]?=some (.cells #[.int .i64 a0_0,(.slice A0_1 l0_1.length c0_1),.int .i64 a0_2] 30 (0,0)))∧Aside0 (Below w.heap.size w wc))
 case first =>
  have H:=HC2.out;clear HC2;replace H:=oB.mp H;obtain ⟨t396,A40,H⟩:=H;replace H:(if t396=true then (if (l0_1.length:Int)>40 then (spec_ddGood.j0 k true a0_0 l0_1 a0_2) else ((spec_l1In.f a0_2 0 (wrap64 ((l0_1.length:Int)+1))).bind fun t397=>(spec_ddGood.j0 k (!t397) a0_0 l0_1 a0_2))) else (spec_ddGood.j0 k true a0_0 l0_1 a0_2))=some r:=H;have A4:=aM A40;clear A40
  by_cases c5:t396=true
  ·subst c5
   have H1:(if (l0_1.length:Int)>40 then (spec_ddGood.j0 k true a0_0 l0_1 a0_2) else ((spec_l1In.f a0_2 0 (wrap64 ((l0_1.length:Int)+1))).bind fun t397=>(spec_ddGood.j0 k (!t397) a0_0 l0_1 a0_2)))=some r:=by rw [if_pos rfl] at H;exact H
   clear H;have H:=H1;clear H1
   by_cases c6:(l0_1.length:Int)>40
   ·rw [if_pos c6] at H
    have c6b0:decide (40<(l0_1.length:Int))=true:=decide_eq_true c6;have c6b1:decide (40<l0_1.length)=true:=decide_eq_true (by omega);clear c6;(first | rw [c6b0]|(simp only [i64_w,i32_w];rw [c6b0]) | skip);have H':=aM H;clear H;obtain ⟨hcz7_0,hcz7_1,hcz7_2,hfz7_0,hfz7_1,hfz7_2⟩:=zk3 BK395.out
    go_wp2_with (first | ((with_reducible refine gate_callee (f:=85) rfl ?_);refine goesL_ (some 7) rfl rfl Tryd.func85 (by kernel_rfl) rfl #[.int .i64 a0_0] rfl zd_ ?_;(with_reducible refine (spec_ttInputs.calls a0_0 true _ A4.out).mono ?_);rintro e w' ⟨rfl,⟨nd,rfl⟩⟩;refine ⟨_,rfl,?_⟩))
    go_meet
    case rel=>exact ⟨_,(true),ze_,H',⟨zcf_⟩,⟨zb BK395.out⟩,⟨zbi_⟩⟩
   ·rw [if_neg c6] at H
    have c6b0:decide (40<(l0_1.length:Int))=false:=decide_eq_false c6;have c6b1:decide (40<l0_1.length)=false:=decide_eq_false (by omega);clear c6;(first | rw [c6b0]|(simp only [i64_w,i32_w];rw [c6b0]) | skip);replace H:=oB.mp H;obtain ⟨t397,A80,H⟩:=H;replace H:(spec_ddGood.j0 k (!t397) a0_0 l0_1 a0_2)=some r:=H;have A8:=aM A80;clear A80;have H':=aM H;clear H;obtain ⟨hcz9_0,hcz9_1,hcz9_2,hfz9_0,hfz9_1,hfz9_2⟩:=zk3 BK395.out
    go_wp2_with (first | ((with_reducible refine gate_callee (f:=85) rfl ?_);refine goesL_ (some 7) rfl rfl Tryd.func85 (by kernel_rfl) rfl #[.int .i64 a0_0] rfl zd_ ?_;(with_reducible refine (spec_ttInputs.calls a0_0 true _ A4.out).mono ?_);rintro e w' ⟨rfl,⟨nd,rfl⟩⟩;refine ⟨_,rfl,?_⟩)|(go_at_call 76;(with_reducible refine (spec_l1In.calls a0_2 0 (wrap64 ((l0_1.length:Int)+1)) t397 _ A8.out).mono ?_);rintro e w' ⟨rfl,⟨nd,rfl⟩⟩))
    go_meet
    case rel=>exact ⟨_,(!t397),ze_,H',⟨zcf_⟩,⟨zb BK395.out⟩,⟨zbi_⟩⟩
  ·replace c5:=Bool.eq_false_iff.mpr c5
   subst c5;have H1:(spec_ddGood.j0 k true a0_0 l0_1 a0_2)=some r:=by rw [if_neg (show ¬ (false=true) by decide)] at H;exact H
   clear H;have H:=H1;clear H1;have H':=aM H;clear H;obtain ⟨hcz10_0,hcz10_1,hcz10_2,hfz10_0,hfz10_1,hfz10_2⟩:=zk3 BK395.out
   go_wp2_with (first | ((with_reducible refine gate_callee (f:=85) rfl ?_);refine goesL_ (some 7) rfl rfl Tryd.func85 (by kernel_rfl) rfl #[.int .i64 a0_0] rfl zd_ ?_;(with_reducible refine (spec_ttInputs.calls a0_0 false _ A4.out).mono ?_);rintro e w' ⟨rfl,⟨nd,rfl⟩⟩;refine ⟨_,rfl,?_⟩))
   go_meet
   case rel=>exact ⟨_,(true),ze_,H',⟨zcf_⟩,⟨zb BK395.out⟩,⟨zbi_⟩⟩
 case rest =>
  clear HC2;obtain ⟨kq,x24_1,rfl,HA,HJ1,BK395,HB⟩:=hcut
  cases kq with
  | zero=>exact absurd HA.out (by simp [spec_ddGood.j0])
  | succ kj1 =>
   have H:=HA.out;clear HA
   simp only [spec_ddGood.j0] at H
   by_cases c11:x24_1=true
   ·subst c11
    have H1:(some false)=some r:=by rw [if_pos rfl] at H;exact H
    clear H;have H:=H1;clear H1;obtain rfl:=Option.some.inj H
    go_wp2
    go_ret
    exact ⟨zf_,zbi_⟩
   ·replace c11:=Bool.eq_false_iff.mpr c11
    subst c11;have H1:(spec_ddGood.l0 kj1 l0_1 (l0_1.length:Int) 0 a0_0 l0_1 a0_2)=some r:=by rw [if_neg (show ¬ (false=true) by decide)] at H;exact H
    clear H;have H:=H1;clear H1;have H':=aM H;clear H;obtain ⟨hcz12_0,hcz12_1,hcz12_2,hfz12_0,hfz12_1,hfz12_2⟩:=zk3 BK395.out
    go_wp2
    go_loopg [28] kj1 (fun kq v28 w' => ∃ (x28_2:Int),v28 = .int .i64 x28_2∧Aside0 (spec_ddGood.l0 kq l0_1 (l0_1.length:Int) x28_2 a0_0 l0_1 a0_2=some r)∧Aside0 (kq≤kj1)∧Aside0 (w'.heap[gb395]?=some (.cells #[.int .i64 a0_0,(.slice A0_1 l0_1.length c0_1),.int .i64 a0_2] 30 (0,0)))∧Aside0 (Below w.heap.size w w'))
    case atStart=>exact ⟨(0),ze_,H',⟨Nat.le_refl _⟩,⟨zb BK395.out⟩,⟨zbi_⟩⟩
    case round =>
     clear H';(try clear hcz12_0);(try clear hcz12_1);(try clear hcz12_2);(try clear hfz12_0);(try clear hfz12_1);(try clear hfz12_2);obtain ⟨x28_2,rfl,HA,HK2,BK395,HB⟩:=hrel
     cases gk with
     | zero=>exact absurd HA.out (by simp [spec_ddGood.l0])
     | succ k2 =>
      have H:=HA.out;clear HA
      simp only [spec_ddGood.l0] at H
      by_cases c13:x28_2<(l0_1.length:Int)
      ·rw [if_pos c13] at H
       have c13b0:=decide_eq_true c13;clear c13
       by_cases c14:0≤x28_2
       ·rw [if_pos c14] at H
        have c14b0:=decide_eq_true c14;clear c14
        by_cases c15:x28_2<(l0_1.length:Int)
        ·rw [if_pos c15] at H
         have c15b0:=decide_eq_true c15;clear c15;replace H:=oB.mp H;obtain ⟨t410,A160,H⟩:=H;replace H:(if t410=true then ((spec_l1In.f ((rd_T70 l0_1 x28_2).f1) 0 (wrap64 (x28_2+1))).bind fun t411=>(if t411=true then ((spec_l1In.f ((rd_T70 l0_1 x28_2).f2) 0 (wrap64 (x28_2+1))).bind fun t412=>(if t412=true then (spec_ddGood.l0 k2 l0_1 (l0_1.length:Int) (wrap64 (x28_2+1)) a0_0 l0_1 a0_2) else (some false))) else (some false))) else (some false))=some r:=H;have A16:=aM A160;clear A160
         by_cases c17:t410=true
         ·subst c17
          have H1:((spec_l1In.f ((rd_T70 l0_1 x28_2).f1) 0 (wrap64 (x28_2+1))).bind fun t411=>(if t411=true then ((spec_l1In.f ((rd_T70 l0_1 x28_2).f2) 0 (wrap64 (x28_2+1))).bind fun t412=>(if t412=true then (spec_ddGood.l0 k2 l0_1 (l0_1.length:Int) (wrap64 (x28_2+1)) a0_0 l0_1 a0_2) else (some false))) else (some false)))=some r:=by rw [if_pos rfl] at H;exact H
          clear H;have H:=H1;clear H1;replace H:=oB.mp H;obtain ⟨t411,A180,H⟩:=H;replace H:(if t411=true then ((spec_l1In.f ((rd_T70 l0_1 x28_2).f2) 0 (wrap64 (x28_2+1))).bind fun t412=>(if t412=true then (spec_ddGood.l0 k2 l0_1 (l0_1.length:Int) (wrap64 (x28_2+1)) a0_0 l0_1 a0_2) else (some false))) else (some false))=some r:=H;have A18:=aM A180;clear A180
          by_cases c19:t411=true
          ·subst c19
           have H1:((spec_l1In.f ((rd_T70 l0_1 x28_2).f2) 0 (wrap64 (x28_2+1))).bind fun t412=>(if t412=true then (spec_ddGood.l0 k2 l0_1 (l0_1.length:Int) (wrap64 (x28_2+1)) a0_0 l0_1 a0_2) else (some false)))=some r:=by rw [if_pos rfl] at H;exact H
           clear H;have H:=H1;clear H1;replace H:=oB.mp H;obtain ⟨t412,A200,H⟩:=H;replace H:(if t412=true then (spec_ddGood.l0 k2 l0_1 (l0_1.length:Int) (wrap64 (x28_2+1)) a0_0 l0_1 a0_2) else (some false))=some r:=H;have A20:=aM A200;clear A200
           by_cases c21:t412=true
           ·subst c21
            have H1:(spec_ddGood.l0 k2 l0_1 (l0_1.length:Int) (wrap64 (x28_2+1)) a0_0 l0_1 a0_2)=some r:=by rw [if_pos rfl] at H;exact H
            clear H;have H:=H1;clear H1;have H':=aM H;clear H;have p408:0≤(x28_2:Int):=of_decide_eq_true zc_;have q408:x28_2<(l0_1.length:Int):=of_decide_eq_true zc_;obtain ⟨ad408,e408,hx408_0,hx408_1,hx408_2⟩:=at_T70 HR0_1.out x28_2 p408 q408
            cases e408
            (try (replace hx408_0:=q3h_ HB.out hx408_0));(try (replace hx408_1:=q3h_ HB.out hx408_1));(try (replace hx408_2:=q3h_ HB.out hx408_2));replace p408:=eq_true p408;replace q408:=eq_true q408
            go_wp2_with (first | ((with_reducible refine gate_dst (N:=4) rfl ?_);(try (refine gate_guard (by rfl) ?_;dsimp only));refine box_event ?hg (N:=4) ?hd (cs:=#[.int .i64 0,.int .i64 0,.int .i64 0]) (t:=70) ?hr ?_;(case hd=>rfl);(case hg=>rfl);(case hr=>exact zb_);intro gb409 hg w22 hbox hb;have n_:=z (blk_below (zb BK395.out) hb)<|z (below_step zbi_ hb)<|z (hbox)<|z ((by rw [hg];exact (below_size zbi_):w.heap.size≤gb409))<|z ((by rw [hg];exact (below_size zbi_):w.heap.size≤gb409))<|z ((by rw [hg];exact Nat.ne_of_lt (blk_lt (zb BK395.out)):gb395≠gb409))<|z1 ((by rw [hg];exact Nat.ne_of_gt (blk_lt (zb BK395.out)):gb409≠gb395));clear BK395 HB;obtain ⟨BK395,HB,BK409,GW409,GE409,NB395_409,NB409_395⟩:=n_;clear hb hbox hg;have hnb23:=NB409_395.out;have hnc23:=NB395_409.out;obtain ⟨hcz24_0,hcz24_1,hcz24_2,hfz24_0,hfz24_1,hfz24_2⟩:=zk3 BK409.out;obtain ⟨hcz25_0,hcz25_1,hcz25_2,hfz25_0,hfz25_1,hfz25_2⟩:=zk3 BK395.out)|((with_reducible refine gate_callee (f:=76) rfl ?_);refine goesL_ (some 38) rfl rfl Tryd.func76 (by kernel_rfl) rfl #[.int .i64 ((rd_T70 l0_1 x28_2).f0),.int .i64 0,.int .i64 (wrap64 (a0_0 - 1))] rfl zd_ ?_;(with_reducible refine (spec_l1In.calls ((rd_T70 l0_1 x28_2).f0) 0 (wrap64 (a0_0 - 1)) true _ A16.out).mono ?_);rintro e w' ⟨rfl,⟨nd,rfl⟩⟩;refine ⟨_,rfl,?_⟩)|(go_at_call 76;(with_reducible refine (spec_l1In.calls ((rd_T70 l0_1 x28_2).f1) 0 (wrap64 (x28_2+1)) true _ A18.out).mono ?_);rintro e w' ⟨rfl,⟨nd,rfl⟩⟩)|(go_at_call 76;(with_reducible refine (spec_l1In.calls ((rd_T70 l0_1 x28_2).f2) 0 (wrap64 (x28_2+1)) true _ A20.out).mono ?_);rintro e w' ⟨rfl,⟨nd,rfl⟩⟩))
            go_roundg k2
            case measure=>have:=HJ1.out;have:=HK2.out;omega
            case rel=>exact ⟨(wrap64 (x28_2+1)),ze_,H',⟨by have:=HJ1.out;have:=HK2.out;omega⟩,⟨by refine zb ?_;refine blk_far ?_ NB395_409.out _;refine zb ?_;refine blk_far ?_ NB395_409.out _;refine zb ?_;refine blk_far ?_ NB395_409.out _;refine zb ?_;exact BK395.out⟩,⟨zji_⟩⟩
           ·replace c21:=Bool.eq_false_iff.mpr c21
            subst c21;have H1:(some false)=some r:=by rw [if_neg (show ¬ (false=true) by decide)] at H;exact H
            clear H;have H:=H1;clear H1;obtain rfl:=Option.some.inj H;have p408:0≤(x28_2:Int):=of_decide_eq_true zc_;have q408:x28_2<(l0_1.length:Int):=of_decide_eq_true zc_;obtain ⟨ad408,e408,hx408_0,hx408_1,hx408_2⟩:=at_T70 HR0_1.out x28_2 p408 q408
            cases e408
            (try (replace hx408_0:=q3h_ HB.out hx408_0));(try (replace hx408_1:=q3h_ HB.out hx408_1));(try (replace hx408_2:=q3h_ HB.out hx408_2));replace p408:=eq_true p408;replace q408:=eq_true q408
            go_wp2_with (first | ((with_reducible refine gate_dst (N:=4) rfl ?_);(try (refine gate_guard (by rfl) ?_;dsimp only));refine box_event ?hg (N:=4) ?hd (cs:=#[.int .i64 0,.int .i64 0,.int .i64 0]) (t:=70) ?hr ?_;(case hd=>rfl);(case hg=>rfl);(case hr=>exact zb_);intro gb409 hg w26 hbox hb;have n_:=z (blk_below (zb BK395.out) hb)<|z (below_step zbi_ hb)<|z (hbox)<|z ((by rw [hg];exact (below_size zbi_):w.heap.size≤gb409))<|z ((by rw [hg];exact (below_size zbi_):w.heap.size≤gb409))<|z ((by rw [hg];exact Nat.ne_of_lt (blk_lt (zb BK395.out)):gb395≠gb409))<|z1 ((by rw [hg];exact Nat.ne_of_gt (blk_lt (zb BK395.out)):gb409≠gb395));clear BK395 HB;obtain ⟨BK395,HB,BK409,GW409,GE409,NB395_409,NB409_395⟩:=n_;clear hb hbox hg;have hnb27:=NB409_395.out;have hnc27:=NB395_409.out;obtain ⟨hcz28_0,hcz28_1,hcz28_2,hfz28_0,hfz28_1,hfz28_2⟩:=zk3 BK409.out;obtain ⟨hcz29_0,hcz29_1,hcz29_2,hfz29_0,hfz29_1,hfz29_2⟩:=zk3 BK395.out)|((with_reducible refine gate_callee (f:=76) rfl ?_);refine goesL_ (some 38) rfl rfl Tryd.func76 (by kernel_rfl) rfl #[.int .i64 ((rd_T70 l0_1 x28_2).f0),.int .i64 0,.int .i64 (wrap64 (a0_0 - 1))] rfl zd_ ?_;(with_reducible refine (spec_l1In.calls ((rd_T70 l0_1 x28_2).f0) 0 (wrap64 (a0_0 - 1)) true _ A16.out).mono ?_);rintro e w' ⟨rfl,⟨nd,rfl⟩⟩;refine ⟨_,rfl,?_⟩)|(go_at_call 76;(with_reducible refine (spec_l1In.calls ((rd_T70 l0_1 x28_2).f1) 0 (wrap64 (x28_2+1)) true _ A18.out).mono ?_);rintro e w' ⟨rfl,⟨nd,rfl⟩⟩)|(go_at_call 76;(with_reducible refine (spec_l1In.calls ((rd_T70 l0_1 x28_2).f2) 0 (wrap64 (x28_2+1)) false _ A20.out).mono ?_);rintro e w' ⟨rfl,⟨nd,rfl⟩⟩))
            go_ret
            exact ⟨zf_,zji_⟩
          ·replace c19:=Bool.eq_false_iff.mpr c19
           subst c19;have H1:(some false)=some r:=by rw [if_neg (show ¬ (false=true) by decide)] at H;exact H
           clear H;have H:=H1;clear H1;obtain rfl:=Option.some.inj H;have p408:0≤(x28_2:Int):=of_decide_eq_true zc_;have q408:x28_2<(l0_1.length:Int):=of_decide_eq_true zc_;obtain ⟨ad408,e408,hx408_0,hx408_1,hx408_2⟩:=at_T70 HR0_1.out x28_2 p408 q408
           cases e408
           (try (replace hx408_0:=q3h_ HB.out hx408_0));(try (replace hx408_1:=q3h_ HB.out hx408_1));(try (replace hx408_2:=q3h_ HB.out hx408_2));replace p408:=eq_true p408;replace q408:=eq_true q408
           go_wp2_with (first | ((with_reducible refine gate_dst (N:=4) rfl ?_);(try (refine gate_guard (by rfl) ?_;dsimp only));refine box_event ?hg (N:=4) ?hd (cs:=#[.int .i64 0,.int .i64 0,.int .i64 0]) (t:=70) ?hr ?_;(case hd=>rfl);(case hg=>rfl);(case hr=>exact zb_);intro gb409 hg w30 hbox hb;have n_:=z (blk_below (zb BK395.out) hb)<|z (below_step zbi_ hb)<|z (hbox)<|z ((by rw [hg];exact (below_size zbi_):w.heap.size≤gb409))<|z ((by rw [hg];exact (below_size zbi_):w.heap.size≤gb409))<|z ((by rw [hg];exact Nat.ne_of_lt (blk_lt (zb BK395.out)):gb395≠gb409))<|z1 ((by rw [hg];exact Nat.ne_of_gt (blk_lt (zb BK395.out)):gb409≠gb395));clear BK395 HB;obtain ⟨BK395,HB,BK409,GW409,GE409,NB395_409,NB409_395⟩:=n_;clear hb hbox hg;have hnb31:=NB409_395.out;have hnc31:=NB395_409.out;obtain ⟨hcz32_0,hcz32_1,hcz32_2,hfz32_0,hfz32_1,hfz32_2⟩:=zk3 BK409.out;obtain ⟨hcz33_0,hcz33_1,hcz33_2,hfz33_0,hfz33_1,hfz33_2⟩:=zk3 BK395.out)|((with_reducible refine gate_callee (f:=76) rfl ?_);refine goesL_ (some 38) rfl rfl Tryd.func76 (by kernel_rfl) rfl #[.int .i64 ((rd_T70 l0_1 x28_2).f0),.int .i64 0,.int .i64 (wrap64 (a0_0 - 1))] rfl zd_ ?_;(with_reducible refine (spec_l1In.calls ((rd_T70 l0_1 x28_2).f0) 0 (wrap64 (a0_0 - 1)) true _ A16.out).mono ?_);rintro e w' ⟨rfl,⟨nd,rfl⟩⟩;refine ⟨_,rfl,?_⟩)|(go_at_call 76;(with_reducible refine (spec_l1In.calls ((rd_T70 l0_1 x28_2).f1) 0 (wrap64 (x28_2+1)) false _ A18.out).mono ?_);rintro e w' ⟨rfl,⟨nd,rfl⟩⟩))
           go_ret
           exact ⟨zf_,zji_⟩
         ·replace c17:=Bool.eq_false_iff.mpr c17
          subst c17;have H1:(some false)=some r:=by rw [if_neg (show ¬ (false=true) by decide)] at H;exact H
          clear H;have H:=H1;clear H1;obtain rfl:=Option.some.inj H;have p408:0≤(x28_2:Int):=of_decide_eq_true zc_;have q408:x28_2<(l0_1.length:Int):=of_decide_eq_true zc_;obtain ⟨ad408,e408,hx408_0,hx408_1,hx408_2⟩:=at_T70 HR0_1.out x28_2 p408 q408
          cases e408
          (try (replace hx408_0:=q3h_ HB.out hx408_0));(try (replace hx408_1:=q3h_ HB.out hx408_1));(try (replace hx408_2:=q3h_ HB.out hx408_2));replace p408:=eq_true p408;replace q408:=eq_true q408
          go_wp2_with (first | ((with_reducible refine gate_dst (N:=4) rfl ?_);(try (refine gate_guard (by rfl) ?_;dsimp only));refine box_event ?hg (N:=4) ?hd (cs:=#[.int .i64 0,.int .i64 0,.int .i64 0]) (t:=70) ?hr ?_;(case hd=>rfl);(case hg=>rfl);(case hr=>exact zb_);intro gb409 hg w34 hbox hb;have n_:=z (blk_below (zb BK395.out) hb)<|z (below_step zbi_ hb)<|z (hbox)<|z ((by rw [hg];exact (below_size zbi_):w.heap.size≤gb409))<|z ((by rw [hg];exact (below_size zbi_):w.heap.size≤gb409))<|z ((by rw [hg];exact Nat.ne_of_lt (blk_lt (zb BK395.out)):gb395≠gb409))<|z1 ((by rw [hg];exact Nat.ne_of_gt (blk_lt (zb BK395.out)):gb409≠gb395));clear BK395 HB;obtain ⟨BK395,HB,BK409,GW409,GE409,NB395_409,NB409_395⟩:=n_;clear hb hbox hg;have hnb35:=NB409_395.out;have hnc35:=NB395_409.out;obtain ⟨hcz36_0,hcz36_1,hcz36_2,hfz36_0,hfz36_1,hfz36_2⟩:=zk3 BK409.out;obtain ⟨hcz37_0,hcz37_1,hcz37_2,hfz37_0,hfz37_1,hfz37_2⟩:=zk3 BK395.out)|((with_reducible refine gate_callee (f:=76) rfl ?_);refine goesL_ (some 38) rfl rfl Tryd.func76 (by kernel_rfl) rfl #[.int .i64 ((rd_T70 l0_1 x28_2).f0),.int .i64 0,.int .i64 (wrap64 (a0_0 - 1))] rfl zd_ ?_;(with_reducible refine (spec_l1In.calls ((rd_T70 l0_1 x28_2).f0) 0 (wrap64 (a0_0 - 1)) false _ A16.out).mono ?_);rintro e w' ⟨rfl,⟨nd,rfl⟩⟩;refine ⟨_,rfl,?_⟩))
          go_ret
          exact ⟨zf_,zji_⟩
        ·rw [if_neg c15] at H
         exact q3n_ H
       ·rw [if_neg c14] at H
        exact q3n_ H
      ·rw [if_neg c13] at H
       have c13b0:=decide_eq_false c13;clear c13;replace H:=oB.mp H;obtain ⟨⟨t398,t399⟩,A380,H⟩:=H;replace H:((spec_ddMake.f k2 t398 t399).bind fun bt402=>((spec_ddSame.f k2 a0_0 l0_1 a0_2 bt402.1 bt402.2.1 bt402.2.2).bind fun t407=>(some t407)))=some r:=H;have A38:=aM A380;clear A380;replace H:=oB.mp H;obtain ⟨⟨t402,t403,t406⟩,A390,H⟩:=H;replace H:((spec_ddSame.f k2 a0_0 l0_1 a0_2 t402 t403 t406).bind fun t407=>(some t407))=some r:=H;have A39:=aM A390;clear A390;replace H:=oB.mp H;obtain ⟨t407,A400,H⟩:=H;replace H:(some t407)=some r:=H;have A40:=aM A400;clear A400;obtain rfl:=Option.some.inj H;(try go_wp2);have n_:=z (blk_drew BK395.out)<|z1 (p1 HB.out)
       clear BK395 HB;obtain ⟨BK395,HB⟩:=n_
       refine start_ (n:=6) (S:=fun w'=>w'.cell? ⟨gb395,0,none⟩=some (.int .i64 a0_0)∧w'.cell? ⟨gb395,1,none⟩=some (.slice A0_1 l0_1.length c0_1)∧w'.cell? ⟨gb395,2,none⟩=some (.int .i64 a0_2)) (ds:=[]) #[fi,fi,fi,fi,fi,fi] (by kernel_rfl) rfl rfl ⟨(blk_cell BK395.out 0).trans rfl,(blk_cell BK395.out 1).trans rfl,(blk_cell BK395.out 2).trans rfl⟩ (fun hHeld=>?_)
       generalize wr.drew=w41 at BK395 HB hHeld ⊢
       refine tz3_ 0 57 hHeld ?_
       refine tz3_ 1 58 hHeld ?_
       refine oo_ 2 59 (fun K hK=>?_)
       refine goes_ Tryd.func91 (by kernel_rfl) rfl #[.agg #[.int .i64 a0_0,.slice A0_1 l0_1.length c0_1,.int .i64 a0_2]] (by rfl) rfl rfl zd_ ?_
       with_reducible refine (spec_ddTable.calls k2 a0_0 _ _ l0_1 a0_2 t398 t399 _ ?side1 ?side2 A38.out).mono ?_
       (case side1=>exact zg_)
       (case side2=>exact HC0_1.out)
       rintro e w42 ⟨v400,rfl,ho0,hb⟩
       refine ⟨_,rfl,?_⟩
       have n_:=z (Kd.R_lower ho0 (below_size zbi_))<|z (blk_below (zb BK395.out) hb)<|z1 (below_step zbi_ hb)
       clear BK395 HB;obtain ⟨HO401,BK395,HB⟩:=n_;(try clear hb);(try clear hb2);(try clear hk);(try clear hi);(try clear ho0);obtain ⟨Ao43,co43,eo43⟩:=Kd.R_slice HO401.out;(first | subst eo43 | (injection eo43 with f1_ f2_ f3_;have f4_:=f1_.symm;have f5_:=f3_.symm;clear f1_ f2_ f3_;subst f4_;subst f5_))
       refine hK.out _ _ ⟨(blk_cell BK395.out 0).trans rfl,(blk_cell BK395.out 1).trans rfl,(blk_cell BK395.out 2).trans rfl⟩ (fun hHeld=>?_)
       clear hK K
       refine nz_ 59 ?_
       refine oo_ 3 60 (fun K hK=>?_)
       refine goes_ Tryd.func51 (by kernel_rfl) rfl #[.agg #[.int .i64 t398,.slice Ao43 t399.length co43]] (by rfl) rfl rfl zd_ ?_
       with_reducible refine (spec_ddMake.calls k2 t398 _ _ t399 t402 t403 t406 _ ?side1 ?side2 A39.out).mono ?_
       (case side1=>repeat (first | exact (Kd.R_reads' HO401.out).2.2 | (with_reducible refine cA ?_ _)|(with_reducible refine cN ?_ _)|(with_reducible refine cD ?_)))
       (case side2=>exact (Kd.R_reads' HO401.out).2.1)
       rintro e w44 ⟨v404,rfl,ho0,hb⟩
       refine ⟨_,rfl,?_⟩
       have n_:=z (Kd.R_below (zr HO401.out) hb)<|z (Kd.R_lower ho0 (below_size zbi_))<|z (blk_below (zb BK395.out) hb)<|z1 (below_step zbi_ hb)
       clear HO401 BK395 HB;obtain ⟨HO401,HO405,BK395,HB⟩:=n_;(try clear hb);(try clear hb2);(try clear hk);(try clear hi);(try clear ho0);obtain ⟨Ao45,co45,eo45⟩:=Kd.R_slice HO405.out;(first | subst eo45 | (injection eo45 with f1_ f2_ f3_;have f4_:=f1_.symm;have f5_:=f3_.symm;clear f1_ f2_ f3_;subst f4_;subst f5_))
       refine hK.out _ _ ⟨(blk_cell BK395.out 0).trans rfl,(blk_cell BK395.out 1).trans rfl,(blk_cell BK395.out 2).trans rfl⟩ (fun hHeld=>?_)
       clear hK K
       refine nz_ 60 ?_
       refine oo_ 4 61 (fun K hK=>?_)
       refine goes_ Tryd.func90 (by kernel_rfl) rfl #[.agg #[.int .i64 a0_0,.slice A0_1 l0_1.length c0_1,.int .i64 a0_2],.agg #[.int .i64 t402,.slice Ao45 t403.length co45,.int .i64 t406]] (by rfl) rfl rfl zd_ ?_
       with_reducible refine (spec_ddSame.calls k2 a0_0 _ _ l0_1 a0_2 t402 _ _ t403 t406 t407 _ ?side1 ?side2 ?side3 ?side4 A40.out).mono ?_
       (case side1=>exact zg_)
       (case side2=>exact HC0_1.out)
       (case side3=>repeat (first | exact (Kd.R_reads' HO405.out).2.2 | (with_reducible refine cA ?_ _)|(with_reducible refine cN ?_ _)|(with_reducible refine cD ?_)))
       (case side4=>exact (Kd.R_reads' HO405.out).2.1)
       rintro e w46 ⟨rfl,hb⟩
       refine ⟨_,rfl,?_⟩
       have n_:=z (Kd.R_below (zr HO401.out) hb)<|z (Kd.R_below (zr HO405.out) hb)<|z (blk_below (zb BK395.out) hb)<|z1 (below_step zbi_ hb)
       clear HO401 HO405 BK395 HB;obtain ⟨HO401,HO405,BK395,HB⟩:=n_;(try clear hb);(try clear hb2);(try clear hk);(try clear hi)
       refine hK.out _ _ ⟨(blk_cell BK395.out 0).trans rfl,(blk_cell BK395.out 1).trans rfl,(blk_cell BK395.out 2).trans rfl⟩ (fun hHeld=>?_)
       clear hK K
       refine nz_ 61 ?_
       refine oz_ 5 2 ?_
       refine done_ (by kernel_rfl) ?_
       (try go_wp2)
       go_ret
       exact ⟨zf_,zbi_⟩
def spec_ttIndex.l0:Nat→Int→List Int→Int→Int→Option (Int)
 | 0,_,_,_,_=>none
 | k+1,x3,x6,x7,x8=>if x8<x7 then (if 0≤x8 then (if x8<(x6.length:Int) then (if 0≤(IntKind.u64.wrap (x8)) then (spec_ttIndex.l0 k (wrap64 (x3+(shl .i64 (rd x6 x8) (IntKind.u64.wrap (x8))))) x6 x7 (wrap64 (x8+1))) else (none)) else (none)) else (none)) else (some x3)
def spec_ttIndex.f (k:Nat) (l0:List Int):Option (Int):=spec_ttIndex.l0 k 0 l0 (l0.length:Int) 0
theorem spec_ttIndex.calls (k:Nat) (A0:Option Addr) (c0:Nat) (l0:List Int) (r:Int) (w:World) (hr0:Kd.C (Kd.int .i64) w A0 l0.length l0) (hc0:l0.length≤c0) (h:spec_ttIndex.f k l0=some r) :
  Calls Tryd.prog 65 #[.slice A0 l0.length c0] w fun e w'=>e = .returned (.int .i64 r)∧Drawn0 w w':=by
 have HR0:=aM hr0
 have HC0:=aM hc0
 clear hr0 hc0
 have H:(spec_ttIndex.l0 k 0 l0 (l0.length:Int) 0)=some r:=h
 clear h
 have H':=aM H
 clear H
 go_enter Tryd.func65,Tryd.ntmps65
 go_wp2
 go_loopg [3,8] k (fun kq v3 v8 w' => ∃ (x3_1:Int) (x8_1:Int),v3 = .int .i64 x3_1∧v8 = .int .i64 x8_1∧Aside0 (spec_ttIndex.l0 kq x3_1 l0 (l0.length:Int) x8_1=some r)∧Aside0 (kq≤k)∧Drawn0 w w')
 case atStart=>exact ⟨(0),(0),ze_,ze_,H',⟨Nat.le_refl _⟩,zbb_⟩
 case round =>
  clear H';obtain ⟨x3_1,x8_1,rfl,rfl,HA,HK1,⟨m1,rfl⟩⟩:=hrel
  cases gk with
  | zero=>exact absurd HA.out (by simp [spec_ttIndex.l0])
  | succ k1 =>
   have H:=HA.out;clear HA
   simp only [spec_ttIndex.l0] at H
   by_cases c2:x8_1<(l0.length:Int)
   ·rw [if_pos c2] at H
    have c2b0:=decide_eq_true c2;clear c2
    by_cases c3:0≤x8_1
    ·rw [if_pos c3] at H
     have c3b0:=decide_eq_true c3;clear c3
     by_cases c4:x8_1<(l0.length:Int)
     ·rw [if_pos c4] at H
      have c4b0:=decide_eq_true c4;clear c4;obtain ⟨ji5,hji5⟩:∃ j_:Int,(IntKind.u64.wrap (x8_1))=j_:=⟨_,rfl⟩;replace H:(if 0≤(ji5) then (spec_ttIndex.l0 k1 (wrap64 (x3_1+(shl .i64 (rd l0 x8_1) (ji5)))) l0 (l0.length:Int) (wrap64 (x8_1+1))) else (none))=some r:=by first | (rw [hji5] at H;exact H)|(simp only [hji5] at H ⊢;exact H)
      by_cases c6:0≤(ji5)
      ·rw [if_pos c6] at H
       have c6b0:=eq_true c6;have c6b1:=decide_eq_true c6;clear c6;obtain ⟨ji7,hji7⟩:∃ j_:Int,(shl .i64 (rd l0 x8_1) (ji5))=j_:=⟨_,rfl⟩;replace H:(spec_ttIndex.l0 k1 (wrap64 (x3_1+(ji7))) l0 (l0.length:Int) (wrap64 (x8_1+1)))=some r:=by first | (rw [hji7] at H;exact H)|(simp only [hji7] at H ⊢;exact H)
       have hji7_:(IntKind.i64.wrap ((rd l0 x8_1) * 2 ^ min (ji5).toNat 64))=ji7:=hji7;have hji7z:(ji5)≤64→(IntKind.i64.wrap ((rd l0 x8_1) * 2 ^ (ji5).toNat))=ji7:=shl_small hji7;have hji7y:(wrap64 ((rd l0 x8_1) * 2 ^ min (ji5).toNat 64))=ji7:=(i64_w _).symm.trans hji7_;have hji7x:(ji5)≤64→(wrap64 ((rd l0 x8_1) * 2 ^ (ji5).toNat))=ji7:=fun h_=>(i64_w _).symm.trans (hji7z h_)
       have H':=aM H;clear H;have p413:0≤(x8_1:Int):=of_decide_eq_true zc_;have q413:x8_1<(l0.length:Int):=of_decide_eq_true zc_;obtain ⟨ad413,e413,hx413_0⟩:=Kd.at_int HR0.out x8_1 p413 q413
       cases e413
       replace p413:=eq_true p413;replace q413:=eq_true q413
       go_wp2
       go_roundg k1
       case measure=>have:=HK1.out;omega
       case rel=>exact ⟨(wrap64 (x3_1+(ji7))),(wrap64 (x8_1+1)),(by first | rfl | (simp;done)|(simp only [← hji7] <;> (first | rfl | simp))|(simp [*];done)),ze_,H',⟨zbd_⟩,zbb_⟩
      ·rw [if_neg c6] at H
       exact q3n_ H
     ·rw [if_neg c4] at H
      exact q3n_ H
    ·rw [if_neg c3] at H
     exact q3n_ H
   ·rw [if_neg c2] at H
    have c2b0:=decide_eq_false c2;clear c2;obtain rfl:=Option.some.inj H
    go_wp2
    go_ret
    exact ⟨ze_,zbb_⟩
def spec_DiagramValue.j0:Nat→List Int→Bool→Int→List (S70)→Int→Option (Int×Bool)
 | 0,_,_,_,_,_=>none
 | k+1,x1,x20,x415000,x415001,x415002=>if x20=true then (some (0,false)) else ((spec_ttIndex.f k x1).bind fun t417=>((spec_ddValue.f k x415000 x415001 x415002 t417).bind fun t418=>(some (t418,true))))
def spec_DiagramValue.f (k:Nat) (a0_0:Int) (l0_1:List (S70)) (a0_2:Int) (l1:List Int):Option (Int×Bool):=(spec_ddGood.f k a0_0 l0_1 a0_2).bind fun t415=>(if t415=true then (if (l1.length:Int)=a0_0 then ((spec_l1All.f k l1 0 1).bind fun t416=>(spec_DiagramValue.j0 k l1 (!t416) a0_0 l0_1 a0_2)) else (spec_DiagramValue.j0 k l1 true a0_0 l0_1 a0_2)) else (spec_DiagramValue.j0 k l1 true a0_0 l0_1 a0_2))
theorem spec_DiagramValue.calls (k:Nat) (a0_0:Int) (A0_1:Option Addr) (c0_1:Nat) (l0_1:List (S70)) (a0_2:Int) (A1:Option Addr) (c1:Nat) (l1:List Int) (r1:Int) (r2:Bool) (w:World) (hr0_1:Kd.C k70 w A0_1 l0_1.length l0_1) (hc0_1:l0_1.length≤c0_1) (hr1:Kd.C (Kd.int .i64) w A1 l1.length l1) (hc1:l1.length≤c1) (h:spec_DiagramValue.f k a0_0 l0_1 a0_2 l1=some (r1,r2)) :
  Calls Tryd.prog 24 #[.agg #[.int .i64 a0_0,.slice A0_1 l0_1.length c0_1,.int .i64 a0_2],.slice A1 l1.length c1] w fun e w'=>e = .returned (.tuple #[.int .i64 r1,.bool r2])∧Below w.heap.size w w':=by
 have hu30:=Tryd.underlying30
 have HR0_1:=aM hr0_1
 have HC0_1:=aM hc0_1
 clear hr0_1 hc0_1
 have HR1:=aM hr1
 have HC1:=aM hc1
 clear hr1 hc1
 have HB:=aM (Below.refl w.heap.size w)
 have H:((spec_ddGood.f k a0_0 l0_1 a0_2).bind fun t415=>(if t415=true then (if (l1.length:Int)=a0_0 then ((spec_l1All.f k l1 0 1).bind fun t416=>(spec_DiagramValue.j0 k l1 (!t416) a0_0 l0_1 a0_2)) else (spec_DiagramValue.j0 k l1 true a0_0 l0_1 a0_2)) else (spec_DiagramValue.j0 k l1 true a0_0 l0_1 a0_2)))=some (r1,r2):=h
 clear h
 have HC3:=aM H
 clear H
 go_enter Tryd.func24,Tryd.ntmps24
 go_upto_region 1 with (first | ((with_reducible refine gate_dst (N:=2) rfl ?_);(try (refine gate_guard (by rfl) ?_;dsimp only));refine box_event ?hg (N:=2) ?hd (cs:=#[.int .i64 a0_0,.slice A0_1 l0_1.length c0_1,.int .i64 a0_2]) (t:=30) ?hr ?_;(case hd=>rfl);(case hg=>rfl);(case hr=>exact zb_);intro gb414 hg w4 hbox hb;have n_:=z (below_step za_ hb)<|z (hbox)<|z ((by rw [hg];exact (below_size za_):w.heap.size≤gb414))<|z1 ((by rw [hg];exact (below_size za_):w.heap.size≤gb414));clear HB;obtain ⟨HB,BK414,GW414,GE414⟩:=n_;clear hb hbox hg))
 (try simp only [Act.put,sI,s0,sS])
 go_cut [20] (fun v20 wc => ∃ (kq:Nat) (x20_2:Bool),v20 = .bool x20_2∧Aside0 (spec_DiagramValue.j0 kq l1 x20_2 a0_0 l0_1 a0_2=some (r1,r2))∧Aside0 (kq≤k)∧Aside0 (wc.heap[gb414]?=some (.cells #[.int .i64 a0_0,(.slice A0_1 l0_1.length c0_1),.int .i64 a0_2] 30 (0,0)))∧Aside0 (Below w.heap.size w wc))
 case first =>
  have H:=HC3.out;clear HC3;replace H:=oB.mp H;obtain ⟨t415,A50,H⟩:=H;replace H:(if t415=true then (if (l1.length:Int)=a0_0 then ((spec_l1All.f k l1 0 1).bind fun t416=>(spec_DiagramValue.j0 k l1 (!t416) a0_0 l0_1 a0_2)) else (spec_DiagramValue.j0 k l1 true a0_0 l0_1 a0_2)) else (spec_DiagramValue.j0 k l1 true a0_0 l0_1 a0_2))=some (r1,r2):=H;have A5:=aM A50;clear A50
  by_cases c6:t415=true
  ·subst c6
   have H1:(if (l1.length:Int)=a0_0 then ((spec_l1All.f k l1 0 1).bind fun t416=>(spec_DiagramValue.j0 k l1 (!t416) a0_0 l0_1 a0_2)) else (spec_DiagramValue.j0 k l1 true a0_0 l0_1 a0_2))=some (r1,r2):=by rw [if_pos rfl] at H;exact H
   clear H;have H:=H1;clear H1
   by_cases c7:(l1.length:Int)=a0_0
   ·rw [if_pos c7] at H
    have c7b0:=beq_iff_eq.mpr c7;have c7b1:=bne_eq_false_iff_eq.mpr c7;clear c7;(first | rw [c7b0]|(simp only [i64_w,i32_w];rw [c7b0]) | skip);replace H:=oB.mp H;obtain ⟨t416,A80,H⟩:=H;replace H:(spec_DiagramValue.j0 k l1 (!t416) a0_0 l0_1 a0_2)=some (r1,r2):=H;have A8:=aM A80;clear A80;have H':=aM H;clear H;obtain ⟨hcz9_0,hcz9_1,hcz9_2,hfz9_0,hfz9_1,hfz9_2⟩:=zk3 BK414.out
    go_wp2_with (first | ((with_reducible refine gate_callee (f:=62) rfl ?_);refine goesL_ (some 7) rfl rfl Tryd.func62 (by kernel_rfl) rfl #[.agg #[.int .i64 a0_0,.slice A0_1 l0_1.length c0_1,.int .i64 a0_2]] rfl zd_ ?_;(with_reducible refine (spec_ddGood.calls k a0_0 _ _ l0_1 a0_2 true _ ?side1 ?side2 A5.out).mono ?_);(case side1=>exact zg_);(case side2=>exact HC0_1.out);rintro e w10 ⟨rfl,hb⟩;refine ⟨_,rfl,?_⟩;have n_:=z (blk_below (zb BK414.out) hb)<|z1 (below_step zec_ hb);clear BK414 HB;obtain ⟨BK414,HB⟩:=n_;clear hb;obtain ⟨hcz11_0,hcz11_1,hcz11_2,hfz11_0,hfz11_1,hfz11_2⟩:=zk3 BK414.out)|(go_at_call 63;(with_reducible refine (spec_l1All.calls k _ _ l1 0 1 t416 _ ?side1 ?side2 A8.out).mono ?_);(case side1=>exact zgc_);(case side2=>exact HC1.out);rintro e w' ⟨rfl,⟨nd,rfl⟩⟩))
    go_meet
    case rel=>exact ⟨_,(!t416),ze_,H',⟨zcf_⟩,⟨zb BK414.out⟩,⟨zec_⟩⟩
   ·rw [if_neg c7] at H
    have c7b0:=beq_eq_false_iff_ne.mpr c7;have c7b1:=bne_iff_ne.mpr c7;(first | rw [c7b0]|(simp only [i64_w,i32_w];rw [c7b0]) | skip);have H':=aM H;clear H;obtain ⟨hcz12_0,hcz12_1,hcz12_2,hfz12_0,hfz12_1,hfz12_2⟩:=zk3 BK414.out
    go_wp2_with (first | ((with_reducible refine gate_callee (f:=62) rfl ?_);refine goesL_ (some 7) rfl rfl Tryd.func62 (by kernel_rfl) rfl #[.agg #[.int .i64 a0_0,.slice A0_1 l0_1.length c0_1,.int .i64 a0_2]] rfl zd_ ?_;(with_reducible refine (spec_ddGood.calls k a0_0 _ _ l0_1 a0_2 true _ ?side1 ?side2 A5.out).mono ?_);(case side1=>exact zg_);(case side2=>exact HC0_1.out);rintro e w13 ⟨rfl,hb⟩;refine ⟨_,rfl,?_⟩;have n_:=z (blk_below (zb BK414.out) hb)<|z1 (below_step zec_ hb);clear BK414 HB;obtain ⟨BK414,HB⟩:=n_;clear hb;obtain ⟨hcz14_0,hcz14_1,hcz14_2,hfz14_0,hfz14_1,hfz14_2⟩:=zk3 BK414.out))
    go_meet
    case rel=>exact ⟨_,(true),ze_,H',⟨zcf_⟩,⟨zb BK414.out⟩,⟨zec_⟩⟩
  ·replace c6:=Bool.eq_false_iff.mpr c6
   subst c6;have H1:(spec_DiagramValue.j0 k l1 true a0_0 l0_1 a0_2)=some (r1,r2):=by rw [if_neg (show ¬ (false=true) by decide)] at H;exact H
   clear H;have H:=H1;clear H1;have H':=aM H;clear H;obtain ⟨hcz15_0,hcz15_1,hcz15_2,hfz15_0,hfz15_1,hfz15_2⟩:=zk3 BK414.out
   go_wp2_with (first | ((with_reducible refine gate_callee (f:=62) rfl ?_);refine goesL_ (some 7) rfl rfl Tryd.func62 (by kernel_rfl) rfl #[.agg #[.int .i64 a0_0,.slice A0_1 l0_1.length c0_1,.int .i64 a0_2]] rfl zd_ ?_;(with_reducible refine (spec_ddGood.calls k a0_0 _ _ l0_1 a0_2 false _ ?side1 ?side2 A5.out).mono ?_);(case side1=>exact zg_);(case side2=>exact HC0_1.out);rintro e w16 ⟨rfl,hb⟩;refine ⟨_,rfl,?_⟩;have n_:=z (blk_below (zb BK414.out) hb)<|z1 (below_step zec_ hb);clear BK414 HB;obtain ⟨BK414,HB⟩:=n_;clear hb))
   go_meet
   case rel=>exact ⟨_,(true),ze_,H',⟨zcf_⟩,⟨zb BK414.out⟩,⟨zec_⟩⟩
 case rest =>
  clear HC3;obtain ⟨kq,x20_2,rfl,HA,HJ2,BK414,HB⟩:=hcut
  cases kq with
  | zero=>exact absurd HA.out (by simp [spec_DiagramValue.j0])
  | succ kj2 =>
   have H:=HA.out;clear HA
   simp only [spec_DiagramValue.j0] at H
   by_cases c17:x20_2=true
   ·subst c17
    have H1:(some (0,false))=some (r1,r2):=by rw [if_pos rfl] at H;exact H
    clear H;have H:=H1;clear H1
    simp only [Option.some.injEq,Prod.mk.injEq] at H
    obtain ⟨rfl,rfl⟩:=H
    go_wp2
    go_ret2
    exact ⟨zf_,zec_⟩
   ·replace c17:=Bool.eq_false_iff.mpr c17
    subst c17;have H1:((spec_ttIndex.f kj2 l1).bind fun t417=>((spec_ddValue.f kj2 a0_0 l0_1 a0_2 t417).bind fun t418=>(some (t418,true))))=some (r1,r2):=by rw [if_neg (show ¬ (false=true) by decide)] at H;exact H
    clear H;have H:=H1;clear H1;replace H:=oB.mp H;obtain ⟨t417,A180,H⟩:=H;replace H:((spec_ddValue.f kj2 a0_0 l0_1 a0_2 t417).bind fun t418=>(some (t418,true)))=some (r1,r2):=H;have A18:=aM A180;clear A180;replace H:=oB.mp H;obtain ⟨t418,A190,H⟩:=H;replace H:(some (t418,true))=some (r1,r2):=H;have A19:=aM A190;clear A190
    simp only [Option.some.injEq,Prod.mk.injEq] at H
    obtain ⟨rfl,rfl⟩:=H;(try go_wp2);have n_:=z (blk_drew BK414.out)<|z1 (p1 HB.out)
    clear BK414 HB;obtain ⟨BK414,HB⟩:=n_
    refine start_ (n:=6) (S:=fun w'=>w'.cell? ⟨gb414,0,none⟩=some (.int .i64 a0_0)∧w'.cell? ⟨gb414,1,none⟩=some (.slice A0_1 l0_1.length c0_1)∧w'.cell? ⟨gb414,2,none⟩=some (.int .i64 a0_2)) (ds:=[]) #[fi,fi,fi,fi,fi,fi] (by kernel_rfl) rfl rfl ⟨(blk_cell BK414.out 0).trans rfl,(blk_cell BK414.out 1).trans rfl,(blk_cell BK414.out 2).trans rfl⟩ (fun hHeld=>?_)
    generalize wc.drew=w20 at BK414 HB hHeld ⊢
    refine oz_ 1 22 ?_
    refine tz3_ 0 21 hHeld ?_
    refine oo_ 2 23 (fun K hK=>?_)
    refine goes_ Tryd.func65 (by kernel_rfl) rfl #[.slice A1 l1.length c1] (by rfl) rfl rfl zd_ ?_
    with_reducible refine (spec_ttIndex.calls kj2 _ _ l1 t417 _ ?side1 ?side2 A18.out).mono ?_
    (case side1=>exact zgc_)
    (case side2=>exact HC1.out)
    rintro e w' ⟨rfl,⟨nd,rfl⟩⟩
    refine ⟨_,rfl,?_⟩
    refine hK.out _ _ ⟨(blk_cell BK414.out 0).trans rfl,(blk_cell BK414.out 1).trans rfl,(blk_cell BK414.out 2).trans rfl⟩ (fun hHeld=>?_)
    clear hK K
    refine nz_ 23 ?_
    refine oo_ 3 24 (fun K hK=>?_)
    refine goes_ Tryd.func64 (by kernel_rfl) rfl #[.agg #[.int .i64 a0_0,.slice A0_1 l0_1.length c0_1,.int .i64 a0_2],.int .i64 t417] (by rfl) rfl rfl zd_ ?_
    with_reducible refine (spec_ddValue.calls kj2 a0_0 _ _ l0_1 a0_2 t417 t418 _ ?side1 ?side2 A19.out).mono ?_
    (case side1=>repeat (first | exact (Kd.C_below HR0_1.out zec_)|(with_reducible refine cA ?_ _)|(with_reducible refine cN ?_ _)|(with_reducible refine cD ?_)))
    (case side2=>exact HC0_1.out)
    rintro e w21 ⟨rfl,hb⟩
    refine ⟨_,rfl,?_⟩
    have n_:=z (blk_below (zb BK414.out) hb)<|z1 (below_step zec_ hb)
    clear BK414 HB;obtain ⟨BK414,HB⟩:=n_;(try clear hb);(try clear hb2);(try clear hk);(try clear hi)
    refine hK.out _ _ ⟨(blk_cell BK414.out 0).trans rfl,(blk_cell BK414.out 1).trans rfl,(blk_cell BK414.out 2).trans rfl⟩ (fun hHeld=>?_)
    clear hK K
    refine nz_ 24 ?_
    refine oz_ 4 4 ?_
    refine oz_ 5 5 ?_
    refine done_ (by kernel_rfl) ?_
    (try go_wp2)
    go_ret2
    exact ⟨zf_,zec_⟩
def spec_DrawTableOf.f (k:Nat) (l0:List Int):Option (Int×(List (S70))×Int):=(spec_l1Cur_diagram.f k l0 0 0).bind fun bt421=>(some (bt421.1,bt421.2.1,bt421.2.2.1))
theorem spec_DrawTableOf.calls (k:Nat) (A0:Option Addr) (c0:Nat) (l0:List Int) (r1:Int) (r2:List (S70)) (r3:Int) (w:World) (hr0:Kd.C (Kd.int .u8) w A0 l0.length l0) (hc0:l0.length≤c0) (h:spec_DrawTableOf.f k l0=some (r1,r2,r3)) :
  Calls Tryd.prog 66 #[.slice A0 l0.length c0] w fun e w' => ∃ v1_:Value,e = .returned (.agg #[.int .i64 r1,v1_,.int .i64 r3])∧Kd.R k70 70 w' w.heap.size (fun _=>True) v1_ r2∧Below w.heap.size w w':=by
 have hu30:=Tryd.underlying30
 have hu66:=Tryd.underlying66
 have HR0:=aM hr0
 have HC0:=aM hc0
 clear hr0 hc0
 have HB:=aM (Below.refl w.heap.size w)
 have H:((spec_l1Cur_diagram.f k l0 0 0).bind fun bt421=>(some (bt421.1,bt421.2.1,bt421.2.2.1)))=some (r1,r2,r3):=h
 clear h
 replace H:=oB.mp H
 obtain ⟨⟨t421,t422,t425,t426,t427⟩,A20,H⟩:=H
 replace H:(some (t421,t422,t425))=some (r1,r2,r3):=H
 have A2:=aM A20
 clear A20
 simp only [Option.some.injEq,Prod.mk.injEq] at H
 obtain ⟨rfl,rfl,rfl⟩:=H
 go_enter Tryd.func66,Tryd.ntmps66
 go_wp2_with (first | ((with_reducible refine gate_dst (N:=2) rfl ?_);refine box_event ?hg (N:=2) ?hd (cs:=#[.int .i64 0,.slice none 0 0,.int .i64 0]) (t:=30) ?hr ?_;(case hd=>rfl);(case hg=>rfl);(case hr=>exact zb_);intro gb419 hg w3 hbox hb;have n_:=z (below_step za_ hb)<|z (hbox)<|z ((by rw [hg];exact (below_size za_):w.heap.size≤gb419))<|z1 ((by rw [hg];exact (below_size za_):w.heap.size≤gb419));clear HB;obtain ⟨HB,BK419,GW419,GE419⟩:=n_;clear hb hbox hg)|((with_reducible refine gate_dst (N:=6) rfl ?_);refine box_event ?hg (N:=6) ?hd (cs:=#[.slice A0 l0.length c0,.int .i64 0,.int .u64 0]) (t:=66) ?hr ?_;(case hd=>rfl);(case hg=>rfl);(case hr=>exact zb_);intro gb420 hg w4 hbox hb;have n_:=z (blk_below (zb BK419.out) hb)<|z (below_step zjj_ hb)<|z ((by rw [hg];exact (below_size zjj_):w.heap.size≤gb420))<|z ((by rw [hg];exact (below_size zjj_):w.heap.size≤gb420))<|z ((by rw [hg];exact Nat.ne_of_lt (blk_lt (zb BK419.out)):gb419≠gb420))<|z ((by rw [hg];exact Nat.ne_of_gt (blk_lt (zb BK419.out)):gb420≠gb419))<|z1 ((⟨_,_,hbox,(by rw [hg];exact (below_size zjj_):w.heap.size≤gb420),HR0.out⟩:IsS66 w w4 gb420 l0 0 0));clear BK419 HB;obtain ⟨BK419,HB,GW420,GE420,NB419_420,NB420_419,HI420⟩:=n_;clear hb hbox hg)|((with_reducible refine gate_callee (f:=58) rfl ?_);refine goesL_ (some 8) rfl rfl Tryd.func58 (by kernel_rfl) rfl #[.pointer (some ⟨gb420,0,none⟩)] rfl zd_ ?_;(with_reducible refine (spec_l1Cur_diagram.calls k gb420 l0 0 0 t421 t422 t425 t426 t427 w _ ?side1 ?side2 A2.out).mono ?_);(case side1=>repeat (first | (with_reducible first | exact HI420.out | apply IsS66.alloc | apply IsS66.drewN | apply IsS66.drew | apply IsS66.set_1 | apply IsS66.set_2 | refine IsS66.far ?_ NB420_419.out _) | exact HI420.out));(case side2=>exact zbcb_);rintro e w5 ⟨v423,rfl,ho0,hi,hb,hk⟩;refine ⟨_,rfl,?_⟩;have n_:=z (KeepBut.blk hk (zb BK419.out) NB419_420.out (by simp))<|z (Kd.R_lower ho0 (below_size zbcb_))<|z (hb)<|z1 (hi);clear BK419 HB HI420;obtain ⟨BK419,HO424,HB,HI420⟩:=n_;clear hb hk hi;(try clear ho0);have hnb6:=NB419_420.out;have hnc6:=NB420_419.out;obtain ⟨hcz7_0,hcz7_1,hcz7_2,hfz7_0,hfz7_1,hfz7_2⟩:=zk3 BK419.out;obtain ⟨Ao8,co8,eo8⟩:=Kd.R_slice HO424.out;subst eo8))
 refine bodyPost_ret (results_cell_row rfl _ _ gb419 30 #[.int .i64 t421,.slice Ao8 t422.length co8,.int .i64 t425] (0,0) _ rfl (by refine zb ?_;refine blk_put (cs:=#[.int .i64 t421,.slice Ao8 t422.length co8,.int .i64 0]) ?_ 2 _ rfl;refine zb ?_;refine blk_put (cs:=#[.int .i64 t421,.slice none 0 0,.int .i64 0]) ?_ 1 _ rfl;refine zb ?_;refine blk_put (cs:=#[.int .i64 0,.slice none 0 0,.int .i64 0]) ?_ 0 _ rfl;refine zb ?_;exact BK419.out) Tryd.underlying30 rfl (by kernel_rfl)) rfl ?_
 exact ⟨_,zf_,by refine zr ?_;exact Kd.R_mono (Kd.R_far (p:=⟨gb419,2,none⟩) (Kd.R_far (p:=⟨gb419,1,none⟩) (Kd.R_far (p:=⟨gb419,0,none⟩) (Kd.R_types HO424.out BK419.out (by decide)) (fun _ hk=>hk.2) (.int .i64 t421)) (fun _ hk=>hk.2) (.slice Ao8 t422.length co8)) (fun _ hk=>hk.2) (.int .i64 t425)) (fun _ hk=>trivial),zbcb_⟩
def spec_DrawDiagramText.f (k:Nat) (l0:List Int):Option (Int×(List (S70))×Int):=(spec_DrawTableOf.f k l0).bind fun bt429=>(some (bt429.1,bt429.2.1,bt429.2.2))
theorem spec_DrawDiagramText.calls (k:Nat) (A0:Option Addr) (c0:Nat) (l0:List Int) (r1:Int) (r2:List (S70)) (r3:Int) (w:World) (hr0:Kd.C (Kd.int .u8) w A0 l0.length l0) (hc0:l0.length≤c0) (h:spec_DrawDiagramText.f k l0=some (r1,r2,r3)) :
  Calls Tryd.prog 25 #[.slice A0 l0.length c0] w fun e w' => ∃ v1_:Value,e = .returned (.agg #[.int .i64 r1,v1_,.int .i64 r3])∧Kd.R k70 70 w' w.heap.size (fun _=>True) v1_ r2∧Below w.heap.size w w':=by
 have hu30:=Tryd.underlying30
 have HR0:=aM hr0
 have HC0:=aM hc0
 clear hr0 hc0
 have HB:=aM (Below.refl w.heap.size w)
 have H:((spec_DrawTableOf.f k l0).bind fun bt429=>(some (bt429.1,bt429.2.1,bt429.2.2)))=some (r1,r2,r3):=h
 clear h
 replace H:=oB.mp H
 obtain ⟨⟨t429,t430,t433⟩,A20,H⟩:=H
 replace H:(some (t429,t430,t433))=some (r1,r2,r3):=H
 have A2:=aM A20
 clear A20
 simp only [Option.some.injEq,Prod.mk.injEq] at H
 obtain ⟨rfl,rfl,rfl⟩:=H
 go_enter Tryd.func25,Tryd.ntmps25
 go_wp2_with (first | ((with_reducible refine gate_dst (N:=2) rfl ?_);refine box_event ?hg (N:=2) ?hd (cs:=#[.int .i64 0,.slice none 0 0,.int .i64 0]) (t:=30) ?hr ?_;(case hd=>rfl);(case hg=>rfl);(case hr=>exact zb_);intro gb428 hg w3 hbox hb;have n_:=z (below_step za_ hb)<|z (hbox)<|z ((by rw [hg];exact (below_size za_):w.heap.size≤gb428))<|z1 ((by rw [hg];exact (below_size za_):w.heap.size≤gb428));clear HB;obtain ⟨HB,BK428,GW428,GE428⟩:=n_;clear hb hbox hg)|((with_reducible refine gate_callee (f:=66) rfl ?_);refine goesL_ (some 4) rfl rfl Tryd.func66 (by kernel_rfl) rfl #[.slice A0 l0.length c0] rfl zd_ ?_;(with_reducible refine (spec_DrawTableOf.calls k _ _ l0 t429 t430 t433 _ ?side1 ?side2 A2.out).mono ?_);(case side1=>repeat (first | exact (Kd.C_below HR0.out HB.out)|(with_reducible refine cA ?_ _)|(with_reducible refine cN ?_ _)|(with_reducible refine cD ?_)));(case side2=>exact HC0.out);rintro e w4 ⟨v431,rfl,ho0,hb⟩;refine ⟨_,rfl,?_⟩;have n_:=z (Kd.R_lower ho0 (below_size zbcc_))<|z (blk_below (zb BK428.out) hb)<|z1 (below_step zbcc_ hb);clear BK428 HB;obtain ⟨HO432,BK428,HB⟩:=n_;clear hb;(try clear ho0);obtain ⟨hcz5_0,hcz5_1,hcz5_2,hfz5_0,hfz5_1,hfz5_2⟩:=zk3 BK428.out;obtain ⟨Ao6,co6,eo6⟩:=Kd.R_slice HO432.out;subst eo6))
 refine bodyPost_ret (results_cell_row rfl _ _ gb428 30 #[.int .i64 t429,.slice Ao6 t430.length co6,.int .i64 t433] (0,0) _ rfl (by refine zb ?_;refine blk_put (cs:=#[.int .i64 t429,.slice Ao6 t430.length co6,.int .i64 0]) ?_ 2 _ rfl;refine zb ?_;refine blk_put (cs:=#[.int .i64 t429,.slice none 0 0,.int .i64 0]) ?_ 1 _ rfl;refine zb ?_;refine blk_put (cs:=#[.int .i64 0,.slice none 0 0,.int .i64 0]) ?_ 0 _ rfl;refine zb ?_;exact BK428.out) Tryd.underlying30 rfl (by kernel_rfl)) rfl ?_
 exact ⟨_,zf_,by refine zr ?_;exact Kd.R_mono (Kd.R_far (p:=⟨gb428,2,none⟩) (Kd.R_far (p:=⟨gb428,1,none⟩) (Kd.R_far (p:=⟨gb428,0,none⟩) (Kd.R_types HO432.out BK428.out (by decide)) (fun _ hk=>hk.2) (.int .i64 t429)) (fun _ hk=>hk.2) (.slice Ao6 t430.length co6)) (fun _ hk=>hk.2) (.int .i64 t433)) (fun _ hk=>trivial),zbcc_⟩
def strconv_Itoa.f (a0:Int):Option ByteArray:=if 0≤a0∧a0<100 then some ⟨(Lib.decDigits a0.toNat).toArray⟩ else none
theorem strconv_Itoa.calls (a0:Int) (r:ByteArray) (w:World) (h:strconv_Itoa.f a0=some r) :
  Calls Tryd.prog 68 #[.int .i64 a0] w fun e w'=>e = .returned (.string r)∧Drawn0 w w':=by
 unfold strconv_Itoa.f at h
 by_cases hc:0≤a0∧a0<100
 ·rw [if_pos hc] at h
  obtain rfl:=Option.some.inj h;obtain ⟨n,rfl⟩:=Int.eq_ofNat_of_zero_le hc.1
  refine (Tryd.strconv_Itoa_small n (by omega) w).mono ?_
  rintro e w' ⟨rfl,rfl⟩
  exact ⟨rfl,Drawn0.refl _⟩
 ·rw [if_neg hc] at h
  cases h
def strings_Join.f (l0:List ByteArray) (a1:ByteArray):Option ByteArray:=if l0.length≤140737488355328∧(Lib.join (l0.map (fun x=>x.data.toList)) a1.data.toList).length≤140737488355328 then some ⟨(Lib.join (l0.map (fun x=>x.data.toList)) a1.data.toList).toArray⟩ else none
theorem strings_Join.calls (A0:Option Addr) (c0:Nat) (l0:List ByteArray) (a1:ByteArray) (r:ByteArray) (w:World) (hr0:Kd.C Kd.string w A0 l0.length l0) (hc0:l0.length≤c0) (h:strings_Join.f l0 a1=some r) :
  Calls Tryd.prog 93 #[.slice A0 l0.length c0,.string a1] w fun e w'=>e = .returned (.string r)∧Below w.heap.size w w':=by
 unfold strings_Join.f at h
 by_cases hc:l0.length≤140737488355328∧(Lib.join (l0.map (fun x=>x.data.toList)) a1.data.toList).length≤140737488355328
 ·rw [if_pos hc] at h
  obtain rfl:=Option.some.inj h
  by_cases h0:l0.length=0
  ·obtain rfl:=List.length_eq_zero_iff.1 h0
   refine (Tryd.strings_Join_none A0 c0 a1 w).mono ?_
   rintro e w' ⟨rfl,rfl⟩
   exact ⟨rfl,Below.refl _ _⟩
  ·obtain ⟨ad,rfl,hcell⟩:=hr0.2.2 (by omega)
   have hat:∀ (j:Nat) x,l0[j]?=some x→w.cell? (ad.add j)=some (.string x):=fun j x hj=>by
    obtain ⟨c,hl,hk,hcc⟩:=hcell j x hj;have e1:c=[.string x]:=hk;have:=hcc 0 (.string x) (by rw [e1];rfl);rw [show j * Kd.string.sz+0=j from by show j * 1+0=j;omega] at this
    exact this
   obtain ⟨x0,hx0⟩:∃ x,l0[0]?=some x:=⟨_,List.getElem?_eq_getElem (by omega)⟩;have hz:=hat 0 x0 hx0;rw [show ad.add 0=ad from rfl] at hz;obtain ⟨bk,o,sp⟩:=ad;obtain rfl:sp=none:=by
    unfold World.cell? at hz
    split at hz
    ·cases sp with
     | none=>rfl
     | some z=>simp at hz
    ·cases hz
   refine (Tryd.strings_Join bk o c0 l0 a1 w (fun j x hj=>?_) (World.block_lt_of_cell? w _ hz) hc.1 hc0 hc.2).mono ?_
   ·have:=hat j x hj
    unfold Addr.add at this
    split at this
    ·subst_vars;exact this
    ·exact this
   ·rintro e w' ⟨rfl,hb⟩
    exact ⟨rfl,hb⟩
 ·rw [if_neg hc] at h
  cases h
def impl_numbersText.l0:Nat→List ByteArray→List Int→Int→Int→Option (ByteArray)
 | 0,_,_,_,_=>none
 | k+1,x3,x7,x8,x9=>if x9<x8 then (if 0≤x9 then (if x9<(x7.length:Int) then ((strconv_Itoa.f (rd x7 x9)).bind fun t438=>(if x3.length<8796093022208 then (impl_numbersText.l0 k (x3 ++ [t438]) x7 x8 (wrap64 (x9+1))) else (none))) else (none)) else (none)) else ((strings_Join.f x3 (⟨#[32]⟩:ByteArray)).bind fun t442=>(some t442))
def impl_numbersText.f (k:Nat) (l0:List Int):Option (ByteArray):=impl_numbersText.l0 k (([]:List ByteArray)) l0 (l0.length:Int) 0
theorem impl_numbersText.calls (k:Nat) (A0:Option Addr) (c0:Nat) (l0:List Int) (r:ByteArray) (w:World) (hr0:Kd.C (Kd.int .i64) w A0 l0.length l0) (hc0:l0.length≤c0) (h:impl_numbersText.f k l0=some r) :
  Calls Tryd.prog 67 #[.slice A0 l0.length c0] w fun e w'=>e = .returned (.string r)∧Below w.heap.size w w':=by
 have HR0:=aM hr0
 have HC0:=aM hc0
 clear hr0 hc0
 have HB:=aM (Below.refl w.heap.size w)
 have H:(impl_numbersText.l0 k (([]:List ByteArray)) l0 (l0.length:Int) 0)=some r:=h
 clear h
 obtain ⟨y434,hy434⟩:∃ y_:List ByteArray,y_=(([]:List ByteArray)):=⟨_,rfl⟩
 replace H:(impl_numbersText.l0 k y434 l0 (l0.length:Int) 0)=some r:=q3y_ hy434 H
 have Ny434:=aM hy434
 clear hy434
 have H':=aM H
 clear H
 go_enter Tryd.func67,Tryd.ntmps67
 go_wp2_with (first | ((with_reducible refine gate_dst (N:=6) rfl ?_);refine Kd.R_lit Kd.string _ 9 ?hg (N:=6) ?hd (xs:=([]:List ByteArray)) (inner:=[]) (ok:=fun _=>True) (okp:=fun _=>True) ?hr ?hp (fun _ hk=>hk) trivial (Below.refl _ _) (Nat.le_refl _) (by simp) ?_;(case hd=>rfl);(case hg=>rfl);(case hr=>exact zb_);(case hp=>exact (Reps.none _ _));intro v435 w2 ho3 hb hg_ hnew_;clear hg_ hnew_;(first | rw [← Ny434.out] at ho3 | (simp only [Int.reduceToNat] at ho3;rw [← Ny434.out] at ho3));have n_:=z (Kd.R_lower ho3 (below_size za_))<|z1 (below_step za_ hb);clear HB;obtain ⟨HO436,HB⟩:=n_;clear hb ho3))
 go_loopg [3,9] k (fun kq v3 v9 w' => ∃ (x3_1:List ByteArray) (x9_1:Int),v9 = .int .i64 x9_1∧Aside0 (impl_numbersText.l0 kq x3_1 l0 (l0.length:Int) x9_1=some r)∧Aside0 (kq≤k)∧Aside0 (Kd.R Kd.string 9 w' w.heap.size (fun _=>True) v3 x3_1)∧Aside0 (Below w.heap.size w w'))
 case atStart=>exact ⟨(y434),(0),ze_,H',⟨Nat.le_refl _⟩,⟨zr HO436.out⟩,⟨za_⟩⟩
 case round =>
  clear H';obtain ⟨x3_1,x9_1,rfl,HA,HK1,HO_3,HB⟩:=hrel
  cases gk with
  | zero=>exact absurd HA.out (by simp [impl_numbersText.l0])
  | succ k1 =>
   have H:=HA.out;clear HA
   simp only [impl_numbersText.l0] at H
   by_cases c4:x9_1<(l0.length:Int)
   ·rw [if_pos c4] at H
    have c4b0:=decide_eq_true c4;clear c4
    by_cases c5:0≤x9_1
    ·rw [if_pos c5] at H
     have c5b0:=decide_eq_true c5;clear c5
     by_cases c6:x9_1<(l0.length:Int)
     ·rw [if_pos c6] at H
      have c6b0:=decide_eq_true c6;clear c6;replace H:=oB.mp H;obtain ⟨t438,A70,H⟩:=H;replace H:(if x3_1.length<8796093022208 then (impl_numbersText.l0 k1 (x3_1 ++ [t438]) l0 (l0.length:Int) (wrap64 (x9_1+1))) else (none))=some r:=H;have A7:=aM A70;clear A70
      by_cases c8:x3_1.length<8796093022208
      ·rw [if_pos c8] at H
       have LMc8:=aM c8;clear c8;obtain ⟨y439,hy439⟩:∃ y_:List ByteArray,y_=(x3_1 ++ [t438]):=⟨_,rfl⟩;replace H:(impl_numbersText.l0 k1 y439 l0 (l0.length:Int) (wrap64 (x9_1+1)))=some r:=q3y_ hy439 H
       have Ny439:=aM hy439;clear hy439;have H':=aM H;clear H;have p437:0≤(x9_1:Int):=of_decide_eq_true zc_;have q437:x9_1<(l0.length:Int):=of_decide_eq_true zc_;obtain ⟨ad437,e437,hx437_0⟩:=Kd.at_int HR0.out x9_1 p437 q437
       cases e437
       (try (replace hx437_0:=q3h_ HB.out hx437_0));replace p437:=eq_true p437;replace q437:=eq_true q437
       go_wp2_with (first | ((with_reducible refine gate_callee (f:=68) rfl ?_);refine goesL_ (some 15) rfl rfl Tryd.func68 (by kernel_rfl) rfl #[.int .i64 (rd l0 x9_1)] rfl zd_ ?_;(with_reducible refine (strconv_Itoa.calls (rd l0 x9_1) t438 _ A7.out).mono ?_);rintro e w' ⟨rfl,⟨nd,rfl⟩⟩;refine ⟨_,rfl,?_⟩)|((with_reducible refine gate_builtin (b := .append) (xs:=#[.tmp 13,.tmp 16]) rfl ?_);at_builtin;refine Kd.R_append Kd.string (w0:=w) w.heap.size rfl (.tmp 13) (.tmp 16) 93 9 (.string ⟨#[]⟩) 16 rfl Tryd.underlying93 info9 rfl (by decide) (by omega) u3 x3_1 t438 [.string t438] (fun _=>True) (fun _=>False) rfl rfl ?aP (fun _ hk=>hk.elim) ?aF ?aO ?aB ?aS ?aL ?_;(case aP=>exact rfl);(case aB=>exact zfg_);(case aF=>exact zdf_);(case aO=>exact (zr HO_3.out));(case aS=>exact zfh_);(case aL=>have:=LMc8.out;omega);intro v440 w9 ho hb hg hat;rw [← Ny439.out] at ho;have n_:=z (hb)<|z1 (ho);clear HB HO_3;obtain ⟨HB,HO441⟩:=n_;clear ho hb hg hat))
       go_roundg k1
       case measure=>have:=HK1.out;omega
       case rel=>exact ⟨(y439),(wrap64 (x9_1+1)),ze_,H',⟨zbd_⟩,⟨zr HO441.out⟩,⟨za_⟩⟩
      ·rw [if_neg c8] at H
       exact q3n_ H
     ·rw [if_neg c6] at H
      exact q3n_ H
    ·rw [if_neg c5] at H
     exact q3n_ H
   ·rw [if_neg c4] at H
    have c4b0:=decide_eq_false c4;clear c4;replace H:=oB.mp H;obtain ⟨t442,A100,H⟩:=H;replace H:(some t442)=some r:=H;have A10:=aM A100;clear A100;obtain rfl:=Option.some.inj H;obtain ⟨Ao11,co11,eo11⟩:=Kd.R_slice HO_3.out;subst eo11
    go_wp2_with (first | ((with_reducible refine gate_callee (f:=93) rfl ?_);refine goesL_ (some 20) rfl rfl Tryd.func93 (by kernel_rfl) rfl #[.slice Ao11 x3_1.length co11,.string (⟨#[32]⟩:ByteArray)] rfl zd_ ?_;(with_reducible refine (strings_Join.calls _ _ x3_1 (⟨#[32]⟩:ByteArray) t442 _ ?side1 ?side2 A10.out).mono ?_);(case side1=>repeat (first | exact (Kd.R_reads' HO_3.out).2.2 | (with_reducible refine cA ?_ _)|(with_reducible refine cN ?_ _)|(with_reducible refine cD ?_)));(case side2=>exact (Kd.R_reads' HO_3.out).2.1);rintro e w12 ⟨rfl,hb⟩;refine ⟨_,rfl,?_⟩;have n_:=z (Kd.R_below (zr HO_3.out) hb)<|z1 (below_step za_ hb);clear HO_3 HB;obtain ⟨HO_3,HB⟩:=n_;clear hb))
    go_ret
    exact ⟨zf_,za_⟩
def impl_DiagramText.l0:Nat→ByteArray→List (S70)→Int→Int→Int→List (S70)→Int→Option (ByteArray×Bool)
 | 0,_,_,_,_,_,_,_=>none
 | k+1,x4,x11,x12,x13,x444000,x444001,x444002=>if x13<x12 then (if 0≤x13 then (if x13<(x11.length:Int) then ((impl_numbersText.f k (([(rd_T70 x11 x13).f0,(rd_T70 x11 x13).f1,(rd_T70 x11 x13).f2]:List Int))).bind fun t450=>(if t450.size+1≤9223372036854775807 then (if x4.size+(t450++(⟨#[10]⟩:ByteArray)).size≤9223372036854775807 then (impl_DiagramText.l0 k (x4++(t450++(⟨#[10]⟩:ByteArray))) x11 x12 (wrap64 (x13+1)) x444000 x444001 x444002) else (none)) else (none))) else (none)) else (none)) else ((strconv_Itoa.f x444002).bind fun t451=>(if x4.size+t451.size≤9223372036854775807 then (if (x4++t451).size+1≤9223372036854775807 then (some ((x4++t451)++(⟨#[10]⟩:ByteArray),true)) else (none)) else (none)))
def impl_DiagramText.f (k:Nat) (a0_0:Int) (l0_1:List (S70)) (a0_2:Int):Option (ByteArray×Bool):=(impl_IsDiagram.f k a0_0 l0_1 a0_2).bind fun t444=>(if t444=true then (impl_DiagramText.l0 k (⟨#[]⟩:ByteArray) l0_1 (l0_1.length:Int) 0 a0_0 l0_1 a0_2) else (some ((⟨#[]⟩:ByteArray),false)))
theorem impl_DiagramText.calls (k:Nat) (a0_0:Int) (A0_1:Option Addr) (c0_1:Nat) (l0_1:List (S70)) (a0_2:Int) (r1:ByteArray) (r2:Bool) (w:World) (hr0_1:Kd.C k70 w A0_1 l0_1.length l0_1) (hc0_1:l0_1.length≤c0_1) (h:impl_DiagramText.f k a0_0 l0_1 a0_2=some (r1,r2)) :
  Calls Tryd.prog 26 #[.agg #[.int .i64 a0_0,.slice A0_1 l0_1.length c0_1,.int .i64 a0_2]] w fun e w'=>e = .returned (.tuple #[.string r1,.bool r2])∧Below w.heap.size w w':=by
 have hu30:=Tryd.underlying30
 have hu70:=Tryd.underlying70
 have HR0_1:=aM hr0_1
 have HC0_1:=aM hc0_1
 clear hr0_1 hc0_1
 have HB:=aM (Below.refl w.heap.size w)
 have H:((impl_IsDiagram.f k a0_0 l0_1 a0_2).bind fun t444=>(if t444=true then (impl_DiagramText.l0 k (⟨#[]⟩:ByteArray) l0_1 (l0_1.length:Int) 0 a0_0 l0_1 a0_2) else (some ((⟨#[]⟩:ByteArray),false))))=some (r1,r2):=h
 clear h
 replace H:=oB.mp H
 obtain ⟨t444,A20,H⟩:=H
 replace H:(if t444=true then (impl_DiagramText.l0 k (⟨#[]⟩:ByteArray) l0_1 (l0_1.length:Int) 0 a0_0 l0_1 a0_2) else (some ((⟨#[]⟩:ByteArray),false)))=some (r1,r2):=H
 have A2:=aM A20
 clear A20
 by_cases c3:t444=true
 ·subst c3
  have H1:(impl_DiagramText.l0 k (⟨#[]⟩:ByteArray) l0_1 (l0_1.length:Int) 0 a0_0 l0_1 a0_2)=some (r1,r2):=by rw [if_pos rfl] at H;exact H
  clear H;have H:=H1;clear H1;have H':=aM H;clear H
  go_enter Tryd.func26,Tryd.ntmps26
  go_wp2_with (first | ((with_reducible refine gate_dst (N:=1) rfl ?_);refine box_event ?hg (N:=1) ?hd (cs:=#[.int .i64 a0_0,.slice A0_1 l0_1.length c0_1,.int .i64 a0_2]) (t:=30) ?hr ?_;(case hd=>rfl);(case hg=>rfl);(case hr=>exact zb_);intro gb443 hg w4 hbox hb;have n_:=z (below_step za_ hb)<|z (hbox)<|z ((by rw [hg];exact (below_size za_):w.heap.size≤gb443))<|z1 ((by rw [hg];exact (below_size za_):w.heap.size≤gb443));clear HB;obtain ⟨HB,BK443,GW443,GE443⟩:=n_;clear hb hbox hg;obtain ⟨hcz5_0,hcz5_1,hcz5_2,hfz5_0,hfz5_1,hfz5_2⟩:=zk3 BK443.out)|((with_reducible refine gate_callee (f:=15) rfl ?_);refine goesL_ (some 8) rfl rfl Tryd.func15 (by kernel_rfl) rfl #[.agg #[.int .i64 a0_0,.slice A0_1 l0_1.length c0_1,.int .i64 a0_2]] rfl zd_ ?_;(with_reducible refine (impl_IsDiagram.calls k a0_0 _ _ l0_1 a0_2 true _ ?side1 ?side2 A2.out).mono ?_);(case side1=>exact zg_);(case side2=>exact HC0_1.out);rintro e w6 ⟨rfl,hb⟩;refine ⟨_,rfl,?_⟩;have n_:=z (blk_below (zb BK443.out) hb)<|z1 (below_step zga_ hb);clear BK443 HB;obtain ⟨BK443,HB⟩:=n_;clear hb;obtain ⟨hcz7_0,hcz7_1,hcz7_2,hfz7_0,hfz7_1,hfz7_2⟩:=zk3 BK443.out))
  go_loopg [4,13] k (fun kq v4 v13 w' => ∃ (x4_1:ByteArray) (x13_1:Int),v4 = .string x4_1∧v13 = .int .i64 x13_1∧Aside0 (impl_DiagramText.l0 kq x4_1 l0_1 (l0_1.length:Int) x13_1 a0_0 l0_1 a0_2=some (r1,r2))∧Aside0 (kq≤k)∧Aside0 (w'.heap[gb443]?=some (.cells #[.int .i64 a0_0,(.slice A0_1 l0_1.length c0_1),.int .i64 a0_2] 30 (0,0)))∧Aside0 (Below w.heap.size w w'))
  case atStart=>exact ⟨((⟨#[]⟩:ByteArray)),(0),ze_,ze_,H',⟨Nat.le_refl _⟩,⟨zb BK443.out⟩,⟨zga_⟩⟩
  case round =>
   clear H';(try clear hcz5_0);(try clear hcz5_1);(try clear hcz5_2);(try clear hcz7_0);(try clear hcz7_1);(try clear hcz7_2);(try clear hfz5_0);(try clear hfz5_1);(try clear hfz5_2);(try clear hfz7_0);(try clear hfz7_1);(try clear hfz7_2);obtain ⟨x4_1,x13_1,rfl,rfl,HA,HK1,BK443,HB⟩:=hrel
   cases gk with
   | zero=>exact absurd HA.out (by simp [impl_DiagramText.l0])
   | succ k1 =>
    have H:=HA.out;clear HA
    simp only [impl_DiagramText.l0] at H
    by_cases c8:x13_1<(l0_1.length:Int)
    ·rw [if_pos c8] at H
     have c8b0:=decide_eq_true c8;clear c8
     by_cases c9:0≤x13_1
     ·rw [if_pos c9] at H
      have c9b0:=decide_eq_true c9;clear c9
      by_cases c10:x13_1<(l0_1.length:Int)
      ·rw [if_pos c10] at H
       have c10b0:=decide_eq_true c10;clear c10;obtain ⟨y447,hy447⟩:∃ y_:List Int,y_=(([(rd_T70 l0_1 x13_1).f0,(rd_T70 l0_1 x13_1).f1,(rd_T70 l0_1 x13_1).f2]:List Int)):=⟨_,rfl⟩;replace H:((impl_numbersText.f k1 y447).bind fun t450=>(if t450.size+1≤9223372036854775807 then (if x4_1.size+(t450++(⟨#[10]⟩:ByteArray)).size≤9223372036854775807 then (impl_DiagramText.l0 k1 (x4_1++(t450++(⟨#[10]⟩:ByteArray))) l0_1 (l0_1.length:Int) (wrap64 (x13_1+1)) a0_0 l0_1 a0_2) else (none)) else (none)))=some (r1,r2):=q3y_ hy447 H
       have Ny447:=aM hy447;clear hy447;replace H:=oB.mp H;obtain ⟨t450,A110,H⟩:=H;replace H:(if t450.size+1≤9223372036854775807 then (if x4_1.size+(t450++(⟨#[10]⟩:ByteArray)).size≤9223372036854775807 then (impl_DiagramText.l0 k1 (x4_1++(t450++(⟨#[10]⟩:ByteArray))) l0_1 (l0_1.length:Int) (wrap64 (x13_1+1)) a0_0 l0_1 a0_2) else (none)) else (none))=some (r1,r2):=H;have A11:=aM A110;clear A110
       by_cases c12:t450.size+1≤9223372036854775807
       ·rw [if_pos c12] at H
        have c12b0:=eq_true c12;have c12b1:=decide_eq_true c12;(try have c12b2:(9223372036854775807<t450.size+1)=False:=eq_false (Nat.not_lt.2 c12))
        by_cases c13:x4_1.size+(t450++(⟨#[10]⟩:ByteArray)).size≤9223372036854775807
        ·rw [if_pos c13] at H
         have c13b0:=eq_true c13;have c13b1:=decide_eq_true c13;(try have c13b3:(x4_1.size+(t450.size+1)≤9223372036854775807)=True:=eq_true (by have h_:=c13;(repeat rw [ByteArray.size_append] at h_);exact h_));(try have c13b4:(9223372036854775807<x4_1.size+(t450.size+1))=False:=eq_false (by have h_:=c13;(repeat rw [ByteArray.size_append] at h_);exact Nat.not_lt.2 h_));(try have c13b2:(9223372036854775807<x4_1.size+(t450++(⟨#[10]⟩:ByteArray)).size)=False:=eq_false (Nat.not_lt.2 c13));have H':=aM H;clear H;have p445:0≤(x13_1:Int):=of_decide_eq_true zc_;have q445:x13_1<(l0_1.length:Int):=of_decide_eq_true zc_;obtain ⟨ad445,e445,hx445_0,hx445_1,hx445_2⟩:=at_T70 HR0_1.out x13_1 p445 q445
         cases e445
         (try (replace hx445_0:=q3h_ HB.out hx445_0));(try (replace hx445_1:=q3h_ HB.out hx445_1));(try (replace hx445_2:=q3h_ HB.out hx445_2));replace p445:=eq_true p445;replace q445:=eq_true q445
         go_wp2_with (first | ((with_reducible refine gate_dst (N:=6) rfl ?_);refine box_event ?hg (N:=6) ?hd (cs:=#[.int .i64 0,.int .i64 0,.int .i64 0]) (t:=70) ?hr ?_;(case hd=>rfl);(case hg=>rfl);(case hr=>exact zb_);intro gb446 hg w14 hbox hb;have n_:=z (blk_below (zb BK443.out) hb)<|z (below_step zga_ hb)<|z (hbox)<|z ((by rw [hg];exact (below_size zga_):w.heap.size≤gb446))<|z ((by rw [hg];exact (below_size zga_):w.heap.size≤gb446))<|z ((by rw [hg];exact Nat.ne_of_lt (blk_lt (zb BK443.out)):gb443≠gb446))<|z1 ((by rw [hg];exact Nat.ne_of_gt (blk_lt (zb BK443.out)):gb446≠gb443));clear BK443 HB;obtain ⟨BK443,HB,BK446,GW446,GE446,NB443_446,NB446_443⟩:=n_;clear hb hbox hg;have hnb15:=NB446_443.out;have hnc15:=NB443_446.out;obtain ⟨hcz16_0,hcz16_1,hcz16_2,hfz16_0,hfz16_1,hfz16_2⟩:=zk3 BK446.out)|((with_reducible refine gate_dst (N:=24) rfl ?_);refine Kd.R_lit (Kd.int .i64) _ 3 ?hg (N:=24) ?hd (xs:=([(rd_T70 l0_1 x13_1).f0,(rd_T70 l0_1 x13_1).f1,(rd_T70 l0_1 x13_1).f2]:List Int)) (inner:=[.int .i64 ((rd_T70 l0_1 x13_1).f0),.int .i64 ((rd_T70 l0_1 x13_1).f1),.int .i64 ((rd_T70 l0_1 x13_1).f2)]) (ok:=fun _=>True) (okp:=fun _=>True) ?hr ?hp (fun _ hk=>hk) trivial (Below.refl _ _) (Nat.le_refl _) (by simp) ?_;(case hd=>rfl);(case hg=>rfl);(case hr=>exact zb_);(case hp=>exact (Reps.one (show Kd.M (Kd.int .i64) _ _ _ ((rd_T70 l0_1 x13_1).f0) [.int .i64 ((rd_T70 l0_1 x13_1).f0)] from rfl) (Reps.one (show Kd.M (Kd.int .i64) _ _ _ ((rd_T70 l0_1 x13_1).f1) [.int .i64 ((rd_T70 l0_1 x13_1).f1)] from rfl) (Reps.one (show Kd.M (Kd.int .i64) _ _ _ ((rd_T70 l0_1 x13_1).f2) [.int .i64 ((rd_T70 l0_1 x13_1).f2)] from rfl) (Reps.none _ _)))));intro v448 w17 ho18 hb hg_ hnew_;clear hg_ hnew_;(first | rw [← Ny447.out] at ho18 | (simp only [Int.reduceToNat] at ho18;rw [← Ny447.out] at ho18));have n_:=z (Kd.R_lower ho18 (below_size zbaa_))<|z (blk_below (g:=gb443) (o := .cells #[.int .i64 a0_0,.slice (some ad445) l0_1.length c0_1,.int .i64 a0_2] 30 (0,0)) (by refine zb ?_;refine blk_far ?_ NB443_446.out _;refine zb ?_;refine blk_far ?_ NB443_446.out _;refine zb ?_;refine blk_far ?_ NB443_446.out _;refine zb ?_;exact BK443.out) hb)<|z (blk_below (g:=gb446) (o := .cells #[.int .i64 ((rd_T70 l0_1 x13_1).f0),.int .i64 ((rd_T70 l0_1 x13_1).f1),.int .i64 ((rd_T70 l0_1 x13_1).f2)] 70 (0,0)) (by refine zb ?_;refine blk_put (cs:=#[.int .i64 ((rd_T70 l0_1 x13_1).f0),.int .i64 ((rd_T70 l0_1 x13_1).f1),.int .i64 0]) ?_ 2 _ rfl;refine zb ?_;refine blk_put (cs:=#[.int .i64 ((rd_T70 l0_1 x13_1).f0),.int .i64 0,.int .i64 0]) ?_ 1 _ rfl;refine zb ?_;refine blk_put (cs:=#[.int .i64 0,.int .i64 0,.int .i64 0]) ?_ 0 _ rfl;refine zb ?_;exact BK446.out) hb)<|z1 (below_step zbaa_ hb);clear BK443 BK446 HB;obtain ⟨HO449,BK443,BK446,HB⟩:=n_;clear hb ho18;obtain ⟨Ao19,co19,eo19⟩:=Kd.R_slice HO449.out;subst eo19)|((with_reducible refine gate_callee (f:=67) rfl ?_);refine goesL_ (some 25) rfl rfl Tryd.func67 (by kernel_rfl) rfl #[.slice Ao19 y447.length co19] rfl zd_ ?_;(with_reducible refine (impl_numbersText.calls k1 _ _ y447 t450 _ ?side1 ?side2 A11.out).mono ?_);(case side1=>repeat (first | exact (Kd.R_reads' HO449.out).2.2 | (with_reducible refine cA ?_ _)|(with_reducible refine cN ?_ _)|(with_reducible refine cD ?_)));(case side2=>exact (Kd.R_reads' HO449.out).2.1);rintro e w20 ⟨rfl,hb⟩;refine ⟨_,rfl,?_⟩;have n_:=z (Kd.R_below (zr HO449.out) hb)<|z (blk_below (zb BK443.out) hb)<|z (blk_below (g:=gb446) (o := .cells #[.int .i64 ((rd_T70 l0_1 x13_1).f0),.int .i64 ((rd_T70 l0_1 x13_1).f1),.int .i64 ((rd_T70 l0_1 x13_1).f2)] 70 (0,0)) (zb BK446.out) hb)<|z1 (below_step zbaa_ hb);clear HO449 BK443 BK446 HB;obtain ⟨HO449,BK443,BK446,HB⟩:=n_;clear hb))
         go_roundg k1
         case measure=>have:=HK1.out;omega
         case rel=>exact ⟨(x4_1++(t450++(⟨#[10]⟩:ByteArray))),(wrap64 (x13_1+1)),ze_,ze_,H',⟨zbd_⟩,⟨zb BK443.out⟩,⟨zbaa_⟩⟩
        ·rw [if_neg c13] at H
         exact q3n_ H
       ·rw [if_neg c12] at H
        exact q3n_ H
      ·rw [if_neg c10] at H
       exact q3n_ H
     ·rw [if_neg c9] at H
      exact q3n_ H
    ·rw [if_neg c8] at H
     have c8b0:=decide_eq_false c8;clear c8;replace H:=oB.mp H;obtain ⟨t451,A210,H⟩:=H;replace H:(if x4_1.size+t451.size≤9223372036854775807 then (if (x4_1++t451).size+1≤9223372036854775807 then (some ((x4_1++t451)++(⟨#[10]⟩:ByteArray),true)) else (none)) else (none))=some (r1,r2):=H;have A21:=aM A210;clear A210
     by_cases c22:x4_1.size+t451.size≤9223372036854775807
     ·rw [if_pos c22] at H
      have c22b0:=eq_true c22;have c22b1:=decide_eq_true c22;(try have c22b2:(9223372036854775807<x4_1.size+t451.size)=False:=eq_false (Nat.not_lt.2 c22))
      by_cases c23:(x4_1++t451).size+1≤9223372036854775807
      ·rw [if_pos c23] at H
       have c23b0:=eq_true c23;have c23b1:=decide_eq_true c23;(try have c23b3:(x4_1.size+t451.size+1≤9223372036854775807)=True:=eq_true (by have h_:=c23;(repeat rw [ByteArray.size_append] at h_);exact h_));(try have c23b4:(9223372036854775807<x4_1.size+t451.size+1)=False:=eq_false (by have h_:=c23;(repeat rw [ByteArray.size_append] at h_);exact Nat.not_lt.2 h_));(try have c23b2:(9223372036854775807<(x4_1++t451).size+1)=False:=eq_false (Nat.not_lt.2 c23))
       simp only [Option.some.injEq,Prod.mk.injEq] at H
       obtain ⟨rfl,rfl⟩:=H;obtain ⟨hcz24_0,hcz24_1,hcz24_2,hfz24_0,hfz24_1,hfz24_2⟩:=zk3 BK443.out
       go_wp2_with (first | ((with_reducible refine gate_callee (f:=68) rfl ?_);refine goesL_ (some 32) rfl rfl Tryd.func68 (by kernel_rfl) rfl #[.int .i64 a0_2] rfl zd_ ?_;(with_reducible refine (strconv_Itoa.calls a0_2 t451 _ A21.out).mono ?_);rintro e w' ⟨rfl,⟨nd,rfl⟩⟩;refine ⟨_,rfl,?_⟩))
       go_ret2
       exact ⟨zf_,zga_⟩
      ·rw [if_neg c23] at H
       exact q3n_ H
     ·rw [if_neg c22] at H
      exact q3n_ H
 ·replace c3:=Bool.eq_false_iff.mpr c3
  subst c3;have H1:(some ((⟨#[]⟩:ByteArray),false))=some (r1,r2):=by rw [if_neg (show ¬ (false=true) by decide)] at H;exact H
  clear H;have H:=H1;clear H1
  simp only [Option.some.injEq,Prod.mk.injEq] at H
  obtain ⟨rfl,rfl⟩:=H
  go_enter Tryd.func26,Tryd.ntmps26
  go_wp2_with (first | ((with_reducible refine gate_dst (N:=1) rfl ?_);refine box_event ?hg (N:=1) ?hd (cs:=#[.int .i64 a0_0,.slice A0_1 l0_1.length c0_1,.int .i64 a0_2]) (t:=30) ?hr ?_;(case hd=>rfl);(case hg=>rfl);(case hr=>exact zb_);intro gb443 hg w25 hbox hb;have n_:=z (below_step za_ hb)<|z (hbox)<|z ((by rw [hg];exact (below_size za_):w.heap.size≤gb443))<|z1 ((by rw [hg];exact (below_size za_):w.heap.size≤gb443));clear HB;obtain ⟨HB,BK443,GW443,GE443⟩:=n_;clear hb hbox hg;obtain ⟨hcz26_0,hcz26_1,hcz26_2,hfz26_0,hfz26_1,hfz26_2⟩:=zk3 BK443.out)|((with_reducible refine gate_callee (f:=15) rfl ?_);refine goesL_ (some 8) rfl rfl Tryd.func15 (by kernel_rfl) rfl #[.agg #[.int .i64 a0_0,.slice A0_1 l0_1.length c0_1,.int .i64 a0_2]] rfl zd_ ?_;(with_reducible refine (impl_IsDiagram.calls k a0_0 _ _ l0_1 a0_2 false _ ?side1 ?side2 A2.out).mono ?_);(case side1=>exact zg_);(case side2=>exact HC0_1.out);rintro e w27 ⟨rfl,hb⟩;refine ⟨_,rfl,?_⟩;have n_:=z (blk_below (zb BK443.out) hb)<|z1 (below_step zga_ hb);clear BK443 HB;obtain ⟨BK443,HB⟩:=n_;clear hb))
  go_ret2
  exact ⟨zf_,zga_⟩
end Go.Proofs.YtlnhpkjioppbiaaDoor.QFnDiagrams
