/- Functions of FnTables, each as a Lean function, with the proof that the Go code comes to its answers. -/
import Derived.Test.YtlnhpkjioppbiaaDoorSFnTablesx0
import Derived.Test.YtlnhpkjioppbiaaDoorSFnTablesx1
import Derived.Test.YtlnhpkjioppbiaaDoorSFnTablesx3
import Derived.Test.YtlnhpkjioppbiaaDoorSFnTablesx6
namespace Go.Proofs.YtlnhpkjioppbiaaDoor.QFnTables
open Go.RowKit Go.Proofs.YtlnhpkjioppbiaaDoorW.PrintWords Go.Proofs.YtlnhpkjioppbiaaDoorW.PrintLast Go.Proofs.YtlnhpkjioppbiaaDoorW.PrintMore
open Go.Proofs.YtlnhpkjioppbiaaDoorW.PrintWords renaming pw_below_drewN→pN,below_drew1→p1,below_alloc→pA
open Go.Proofs.YtlnhpkjioppbiaaDoorW.PrintWords.Kd renaming R_alloc→kA,R_drewN→kN,R_drew→kD,Q_alloc→qA,Q_drewN→qN,Q_drew→qD,C_alloc→cA,C_drewN→cN,C_drew→cD
open Go.Proofs.YtlnhpkjioppbiaaDoorW.PrintWords.Aside0 renaming mk→aM
open List renaming setIfInBounds_toArray→sI,set_cons_zero→s0,set_cons_succ→sS,map_toArray→mT,length_take→lT,length_drop→lD,map_cons→mC,map_nil→mN
open Option renaming bind_eq_some_iff→oB,bind_some→oS
attribute [local go_sem] max2_int min2_int max_two min_two max_three min_three max_four min_four
set_option maxHeartbeats 8000000
set_option maxRecDepth 100000
set_option linter.unusedVariables false
set_option linter.unusedSimpArgs false
mutual
def impl_ParseTable.j0:Nat→ByteArray→Bool→Option (Int×List Int×Bool)
 | 0,_,_=>none
 | k+1,x0,x23=>if x23=true then (some (0,([]:List Int),false)) else (if 0<(x0.size:Int) then (impl_ParseTable.l0 k x0 2 (((bt x0 0) - 48) % 256) ([]:List Int)) else (none))
def impl_ParseTable.l0:Nat→ByteArray→Int→Int→List Int→Option (Int×List Int×Bool)
 | 0,_,_,_,_=>none
 | k+1,x0,x5,x370000,x370001=>if x5<(x0.size:Int) then (if 0≤x5 then (if x370001.length<17592186044416 then (impl_ParseTable.l0 k x0 (wrap64 (x5+1)) x370000 (x370001 ++ [wrap64 ((wrap64 (bt x0 x5)) - 48)])) else (none)) else (none)) else ((impl_IsTable.f k x370000 x370001).bind fun t373=>(if t373=true then (some (x370000,x370001,true)) else (some (0,([]:List Int),false))))
end
def impl_ParseTable.f (k:Nat) (a0:ByteArray):Option (Int×List Int×Bool):=if (a0.size:Int)<3 then (impl_ParseTable.j0 k a0 true) else (if 0<(a0.size:Int) then (if (bt a0 0)<48 then (impl_ParseTable.j0 k a0 true) else (if (bt a0 0)>52 then (impl_ParseTable.j0 k a0 true) else (if 1<(a0.size:Int) then (impl_ParseTable.j0 k a0 ((bt a0 1) != 58)) else (none)))) else (none))
def impl_ParseTable.T7:Bool×List (List Nat×List Nat):=(true,[([],[]),([0],[0]),([],[]),([],[]),([2,3],[2,3]),([4],[4]),([5],[5]),([6],[6]),([1,7],[1,7]),([0,1,2,3,4,5,6,7,8],[]),([9,8,8,0,1,2,3,4,5,6,7,8],[8,9])])
def impl_ParseTable.B7:List Nat:=[0,1,0,0,12,28,60,124,255,511,1023]
theorem impl_ParseTable.tab7:rtab .any (opsOf Tryd.f41 7)=impl_ParseTable.T7:=by kernel_rfl
theorem impl_ParseTable.bits7:waitsOk impl_ParseTable.T7.2 impl_ParseTable.B7=true:=by kernel_rfl
theorem impl_ParseTable.calls (k:Nat) (a0:ByteArray) (r1:Int) (r2:List Int) (r3:Bool) (w:World) (h:impl_ParseTable.f k a0=some (r1,r2,r3)) :
  Calls Tryd.prog 41 #[.string a0] w fun e w' => ∃ v1_:Value,e = .returned (.tuple #[.agg #[.int .i64 r1,v1_],.bool r3])∧Kd.R (Kd.int .i64) 3 w' w.heap.size (fun _=>True) v1_ r2∧Below w.heap.size w w':=by
 have hu26:=Tryd.underlying26
 have HB:=aM (Below.refl w.heap.size w)
 have H:(if (a0.size:Int)<3 then (impl_ParseTable.j0 k a0 true) else (if 0<(a0.size:Int) then (if (bt a0 0)<48 then (impl_ParseTable.j0 k a0 true) else (if (bt a0 0)>52 then (impl_ParseTable.j0 k a0 true) else (if 1<(a0.size:Int) then (impl_ParseTable.j0 k a0 ((bt a0 1) != 58)) else (none)))) else (none)))=some (r1,r2,r3):=h
 clear h
 have HC2:=aM H
 clear H
 go_enter Tryd.func41,Tryd.ntmps41
 go_upto_region 1 with (first | ((with_reducible refine gate_dst (N:=2) rfl ?_);refine box_event ?hg (N:=2) ?hd (cs:=#[.int .i64 0,.slice none 0 0]) (t:=26) ?hr ?_;(case hd=>rfl);(case hg=>rfl);(case hr=>exact zb_);intro gb368 hg w3 hbox hb;have n_:=z (below_step za_ hb)<|z (hbox)<|z ((by rw [hg];exact (below_size za_):w.heap.size≤gb368))<|z1 ((by rw [hg];exact (below_size za_):w.heap.size≤gb368));clear HB;obtain ⟨HB,BK368,GW368,GE368⟩:=n_;clear hb hbox hg))
 (try simp only [Act.put,sI,s0,sS])
 go_cut [23] (fun v23 wc => ∃ (kq:Nat) (x23_1:Bool),v23 = .bool x23_1∧Aside0 (impl_ParseTable.j0 kq a0 x23_1=some (r1,r2,r3))∧Aside0 (kq≤k)∧Aside0 (wc.heap[gb368]?=some (.cells #[.int .i64 0,(.slice none 0 0)] 26 (0,0)))∧Aside0 (Below w.heap.size w wc))
 case first =>
  have H:=HC2.out;clear HC2
  by_cases c4:(a0.size:Int)<3
  ·rw [if_pos c4] at H
   have c4b0:=decide_eq_true c4;have c4b1:decide (a0.size<3)=true:=decide_eq_true (by omega);clear c4;(first | rw [c4b0]|(simp only [i64_w,i32_w];rw [c4b0]) | skip);have H':=aM H;clear H
   go_wp2
   go_meet
   case rel=>exact ⟨_,(true),zc_,H',⟨zce_⟩,⟨zb BK368.out⟩,⟨zeh_⟩⟩
  ·rw [if_neg c4] at H
   have c4b0:=decide_eq_false c4;have c4b1:decide (a0.size<3)=false:=decide_eq_false (by omega);clear c4;(first | rw [c4b0]|(simp only [i64_w,i32_w];rw [c4b0]) | skip)
   by_cases c5:0<(a0.size:Int)
   ·rw [if_pos c5] at H
    have c5b0:=decide_eq_true c5;have c5b1:decide (0<a0.size)=true:=decide_eq_true (by omega);clear c5
    by_cases c7:(bt a0 0)<48
    ·rw [if_pos c7] at H
     have c7b0:=decide_eq_true c7;clear c7;have H':=aM H;clear H;have p6:0≤(0:Int):=(by omega);have q6:0<a0.size:=(by have:(0:Int)<(a0.size:Int):=of_decide_eq_true zd_;omega);have hx6:∀ h:0<a0.size,((a0[0]'h).toNat:Int)=bt a0 0:=bt_at a0 0;clear p6;have qi6:(0<(a0.size:Int))=True:=eq_true (of_decide_eq_true zd_);replace q6:=eq_true q6
     go_wp2
     go_meet
     case rel=>exact ⟨_,(true),zc_,H',⟨zce_⟩,⟨zb BK368.out⟩,⟨zeh_⟩⟩
    ·rw [if_neg c7] at H
     have c7b0:=decide_eq_false c7;clear c7
     by_cases c9:(bt a0 0)>52
     ·rw [if_pos c9] at H
      have c9b0:decide (52<(bt a0 0))=true:=decide_eq_true c9;clear c9;have H':=aM H;clear H;have p6:0≤(0:Int):=(by omega);have q6:0<a0.size:=(by have:(0:Int)<(a0.size:Int):=of_decide_eq_true zd_;omega);have hx6:∀ h:0<a0.size,((a0[0]'h).toNat:Int)=bt a0 0:=bt_at a0 0;clear p6;have qi6:(0<(a0.size:Int))=True:=eq_true (of_decide_eq_true zd_);replace q6:=eq_true q6;have p8:0≤(0:Int):=(by omega);have q8:0<a0.size:=(by have:(0:Int)<(a0.size:Int):=of_decide_eq_true zd_;omega);have hx8:∀ h:0<a0.size,((a0[0]'h).toNat:Int)=bt a0 0:=bt_at a0 0;clear p8;have qi8:(0<(a0.size:Int))=True:=eq_true (of_decide_eq_true zd_);replace q8:=eq_true q8
      go_wp2
      go_meet
      case rel=>exact ⟨_,(true),zc_,H',⟨zce_⟩,⟨zb BK368.out⟩,⟨zeh_⟩⟩
     ·rw [if_neg c9] at H
      have c9b0:decide (52<(bt a0 0))=false:=decide_eq_false c9;clear c9
      by_cases c10:1<(a0.size:Int)
      ·rw [if_pos c10] at H
       have c10b0:=decide_eq_true c10;have c10b1:decide (1<a0.size)=true:=decide_eq_true (by omega);clear c10;have H':=aM H;clear H;have p6:0≤(0:Int):=(by omega);have q6:0<a0.size:=(by have:(0:Int)<(a0.size:Int):=of_decide_eq_true zd_;omega);have hx6:∀ h:0<a0.size,((a0[0]'h).toNat:Int)=bt a0 0:=bt_at a0 0;clear p6;have qi6:(0<(a0.size:Int))=True:=eq_true (of_decide_eq_true zd_);replace q6:=eq_true q6;have p8:0≤(0:Int):=(by omega);have q8:0<a0.size:=(by have:(0:Int)<(a0.size:Int):=of_decide_eq_true zd_;omega);have hx8:∀ h:0<a0.size,((a0[0]'h).toNat:Int)=bt a0 0:=bt_at a0 0;clear p8;have qi8:(0<(a0.size:Int))=True:=eq_true (of_decide_eq_true zd_);replace q8:=eq_true q8;have p11:0≤(1:Int):=(by omega);have q11:1<a0.size:=(by have:(1:Int)<(a0.size:Int):=of_decide_eq_true zd_;omega);have hx11:∀ h:1<a0.size,((a0[1]'h).toNat:Int)=bt a0 1:=bt_at a0 1;clear p11;have qi11:(1<(a0.size:Int))=True:=eq_true (of_decide_eq_true zd_);replace q11:=eq_true q11
       go_wp2
       go_meet
       case rel=>exact ⟨_,(((bt a0 1) != 58)),zc_,H',⟨zce_⟩,⟨zb BK368.out⟩,⟨zeh_⟩⟩
      ·rw [if_neg c10] at H
       exact q3n_ H
   ·rw [if_neg c5] at H
    exact q3n_ H
 case rest =>
  clear HC2;obtain ⟨kq,x23_1,rfl,HA,HJ1,BK368,HB⟩:=hcut
  cases kq with
  | zero=>exact absurd HA.out (by simp [impl_ParseTable.j0])
  | succ kj1 =>
   have H:=HA.out;clear HA
   simp only [impl_ParseTable.j0] at H
   by_cases c12:x23_1=true
   ·subst c12
    have H1:(some (0,([]:List Int),false))=some (r1,r2,r3):=by rw [if_pos rfl] at H;exact H
    clear H;have H:=H1;clear H1
    simp only [Option.some.injEq,Prod.mk.injEq] at H
    obtain ⟨rfl,rfl,rfl⟩:=H;obtain ⟨hcz13_0,hcz13_1,hfz13_0,hfz13_1⟩:=zk2 BK368.out
    go_wp2
    refine bodyPost_ret (results_ct rfl _ _ gb368 26 #[.int .i64 0,.slice none 0 0] (0,0) _ rfl (by refine zb ?_;refine blk_put (cs:=#[.int .i64 0,.slice none 0 0]) ?_ 1 _ rfl;refine zb ?_;refine blk_put (cs:=#[.int .i64 0,.slice none 0 0]) ?_ 0 _ rfl;refine zb ?_;exact BK368.out) Tryd.underlying26 rfl (by kernel_rfl)) rfl ?_
    exact ⟨_,zh_,zca_,zeh_⟩
   ·replace c12:=Bool.eq_false_iff.mpr c12
    subst c12;have H1:(if 0<(a0.size:Int) then (impl_ParseTable.l0 kj1 a0 2 (((bt a0 0) - 48) % 256) ([]:List Int)) else (none))=some (r1,r2,r3):=by rw [if_neg (show ¬ (false=true) by decide)] at H;exact H
    clear H;have H:=H1;clear H1
    by_cases c14:0<(a0.size:Int)
    ·rw [if_pos c14] at H
     have c14b0:=decide_eq_true c14;have c14b1:decide (0<a0.size)=true:=decide_eq_true (by omega);clear c14;have H':=aM H;clear H;have p15:0≤(0:Int):=(by omega);have q15:0<a0.size:=(by have:(0:Int)<(a0.size:Int):=of_decide_eq_true zd_;omega);have hx15:∀ h:0<a0.size,((a0[0]'h).toNat:Int)=bt a0 0:=bt_at a0 0;clear p15;have qi15:(0<(a0.size:Int))=True:=eq_true (of_decide_eq_true zd_);replace q15:=eq_true q15
     go_wp2_with (first | ((with_reducible refine gate_dst (N:=4) rfl ?_);refine box_event ?hg (N:=4) ?hd (cs:=#[.int .i64 0,.slice none 0 0]) (t:=26) ?hr ?_;(case hd=>rfl);(case hg=>rfl);(case hr=>exact zb_);intro gb369 hg w16 hbox hb;have n_:=z (blk_below (zb BK368.out) hb)<|z (below_step zeh_ hb)<|z (hbox)<|z ((by rw [hg];exact (below_size zeh_):w.heap.size≤gb369))<|z ((by rw [hg];exact (below_size zeh_):w.heap.size≤gb369))<|z ((by rw [hg];exact Nat.ne_of_lt (blk_lt (zb BK368.out)):gb368≠gb369))<|z1 ((by rw [hg];exact Nat.ne_of_gt (blk_lt (zb BK368.out)):gb369≠gb368));clear BK368 HB;obtain ⟨BK368,HB,BK369,GW369,GE369,NB368_369,NB369_368⟩:=n_;clear hb hbox hg;have hnb17:=NB369_368.out;have hnc17:=NB368_369.out;obtain ⟨hcz18_0,hcz18_1,hfz18_0,hfz18_1⟩:=zk2 BK369.out))
     go_loopg [5] kj1 (fun kq v5 w' => ∃ (x5_2:Int) (x370001_2:List Int) (u370001:Value),v5 = .int .i64 x5_2∧Aside0 (impl_ParseTable.l0 kq a0 x5_2 (((bt a0 0) - 48) % 256) x370001_2=some (r1,r2,r3))∧Aside0 (kq≤kj1)∧Aside0 (Kd.R (Kd.int .i64) 3 w' w.heap.size (fun _=>True) u370001 x370001_2)∧Aside0 (w'.heap[gb368]?=some (.cells #[.int .i64 0,(.slice none 0 0)] 26 (0,0)))∧Aside0 (w'.heap[gb369]?=some (.cells #[.int .i64 (((bt a0 0) - 48) % 256),u370001] 26 (0,0)))∧Aside0 (Below w.heap.size w w'))
     case atStart=>exact ⟨(2),(([]:List Int)),(.slice none 0 0),zc_,H',⟨Nat.le_refl _⟩,⟨zca_⟩,⟨by refine zb ?_;refine blk_far ?_ NB368_369.out _;refine zb ?_;refine blk_far ?_ NB368_369.out _;refine zb ?_;exact BK368.out⟩,⟨by refine zb ?_;refine blk_put (cs:=#[.int .i64 (((bt a0 0) - 48) % 256),.slice none 0 0]) ?_ 1 _ rfl;refine zb ?_;refine blk_put (cs:=#[.int .i64 0,.slice none 0 0]) ?_ 0 _ rfl;refine zb ?_;exact BK369.out⟩,⟨zei_⟩⟩
     case round =>
      clear H';(try clear c14b0);(try clear c14b1);(try clear q15);(try clear hx15);(try clear qi15);(try clear hcz18_0);(try clear hcz18_1);(try clear hfz18_0);(try clear hfz18_1);obtain ⟨x5_2,x370001_2,u370001,rfl,HA,HK2,HO_370001,BK368,BK369,HB⟩:=hrel
      cases gk with
      | zero=>exact absurd HA.out (by simp [impl_ParseTable.l0])
      | succ k2 =>
       have H:=HA.out;clear HA
       simp only [impl_ParseTable.l0] at H
       by_cases c19:x5_2<(a0.size:Int)
       ·rw [if_pos c19] at H
        have c19b0:=decide_eq_true c19;clear c19
        by_cases c20:0≤x5_2
        ·rw [if_pos c20] at H
         have c20b0:=decide_eq_true c20;clear c20
         by_cases c22:x370001_2.length<17592186044416
         ·rw [if_pos c22] at H
          have LMc22:=aM c22;clear c22;obtain ⟨y370,hy370⟩:∃ y_:List Int,y_=(x370001_2 ++ [wrap64 ((wrap64 (bt a0 x5_2)) - 48)]):=⟨_,rfl⟩;replace H:(impl_ParseTable.l0 k2 a0 (wrap64 (x5_2+1)) (((bt a0 0) - 48) % 256) y370)=some (r1,r2,r3):=q3y_ hy370 H
          have Ny370:=aM hy370;clear hy370;have H':=aM H;clear H;(try go_wp2);have n_:=z (kD HO_370001.out)<|z (blk_drew BK368.out)<|z (blk_drew BK369.out)<|z1 (p1 HB.out)
          clear HO_370001 BK368 BK369 HB;obtain ⟨HO_370001,BK368,BK369,HB⟩:=n_;have p21:0≤(x5_2:Int):=of_decide_eq_true zd_;have q21:x5_2<(a0.size:Int):=of_decide_eq_true zd_;have hx21:=bt_at a0 x5_2;replace p21:=eq_true p21;replace q21:=eq_true q21
          refine start_ (n:=11) (S:=fun w'=>w'.cell? ⟨gb369,0,none⟩=some (.int .i64 (((bt a0 0) - 48) % 256))∧w'.cell? ⟨gb369,1,none⟩=some (u370001)) (ds:=[10]) #[fi,fi,fi,fi,fi,fi,fi,fi,fi,fi,fi] (by kernel_rfl) rfl rfl ⟨(blk_cell BK369.out 0).trans rfl,(blk_cell BK369.out 1).trans rfl⟩ (fun hHeld=>?_);refine with_tabW impl_ParseTable.tab7 impl_ParseTable.bits7 (fun HT_ HW_=>?_)
          generalize wr.drew=w23 at HO_370001 BK368 BK369 HB hHeld ⊢;refine py_ 0 36 HT_.out ?_;refine py_ 2 38 HT_.out ?_;refine py_ 3 39 HT_.out ?_
          refine tw2_ 1 37 HT_.out HW_.out hHeld ?_
          refine tw2_ 4 40 HT_.out HW_.out hHeld ?_
          refine py_ 5 41 HT_.out ?_;refine py_ 6 42 HT_.out ?_
          refine one_ (i:=7) (N:=some 43) #[ti,ti,ti,ti,ti,ti,ti,ti,fi,fi,fi] rfl rfl (one_of HT_.out (by kernel_rfl)) (by decide) (fun K hK=>?_)
          refine value_ (w1:=?_) (v:=?_) (by rfl) rfl ?_ ?_
          rotate_left 2
          ·go_simp
           constructor
           ·rfl
           ·rfl
          refine hK.out _ _ ⟨(blk_cell (blk_alloc BK369.out _) 0).trans rfl,(blk_cell (blk_alloc BK369.out _) 1).trans rfl⟩ (fun hHeld=>?_)
          clear hK K
          refine nz_ 43 ?_
          refine one_ (i:=8) (N:=some 44) #[ti,ti,ti,ti,ti,ti,ti,ti,ti,fi,fi] rfl rfl (one_of HT_.out (by kernel_rfl)) (by decide) (fun K hK=>?_)
          refine Kd.R_append_step (Kd.int .i64) (w0:=w) w.heap.size (by rfl) (.tmp 37) (.tmp 43) 24 3 (.int .i64 0) 8 rfl Tryd.underlying24 info3 rfl (by decide) (by omega) u370001 x370001_2 (wrap64 ((wrap64 (bt a0 x5_2)) - 48)) [.int .i64 (wrap64 ((wrap64 (bt a0 x5_2)) - 48))] (fun _=>True) (fun _=>False) rfl rfl ?aP (fun _ hk=>hk.elim) ?aF ?aO ?aB ?aS ?aL ?_
          (case aP=>exact rfl)
          (case aB=>exact zei_)
          (case aF=>exact zdc_)
          (case aO=>exact (zr HO_370001.out))
          (case aS=>exact (below_size zei_))
          (case aL=>have:=LMc22.out;omega)
          intro v371 w24 ho hb hg hat
          rw [← Ny370.out] at ho;have n_:=z (blk_grown (g:=gb368) (o := .cells #[.int .i64 0,.slice none 0 0] 26 (0,0)) (zb BK368.out) hg (Kd.R_ne HO_370001.out BK368.out (by decide)))<|z (blk_grown (g:=gb369) (o := .cells #[.int .i64 (((bt a0 0) - 48) % 256),u370001] 26 (0,0)) (zb BK369.out) hg (Kd.R_ne HO_370001.out BK369.out (by decide)))<|z (hb)<|z1 (ho)
          clear BK368 BK369 HB HO_370001;obtain ⟨BK368,BK369,HB,HO372⟩:=n_;clear ho hb hg hat;obtain ⟨Ao25,co25,eo25⟩:=Kd.R_slice HO372.out;(first | subst eo25 | (injection eo25 with f1_ f2_ f3_;have f4_:=f1_.symm;have f5_:=f3_.symm;clear f1_ f2_ f3_;subst f4_;subst f5_))
          refine hK.out _ _ ⟨(blk_cell BK369.out 0).trans rfl,(blk_cell BK369.out 1).trans rfl⟩ (fun hHeld=>?_)
          clear hK K
          refine nz_ 44 ?_
          refine py_ 9 45 HT_.out ?_
          refine last_ (i:=10) (N:=none) #[ti,ti,ti,ti,ti,ti,ti,ti,ti,ti,ti] rfl rfl (one_of HT_.out (by kernel_rfl)) (by decide) (fun K hK=>?_)
          have hs26:w24.cell? ⟨gb369,1,none⟩=some (u370001):=(blk_cell BK369.out 1).trans rfl;have hfs26:=blk_frozen BK369.out 1;have hns26_0:=NB368_369.out;have hms26_0:=NB369_368.out
          refine skip_ (w1:=?_) (by rfl) rfl ?_ ?_
          rotate_left
          ·go_simp
           rfl
          refine hK.out _ _ ?_
          clear hK K
          refine done_ (done_of HT_.out (by kernel_rfl)) ?_
          (try go_wp2)
          go_roundg k2
          case measure=>have:=HJ1.out;have:=HK2.out;omega
          case rel=>exact ⟨(wrap64 (x5_2+1)),(y370),(.slice Ao25 y370.length co25),zc_,H',⟨by have:=HJ1.out;have:=HK2.out;omega⟩,⟨by refine zr ?_;exact Kd.R_mono (Kd.R_far (p:=⟨gb369,1,none⟩) (Kd.R_types HO372.out BK369.out (by decide)) (fun _ hk=>hk.2) (.slice Ao25 y370.length co25)) (fun _ hk=>trivial)⟩,⟨by refine zb ?_;refine blk_far ?_ NB368_369.out _;refine zb ?_;exact BK368.out⟩,⟨by refine zb ?_;refine blk_put (cs:=#[.int .i64 (((bt a0 0) - 48) % 256),u370001]) ?_ 1 _ rfl;refine zb ?_;exact BK369.out⟩,⟨zei_⟩⟩
         ·rw [if_neg c22] at H
          exact q3n_ H
        ·rw [if_neg c20] at H
         exact q3n_ H
       ·rw [if_neg c19] at H
        have c19b0:=decide_eq_false c19;clear c19;replace H:=oB.mp H;obtain ⟨t373,A270,H⟩:=H;replace H:(if t373=true then (some ((((bt a0 0) - 48) % 256),x370001_2,true)) else (some (0,([]:List Int),false)))=some (r1,r2,r3):=H;have A27:=aM A270;clear A270
        by_cases c28:t373=true
        ·subst c28
         have H1:(some ((((bt a0 0) - 48) % 256),x370001_2,true))=some (r1,r2,r3):=by rw [if_pos rfl] at H;exact H
         clear H;have H:=H1;clear H1
         simp only [Option.some.injEq,Prod.mk.injEq] at H
         obtain ⟨rfl,rfl,rfl⟩:=H;have hnb29:=NB369_368.out;have hnc29:=NB368_369.out;obtain ⟨hcz30_0,hcz30_1,hfz30_0,hfz30_1⟩:=zk2 BK369.out;obtain ⟨Ao31,co31,eo31⟩:=Kd.R_slice HO_370001.out;subst eo31
         go_wp2_with (first | ((with_reducible refine gate_callee (f:=10) rfl ?_);refine goesL_ (some 47) rfl rfl Tryd.func10 (by kernel_rfl) rfl #[.agg #[.int .i64 (((bt a0 0) - 48) % 256),.slice Ao31 x370001_2.length co31]] rfl ze_ ?_;(with_reducible refine (impl_IsTable.calls k2 (((bt a0 0) - 48) % 256) _ _ x370001_2 true _ ?side1 ?side2 A27.out).mono ?_);(case side1=>repeat (first | exact (Kd.R_reads' HO_370001.out).2.2 | (with_reducible refine cA ?_ _)|(with_reducible refine cN ?_ _)|(with_reducible refine cD ?_)));(case side2=>exact (Kd.R_reads' HO_370001.out).2.1);rintro e w32 ⟨rfl,hb⟩;refine ⟨_,rfl,?_⟩;have n_:=z (Kd.R_below (zr HO_370001.out) hb)<|z (blk_below (zb BK368.out) hb)<|z (blk_below (g:=gb369) (o := .cells #[.int .i64 (((bt a0 0) - 48) % 256),.slice Ao31 x370001_2.length co31] 26 (0,0)) (zb BK369.out) hb)<|z1 (below_step zei_ hb);clear HO_370001 BK368 BK369 HB;obtain ⟨HO_370001,BK368,BK369,HB⟩:=n_;clear hb;obtain ⟨hcz33_0,hcz33_1,hfz33_0,hfz33_1⟩:=zk2 BK369.out;obtain ⟨hcz34_0,hcz34_1,hfz34_0,hfz34_1⟩:=zk2 BK368.out))
         refine bodyPost_ret (results_ct rfl _ _ gb368 26 #[.int .i64 (((bt a0 0) - 48) % 256),.slice Ao31 x370001_2.length co31] (0,0) _ rfl (by refine zb ?_;refine blk_put (cs:=#[.int .i64 (((bt a0 0) - 48) % 256),.slice none 0 0]) ?_ 1 _ rfl;refine zb ?_;refine blk_put (cs:=#[.int .i64 0,.slice none 0 0]) ?_ 0 _ rfl;refine zb ?_;exact BK368.out) Tryd.underlying26 rfl (by kernel_rfl)) rfl ?_
         exact ⟨_,zh_,by refine zr ?_;exact Kd.R_mono (Kd.R_far (p:=⟨gb368,1,none⟩) (Kd.R_far (p:=⟨gb368,0,none⟩) (Kd.R_types HO_370001.out BK368.out (by decide)) (fun _ hk=>hk.2) (.int .i64 (((bt a0 0) - 48) % 256))) (fun _ hk=>hk.2) (.slice Ao31 x370001_2.length co31)) (fun _ hk=>trivial),zei_⟩
        ·replace c28:=Bool.eq_false_iff.mpr c28
         subst c28;have H1:(some (0,([]:List Int),false))=some (r1,r2,r3):=by rw [if_neg (show ¬ (false=true) by decide)] at H;exact H
         clear H;have H:=H1;clear H1
         simp only [Option.some.injEq,Prod.mk.injEq] at H
         obtain ⟨rfl,rfl,rfl⟩:=H;have hnb35:=NB369_368.out;have hnc35:=NB368_369.out;obtain ⟨hcz36_0,hcz36_1,hfz36_0,hfz36_1⟩:=zk2 BK369.out;obtain ⟨Ao37,co37,eo37⟩:=Kd.R_slice HO_370001.out;subst eo37
         go_wp2_with (first | ((with_reducible refine gate_callee (f:=10) rfl ?_);refine goesL_ (some 47) rfl rfl Tryd.func10 (by kernel_rfl) rfl #[.agg #[.int .i64 (((bt a0 0) - 48) % 256),.slice Ao37 x370001_2.length co37]] rfl ze_ ?_;(with_reducible refine (impl_IsTable.calls k2 (((bt a0 0) - 48) % 256) _ _ x370001_2 false _ ?side1 ?side2 A27.out).mono ?_);(case side1=>repeat (first | exact (Kd.R_reads' HO_370001.out).2.2 | (with_reducible refine cA ?_ _)|(with_reducible refine cN ?_ _)|(with_reducible refine cD ?_)));(case side2=>exact (Kd.R_reads' HO_370001.out).2.1);rintro e w38 ⟨rfl,hb⟩;refine ⟨_,rfl,?_⟩;have n_:=z (Kd.R_below (zr HO_370001.out) hb)<|z (blk_below (zb BK368.out) hb)<|z (blk_below (g:=gb369) (o := .cells #[.int .i64 (((bt a0 0) - 48) % 256),.slice Ao37 x370001_2.length co37] 26 (0,0)) (zb BK369.out) hb)<|z1 (below_step zei_ hb);clear HO_370001 BK368 BK369 HB;obtain ⟨HO_370001,BK368,BK369,HB⟩:=n_;clear hb;obtain ⟨hcz39_0,hcz39_1,hfz39_0,hfz39_1⟩:=zk2 BK368.out))
         refine bodyPost_ret (results_ct rfl _ _ gb368 26 #[.int .i64 0,.slice none 0 0] (0,0) _ rfl (by refine zb ?_;refine blk_put (cs:=#[.int .i64 0,.slice none 0 0]) ?_ 1 _ rfl;refine zb ?_;refine blk_put (cs:=#[.int .i64 0,.slice none 0 0]) ?_ 0 _ rfl;refine zb ?_;exact BK368.out) Tryd.underlying26 rfl (by kernel_rfl)) rfl ?_
         exact ⟨_,zh_,zca_,zei_⟩
    ·rw [if_neg c14] at H
     exact q3n_ H
def spec_l1Split.l0:Nat→ByteArray→Int→List ByteArray→Int→Int→Option (List ByteArray)
 | 0,_,_,_,_,_=>none
 | k+1,x0,x1,x5,x6,x7=>if x7<(x0.size:Int) then (if 0≤x7 then (if (bt x0 x7)=x1 then (if 0≤x6 then (if x6≤x7 then (if x7≤(x0.size:Int) then (if x5.length<8796093022208 then (spec_l1Split.l0 k x0 x1 (x5 ++ [x0.extract (x6:Int).toNat (x7:Int).toNat]) (wrap64 (x7+1)) (wrap64 (x7+1))) else (none)) else (none)) else (none)) else (none)) else (spec_l1Split.l0 k x0 x1 x5 x6 (wrap64 (x7+1)))) else (none)) else (if 0≤x6 then (if x6≤(x0.size:Int) then (if x5.length<8796093022208 then (some (x5 ++ [x0.extract (x6:Int).toNat x0.size])) else (none)) else (none)) else (none))
def spec_l1Split.f (k:Nat) (a0:ByteArray) (a1:Int):Option (List ByteArray):=spec_l1Split.l0 k a0 a1 ([]:List ByteArray) 0 0
theorem spec_l1Split.calls (k:Nat) (a0:ByteArray) (a1:Int) (r:List ByteArray) (w:World) (h:spec_l1Split.f k a0 a1=some r) :
  Calls Tryd.prog 95 #[.string a0,.int .u8 a1] w fun e w' => ∃ v0_:Value,e = .returned (v0_)∧Kd.R Kd.string 9 w' w.heap.size (fun _=>True) v0_ r∧Below w.heap.size w w':=by
 have HB:=aM (Below.refl w.heap.size w)
 have H:(spec_l1Split.l0 k a0 a1 ([]:List ByteArray) 0 0)=some r:=h
 clear h
 have H':=aM H
 clear H
 go_enter Tryd.func95,Tryd.ntmps95
 go_wp2
 go_loopg [5,6,7] k (fun kq v5 v6 v7 w' => ∃ (x5_1:List ByteArray) (x6_1:Int) (x7_1:Int),v6 = .int .i64 x6_1∧v7 = .int .i64 x7_1∧Aside0 (spec_l1Split.l0 kq a0 a1 x5_1 x6_1 x7_1=some r)∧Aside0 (kq≤k)∧Aside0 (Kd.R Kd.string 9 w' w.heap.size (fun _=>True) v5 x5_1)∧Aside0 (Below w.heap.size w w'))
 case atStart=>exact ⟨(([]:List ByteArray)),(0),(0),zc_,zc_,H',⟨Nat.le_refl _⟩,⟨zca_⟩,⟨za_⟩⟩
 case round =>
  clear H';obtain ⟨x5_1,x6_1,x7_1,rfl,rfl,HA,HK1,HO_5,HB⟩:=hrel
  cases gk with
  | zero=>exact absurd HA.out (by simp [spec_l1Split.l0])
  | succ k1 =>
   have H:=HA.out;clear HA
   simp only [spec_l1Split.l0] at H
   by_cases c3:x7_1<(a0.size:Int)
   ·rw [if_pos c3] at H
    have c3b0:=decide_eq_true c3;clear c3
    by_cases c4:0≤x7_1
    ·rw [if_pos c4] at H
     have c4b0:=decide_eq_true c4;clear c4
     by_cases c6:(bt a0 x7_1)=a1
     ·rw [if_pos c6] at H
      have c6b0:=beq_iff_eq.mpr c6;have c6b1:=bne_eq_false_iff_eq.mpr c6;clear c6
      by_cases c7:0≤x6_1
      ·rw [if_pos c7] at H
       have c7b0:=eq_true c7;have c7b1:=decide_eq_true c7;clear c7
       by_cases c8:x6_1≤x7_1
       ·rw [if_pos c8] at H
        have c8b0:=eq_true c8;have c8b1:=decide_eq_true c8;clear c8
        by_cases c9:x7_1≤(a0.size:Int)
        ·rw [if_pos c9] at H
         have c9b0:=eq_true c9;have c9b1:=decide_eq_true c9;clear c9
         by_cases c10:x5_1.length<8796093022208
         ·rw [if_pos c10] at H
          have LMc10:=aM c10;clear c10;obtain ⟨y374,hy374⟩:∃ y_:List ByteArray,y_=(x5_1 ++ [a0.extract (x6_1:Int).toNat (x7_1:Int).toNat]):=⟨_,rfl⟩;replace H:(spec_l1Split.l0 k1 a0 a1 y374 (wrap64 (x7_1+1)) (wrap64 (x7_1+1)))=some r:=q3y_ hy374 H
          have Ny374:=aM hy374;clear hy374;have H':=aM H;clear H;have p5:0≤(x7_1:Int):=of_decide_eq_true zd_;have q5:x7_1<(a0.size:Int):=of_decide_eq_true zd_;have hx5:=bt_at a0 x7_1;replace p5:=eq_true p5;replace q5:=eq_true q5
          go_wp2_with (first | ((with_reducible refine gate_builtin (b := .append) (xs:=#[.tmp 19,.tmp 24]) rfl ?_);at_builtin;refine Kd.R_append Kd.string (w0:=w) w.heap.size rfl (.tmp 19) (.tmp 24) 93 9 (.string ⟨#[]⟩) 16 rfl Tryd.underlying93 info9 rfl (by decide) (by omega) u5 x5_1 (a0.extract (x6_1:Int).toNat (x7_1:Int).toNat) [.string (a0.extract (x6_1:Int).toNat (x7_1:Int).toNat)] (fun _=>True) (fun _=>False) rfl rfl ?aP (fun _ hk=>hk.elim) ?aF ?aO ?aB ?aS ?aL ?_;(case aP=>exact rfl);(case aB=>exact zbai_);(case aF=>exact zdc_);(case aO=>exact (zr HO_5.out));(case aS=>exact zbaj_);(case aL=>have:=LMc10.out;omega);intro v375 w11 ho hb hg hat;rw [← Ny374.out] at ho;have n_:=z (hb)<|z1 (ho);clear HB HO_5;obtain ⟨HB,HO376⟩:=n_;clear ho hb hg hat))
          go_roundg k1
          case measure=>have:=HK1.out;omega
          case rel=>exact ⟨(y374),(wrap64 (x7_1+1)),(wrap64 (x7_1+1)),zc_,zc_,H',⟨zcc_⟩,⟨zr HO376.out⟩,⟨za_⟩⟩
         ·rw [if_neg c10] at H
          exact q3n_ H
        ·rw [if_neg c9] at H
         exact q3n_ H
       ·rw [if_neg c8] at H
        exact q3n_ H
      ·rw [if_neg c7] at H
       exact q3n_ H
     ·rw [if_neg c6] at H
      have c6b0:=beq_eq_false_iff_ne.mpr c6;have c6b1:=bne_iff_ne.mpr c6;have H':=aM H;clear H;have p5:0≤(x7_1:Int):=of_decide_eq_true zd_;have q5:x7_1<(a0.size:Int):=of_decide_eq_true zd_;have hx5:=bt_at a0 x7_1;replace p5:=eq_true p5;replace q5:=eq_true q5
      go_wp2
      go_roundg k1
      case measure=>have:=HK1.out;omega
      case rel=>exact ⟨(x5_1),(x6_1),(wrap64 (x7_1+1)),zc_,zc_,H',⟨zcc_⟩,⟨zr HO_5.out⟩,⟨za_⟩⟩
    ·rw [if_neg c4] at H
     exact q3n_ H
   ·rw [if_neg c3] at H
    have c3b0:=decide_eq_false c3;clear c3
    by_cases c12:0≤x6_1
    ·rw [if_pos c12] at H
     have c12b0:=eq_true c12;have c12b1:=decide_eq_true c12;clear c12
     by_cases c13:x6_1≤(a0.size:Int)
     ·rw [if_pos c13] at H
      have c13b0:=eq_true c13;have c13b1:=decide_eq_true c13;clear c13
      by_cases c14:x5_1.length<8796093022208
      ·rw [if_pos c14] at H
       have LMc14:=aM c14;clear c14;obtain ⟨y377,hy377⟩:∃ y_:List ByteArray,y_=(x5_1 ++ [a0.extract (x6_1:Int).toNat a0.size]):=⟨_,rfl⟩;replace H:(some y377)=some r:=q3y_ hy377 H
       have Ny377:=aM hy377;clear hy377;obtain rfl:=Option.some.inj H
       go_wp2_with (first | ((with_reducible refine gate_builtin (b := .append) (xs:=#[.tmp 28,.tmp 32]) rfl ?_);at_builtin;refine Kd.R_append Kd.string (w0:=w) w.heap.size rfl (.tmp 28) (.tmp 32) 93 9 (.string ⟨#[]⟩) 16 rfl Tryd.underlying93 info9 rfl (by decide) (by omega) u5 x5_1 (a0.extract (x6_1:Int).toNat a0.size) [.string (a0.extract (x6_1:Int).toNat a0.size)] (fun _=>True) (fun _=>False) rfl rfl ?aP (fun _ hk=>hk.elim) ?aF ?aO ?aB ?aS ?aL ?_;(case aP=>exact rfl);(case aB=>exact zbai_);(case aF=>exact zdc_);(case aO=>exact (zr HO_5.out));(case aS=>exact zbaj_);(case aL=>have:=LMc14.out;omega);intro v378 w15 ho hb hg hat;rw [← Ny377.out] at ho;have n_:=z (hb)<|z1 (ho);clear HB HO_5;obtain ⟨HB,HO379⟩:=n_;clear ho hb hg hat))
       go_ret
       exact ⟨_,zh_,by refine zr ?_;exact HO379.out,za_⟩
      ·rw [if_neg c14] at H
       exact q3n_ H
     ·rw [if_neg c13] at H
      exact q3n_ H
    ·rw [if_neg c12] at H
     exact q3n_ H
mutual
def spec_l1Read.j0:Nat→ByteArray→Bool→Option (Int)
 | 0,_,_=>none
 | k+1,x0,x18=>if x18=true then (some (-1)) else (spec_l1Read.l0 k x0 0 0)
def spec_l1Read.l0:Nat→ByteArray→Int→Int→Option (Int)
 | 0,_,_,_=>none
 | k+1,x0,x3,x4=>if x4<(x0.size:Int) then (if 0≤x4 then (if (bt x0 x4)<48 then (some (-1)) else (if (bt x0 x4)>57 then (some (-1)) else (spec_l1Read.l0 k x0 (wrap64 ((wrap64 (10 * x3))+(((bt x0 x4) - 48) % 256))) (wrap64 (x4+1))))) else (none)) else (some x3)
end
def spec_l1Read.f (k:Nat) (a0:ByteArray):Option (Int):=(spec_l1In.f (a0.size:Int) 1 6).bind fun t380=>(if t380=true then (if 0<(a0.size:Int) then (if (bt a0 0)=48 then (spec_l1Read.j0 k a0 (decide ((a0.size:Int)>1))) else (spec_l1Read.j0 k a0 false)) else (none)) else (spec_l1Read.j0 k a0 true))
theorem spec_l1Read.calls (k:Nat) (a0:ByteArray) (r:Int) (w:World) (h:spec_l1Read.f k a0=some r) :
  Calls Tryd.prog 96 #[.string a0] w fun e w'=>e = .returned (.int .i64 r)∧Drawn0 w w':=by
 have H:((spec_l1In.f (a0.size:Int) 1 6).bind fun t380=>(if t380=true then (if 0<(a0.size:Int) then (if (bt a0 0)=48 then (spec_l1Read.j0 k a0 (decide ((a0.size:Int)>1))) else (spec_l1Read.j0 k a0 false)) else (none)) else (spec_l1Read.j0 k a0 true)))=some r:=h
 clear h
 have HC2:=aM H
 clear H
 go_enter Tryd.func96,Tryd.ntmps96
 go_upto_region 1 with (fail)
 go_cut [18] (fun v18 wc => ∃ (kq:Nat) (x18_1:Bool),v18 = .bool x18_1∧Aside0 (spec_l1Read.j0 kq a0 x18_1=some r)∧Aside0 (kq≤k)∧Drawn0 w wc)
 case first =>
  have H:=HC2.out;clear HC2;replace H:=oB.mp H;obtain ⟨t380,A30,H⟩:=H;replace H:(if t380=true then (if 0<(a0.size:Int) then (if (bt a0 0)=48 then (spec_l1Read.j0 k a0 (decide ((a0.size:Int)>1))) else (spec_l1Read.j0 k a0 false)) else (none)) else (spec_l1Read.j0 k a0 true))=some r:=H;have A3:=aM A30;clear A30
  by_cases c4:t380=true
  ·subst c4
   have H1:(if 0<(a0.size:Int) then (if (bt a0 0)=48 then (spec_l1Read.j0 k a0 (decide ((a0.size:Int)>1))) else (spec_l1Read.j0 k a0 false)) else (none))=some r:=by rw [if_pos rfl] at H;exact H
   clear H;have H:=H1;clear H1
   by_cases c5:0<(a0.size:Int)
   ·rw [if_pos c5] at H
    have c5b0:=decide_eq_true c5;have c5b1:decide (0<a0.size)=true:=decide_eq_true (by omega);clear c5;(first | rw [c5b0]|(simp only [i64_w,i32_w];rw [c5b0]) | skip)
    by_cases c7:(bt a0 0)=48
    ·rw [if_pos c7] at H
     have c7b0:=beq_iff_eq.mpr c7;have c7b1:=bne_eq_false_iff_eq.mpr c7;clear c7;have H':=aM H;clear H
     go_wp2_with (first | ((with_reducible refine gate_callee (f:=76) rfl ?_);refine goesL_ (some 7) rfl rfl Tryd.func76 (by kernel_rfl) rfl #[.int .i64 (a0.size:Int),.int .i64 1,.int .i64 6] rfl ze_ ?_;(with_reducible refine (spec_l1In.calls (a0.size:Int) 1 6 true _ A3.out).mono ?_);rintro e w' ⟨rfl,⟨nd,rfl⟩⟩;refine ⟨_,rfl,?_⟩;have p6:0≤(0:Int):=(by omega);have q6:0<a0.size:=(by have:(0:Int)<(a0.size:Int):=of_decide_eq_true zd_;omega);have hx6:∀ h:0<a0.size,((a0[0]'h).toNat:Int)=bt a0 0:=bt_at a0 0;clear p6;have qi6:(0<(a0.size:Int))=True:=eq_true (of_decide_eq_true zd_);replace q6:=eq_true q6))
     go_meet
     case rel=>exact ⟨_,(decide ((a0.size:Int)>1)),zc_,H',⟨zce_⟩,zj_⟩
    ·rw [if_neg c7] at H
     have c7b0:=beq_eq_false_iff_ne.mpr c7;have c7b1:=bne_iff_ne.mpr c7;have H':=aM H;clear H
     go_wp2_with (first | ((with_reducible refine gate_callee (f:=76) rfl ?_);refine goesL_ (some 7) rfl rfl Tryd.func76 (by kernel_rfl) rfl #[.int .i64 (a0.size:Int),.int .i64 1,.int .i64 6] rfl ze_ ?_;(with_reducible refine (spec_l1In.calls (a0.size:Int) 1 6 true _ A3.out).mono ?_);rintro e w' ⟨rfl,⟨nd,rfl⟩⟩;refine ⟨_,rfl,?_⟩;have p6:0≤(0:Int):=(by omega);have q6:0<a0.size:=(by have:(0:Int)<(a0.size:Int):=of_decide_eq_true zd_;omega);have hx6:∀ h:0<a0.size,((a0[0]'h).toNat:Int)=bt a0 0:=bt_at a0 0;clear p6;have qi6:(0<(a0.size:Int))=True:=eq_true (of_decide_eq_true zd_);replace q6:=eq_true q6))
     go_meet
     case rel=>exact ⟨_,(false),zc_,H',⟨zce_⟩,zj_⟩
   ·rw [if_neg c5] at H
    exact q3n_ H
  ·replace c4:=Bool.eq_false_iff.mpr c4
   subst c4;have H1:(spec_l1Read.j0 k a0 true)=some r:=by rw [if_neg (show ¬ (false=true) by decide)] at H;exact H
   clear H;have H:=H1;clear H1;have H':=aM H;clear H
   go_wp2_with (first | ((with_reducible refine gate_callee (f:=76) rfl ?_);refine goesL_ (some 7) rfl rfl Tryd.func76 (by kernel_rfl) rfl #[.int .i64 (a0.size:Int),.int .i64 1,.int .i64 6] rfl ze_ ?_;(with_reducible refine (spec_l1In.calls (a0.size:Int) 1 6 false _ A3.out).mono ?_);rintro e w' ⟨rfl,⟨nd,rfl⟩⟩;refine ⟨_,rfl,?_⟩))
   go_meet
   case rel=>exact ⟨_,(true),zc_,H',⟨zce_⟩,zj_⟩
 case rest =>
  clear HC2;obtain ⟨kq,x18_1,rfl,HA,HJ1,⟨mc1,rfl⟩⟩:=hcut
  cases kq with
  | zero=>exact absurd HA.out (by simp [spec_l1Read.j0])
  | succ kj1 =>
   have H:=HA.out;clear HA
   simp only [spec_l1Read.j0] at H
   by_cases c8:x18_1=true
   ·subst c8
    have H1:(some (-1))=some r:=by rw [if_pos rfl] at H;exact H
    clear H;have H:=H1;clear H1;obtain rfl:=Option.some.inj H
    go_wp2
    go_ret
    exact ⟨zc_,zj_⟩
   ·replace c8:=Bool.eq_false_iff.mpr c8
    subst c8;have H1:(spec_l1Read.l0 kj1 a0 0 0)=some r:=by rw [if_neg (show ¬ (false=true) by decide)] at H;exact H
    clear H;have H:=H1;clear H1;have H':=aM H;clear H
    go_wp2
    go_loopg [3,4] kj1 (fun kq v3 v4 w' => ∃ (x3_2:Int) (x4_2:Int),v3 = .int .i64 x3_2∧v4 = .int .i64 x4_2∧Aside0 (spec_l1Read.l0 kq a0 x3_2 x4_2=some r)∧Aside0 (kq≤kj1)∧Drawn0 w w')
    case atStart=>exact ⟨(0),(0),zc_,zc_,H',⟨Nat.le_refl _⟩,zj_⟩
    case round =>
     clear H';obtain ⟨x3_2,x4_2,rfl,rfl,HA,HK2,⟨m2,rfl⟩⟩:=hrel
     cases gk with
     | zero=>exact absurd HA.out (by simp [spec_l1Read.l0])
     | succ k2 =>
      have H:=HA.out;clear HA
      simp only [spec_l1Read.l0] at H
      by_cases c9:x4_2<(a0.size:Int)
      ·rw [if_pos c9] at H
       have c9b0:=decide_eq_true c9;clear c9
       by_cases c10:0≤x4_2
       ·rw [if_pos c10] at H
        have c10b0:=decide_eq_true c10;clear c10
        by_cases c12:(bt a0 x4_2)<48
        ·rw [if_pos c12] at H
         have c12b0:=decide_eq_true c12;clear c12;obtain rfl:=Option.some.inj H;have p11:0≤(x4_2:Int):=of_decide_eq_true zd_;have q11:x4_2<(a0.size:Int):=of_decide_eq_true zd_;have hx11:=bt_at a0 x4_2;replace p11:=eq_true p11;replace q11:=eq_true q11
         go_wp2
         go_ret
         exact ⟨zc_,zj_⟩
        ·rw [if_neg c12] at H
         have c12b0:=decide_eq_false c12;clear c12
         by_cases c14:(bt a0 x4_2)>57
         ·rw [if_pos c14] at H
          have c14b0:decide (57<(bt a0 x4_2))=true:=decide_eq_true c14;clear c14;obtain rfl:=Option.some.inj H;have p11:0≤(x4_2:Int):=of_decide_eq_true zd_;have q11:x4_2<(a0.size:Int):=of_decide_eq_true zd_;have hx11:=bt_at a0 x4_2;replace p11:=eq_true p11;replace q11:=eq_true q11;have p13:0≤(x4_2:Int):=of_decide_eq_true zd_;have q13:x4_2<(a0.size:Int):=of_decide_eq_true zd_;have hx13:=bt_at a0 x4_2;replace p13:=eq_true p13;replace q13:=eq_true q13
          go_wp2
          go_ret
          exact ⟨zc_,zj_⟩
         ·rw [if_neg c14] at H
          have c14b0:decide (57<(bt a0 x4_2))=false:=decide_eq_false c14;clear c14;have H':=aM H;clear H;have p11:0≤(x4_2:Int):=of_decide_eq_true zd_;have q11:x4_2<(a0.size:Int):=of_decide_eq_true zd_;have hx11:=bt_at a0 x4_2;replace p11:=eq_true p11;replace q11:=eq_true q11;have p13:0≤(x4_2:Int):=of_decide_eq_true zd_;have q13:x4_2<(a0.size:Int):=of_decide_eq_true zd_;have hx13:=bt_at a0 x4_2;replace p13:=eq_true p13;replace q13:=eq_true q13;have p15:0≤(x4_2:Int):=of_decide_eq_true zd_;have q15:x4_2<(a0.size:Int):=of_decide_eq_true zd_;have hx15:=bt_at a0 x4_2;replace p15:=eq_true p15;replace q15:=eq_true q15
          go_wp2
          go_roundg k2
          case measure=>have:=HJ1.out;have:=HK2.out;omega
          case rel=>exact ⟨(wrap64 ((wrap64 (10 * x3_2))+(((bt a0 x4_2) - 48) % 256))),(wrap64 (x4_2+1)),zc_,zc_,H',⟨by have:=HJ1.out;have:=HK2.out;omega⟩,zj_⟩
       ·rw [if_neg c10] at H
        exact q3n_ H
      ·rw [if_neg c9] at H
       have c9b0:=decide_eq_false c9;clear c9;obtain rfl:=Option.some.inj H
       go_wp2
       go_ret
       exact ⟨zc_,zj_⟩
mutual
def spec_ttParse.j0:Nat→ByteArray→List ByteArray→Bool→Option (Int×List Int×Bool)
 | 0,_,_,_=>none
 | k+1,x0,x4,x18=>if x18=true then (some (0,([]:List Int),false)) else (if 0<(x4.length:Int) then ((spec_l1Read.f k (rdOf ByteArray.empty x4 0)).bind fun t387=>(spec_ttParse.l0 k x0 x4 0 t387 ([]:List Int))) else (none))
def spec_ttParse.l0:Nat→ByteArray→List ByteArray→Int→Int→List Int→Option (Int×List Int×Bool)
 | 0,_,_,_,_,_=>none
 | k+1,x0,x4,x6,x389000,x389001=>if 1<(x4.length:Int) then (if x6<((rdOf ByteArray.empty x4 1).size:Int) then (if 0≤x6 then (if x389001.length<17592186044416 then (spec_ttParse.l0 k x0 x4 (wrap64 (x6+1)) x389000 (x389001 ++ [wrap64 ((wrap64 (bt (rdOf ByteArray.empty x4 1) x6)) - 48)])) else (none)) else (none)) else ((spec_ttGood.f k x389000 x389001).bind fun t394=>(if t394=true then ((spec_ttText.f k x389000 x389001).bind fun t395=>(if t395.toList=x0.toList then (some (x389000,x389001,true)) else (some (0,([]:List Int),false)))) else (some (0,([]:List Int),false))))) else (none)
end
def spec_ttParse.f (k:Nat) (a0:ByteArray):Option (Int×List Int×Bool):=(spec_l1Split.f k a0 58).bind fun t382=>(if (t382.length:Int)=2 then (if 1<(t382.length:Int) then (spec_ttParse.j0 k a0 t382 (decide (((rdOf ByteArray.empty t382 1).size:Int)>16))) else (none)) else (spec_ttParse.j0 k a0 t382 true))
def spec_ttParse.T8:Bool×List (List Nat×List Nat):=(true,[([],[]),([0],[0]),([],[]),([2],[2]),([3],[3]),([],[]),([4,5],[4,5]),([6],[6]),([7],[7]),([8],[8]),([1,9],[1,9]),([0,1,2,3,4,5,6,7,8,9,10],[]),([11,10,10,0,1,2,3,4,5,6,7,8,9,10],[10,11])])
def spec_ttParse.B8:List Nat:=[0,1,0,4,12,0,60,124,252,508,1023,2047,4095]
theorem spec_ttParse.tab8:rtab .any (opsOf Tryd.f81 8)=spec_ttParse.T8:=by kernel_rfl
theorem spec_ttParse.bits8:waitsOk spec_ttParse.T8.2 spec_ttParse.B8=true:=by kernel_rfl
theorem spec_ttParse.calls (k:Nat) (a0:ByteArray) (r1:Int) (r2:List Int) (r3:Bool) (w:World) (h:spec_ttParse.f k a0=some (r1,r2,r3)) :
  Calls Tryd.prog 81 #[.string a0] w fun e w' => ∃ v1_:Value,e = .returned (.tuple #[.agg #[.int .i64 r1,v1_],.bool r3])∧Kd.R (Kd.int .i64) 3 w' w.heap.size (fun _=>True) v1_ r2∧Below w.heap.size w w':=by
 have hu26:=Tryd.underlying26
 have HB:=aM (Below.refl w.heap.size w)
 have H:((spec_l1Split.f k a0 58).bind fun t382=>(if (t382.length:Int)=2 then (if 1<(t382.length:Int) then (spec_ttParse.j0 k a0 t382 (decide (((rdOf ByteArray.empty t382 1).size:Int)>16))) else (none)) else (spec_ttParse.j0 k a0 t382 true)))=some (r1,r2,r3):=h
 clear h
 replace H:=oB.mp H
 obtain ⟨t382,A20,H⟩:=H
 replace H:(if (t382.length:Int)=2 then (if 1<(t382.length:Int) then (spec_ttParse.j0 k a0 t382 (decide (((rdOf ByteArray.empty t382 1).size:Int)>16))) else (none)) else (spec_ttParse.j0 k a0 t382 true))=some (r1,r2,r3):=H
 have A2:=aM A20
 clear A20
 have HC3:=aM H
 clear H
 go_enter Tryd.func81,Tryd.ntmps81
 go_upto_region 2 with (first | ((with_reducible refine gate_dst (N:=2) rfl ?_);(try (refine gate_guard (by rfl) ?_;dsimp only));refine box_event ?hg (N:=2) ?hd (cs:=#[.int .i64 0,.slice none 0 0]) (t:=26) ?hr ?_;(case hd=>rfl);(case hg=>rfl);(case hr=>exact zb_);intro gb381 hg w4 hbox hb;have n_:=z (below_step za_ hb)<|z (hbox)<|z ((by rw [hg];exact (below_size za_):w.heap.size≤gb381))<|z1 ((by rw [hg];exact (below_size za_):w.heap.size≤gb381));clear HB;obtain ⟨HB,BK381,GW381,GE381⟩:=n_;clear hb hbox hg)|((with_reducible refine gate_callee (f:=95) rfl ?_);refine goesL_ (some 8) rfl rfl Tryd.func95 (by kernel_rfl) rfl #[.string a0,.int .u8 58] rfl ze_ ?_;(with_reducible refine (spec_l1Split.calls k a0 58 t382 _ A2.out).mono ?_);rintro e w5 ⟨v383,rfl,ho0,hb⟩;refine ⟨_,rfl,?_⟩;have n_:=z (Kd.R_lower ho0 (below_size zed_))<|z (blk_below (zb BK381.out) hb)<|z1 (below_step zed_ hb);clear BK381 HB;obtain ⟨HO384,BK381,HB⟩:=n_;clear hb;(try clear ho0)))
 (try simp only [Act.put,sI,s0,sS])
 go_cut [18] (fun v18 wc => ∃ (kq:Nat) (x18_2:Bool),v18 = .bool x18_2∧Aside0 (spec_ttParse.j0 kq a0 t382 x18_2=some (r1,r2,r3))∧Aside0 (kq≤k)∧Aside0 (Kd.R Kd.string 9 wc w.heap.size (fun _=>True) v383 t382)∧Aside0 (wc.heap[gb381]?=some (.cells #[.int .i64 0,(.slice none 0 0)] 26 (0,0)))∧Aside0 (Below w.heap.size w wc))
 case first =>
  have H:=HC3.out;clear HC3
  by_cases c6:(t382.length:Int)=2
  ·rw [if_pos c6] at H
   have c6b0:=beq_iff_eq.mpr c6;have c6b1:=bne_eq_false_iff_eq.mpr c6;clear c6;(first | rw [c6b0]|(simp only [i64_w,i32_w];rw [c6b0]) | skip)
   by_cases c7:1<(t382.length:Int)
   ·rw [if_pos c7] at H
    have c7b0:=decide_eq_true c7;have c7b1:decide (1<t382.length)=true:=decide_eq_true (by omega);clear c7;have H':=aM H;clear H;obtain ⟨Ao8,co8,eo8⟩:=Kd.R_slice HO384.out;subst eo8;have p385:0≤(1:Int):=(by omega);have q385:1<(t382.length:Int):=of_decide_eq_true zd_;obtain ⟨ad385,e385,hx385_0⟩:=Kd.at_string (Kd.R_reads' HO384.out).2.2 1 p385 q385
    cases e385
    (try simp only [show (1:Int).toNat=1 from rfl,Nat.reduceMul,Nat.reduceEqDiff,Go.Addr.add,↓reduceIte] at hx385_0);have qi385:(1<t382.length)=True:=eq_true (by omega);(try rw [show ((1:Int)).toNat=1 from rfl] at hx385_0);replace p385:=eq_true p385;replace q385:=eq_true q385
    go_wp2
    go_meet
    case rel=>exact ⟨_,(decide (((rdOf ByteArray.empty t382 1).size:Int)>16)),zc_,H',⟨zce_⟩,⟨zr HO384.out⟩,⟨zb BK381.out⟩,⟨zed_⟩⟩
   ·rw [if_neg c7] at H
    exact q3n_ H
  ·rw [if_neg c6] at H
   have c6b0:=beq_eq_false_iff_ne.mpr c6;have c6b1:=bne_iff_ne.mpr c6;(first | rw [c6b0]|(simp only [i64_w,i32_w];rw [c6b0]) | skip);have H':=aM H;clear H;obtain ⟨Ao9,co9,eo9⟩:=Kd.R_slice HO384.out;subst eo9
   go_wp2
   go_meet
   case rel=>exact ⟨_,(true),zc_,H',⟨zce_⟩,⟨zr HO384.out⟩,⟨zb BK381.out⟩,⟨zed_⟩⟩
 case rest =>
  clear HC3;obtain ⟨kq,x18_2,rfl,HA,HJ2,HO_4,BK381,HB⟩:=hcut
  cases kq with
  | zero=>exact absurd HA.out (by simp [spec_ttParse.j0])
  | succ kj2 =>
   have H:=HA.out;clear HA
   simp only [spec_ttParse.j0] at H
   by_cases c10:x18_2=true
   ·subst c10
    have H1:(some (0,([]:List Int),false))=some (r1,r2,r3):=by rw [if_pos rfl] at H;exact H
    clear H;have H:=H1;clear H1
    simp only [Option.some.injEq,Prod.mk.injEq] at H
    obtain ⟨rfl,rfl,rfl⟩:=H;obtain ⟨hcz11_0,hcz11_1,hfz11_0,hfz11_1⟩:=zk2 BK381.out
    go_wp2
    refine bodyPost_ret (results_ct rfl _ _ gb381 26 #[.int .i64 0,.slice none 0 0] (0,0) _ rfl zbbg_ Tryd.underlying26 rfl (by kernel_rfl)) rfl ?_
    exact ⟨_,zh_,zca_,zed_⟩
   ·replace c10:=Bool.eq_false_iff.mpr c10
    subst c10;have H1:(if 0<(t382.length:Int) then ((spec_l1Read.f kj2 (rdOf ByteArray.empty t382 0)).bind fun t387=>(spec_ttParse.l0 kj2 a0 t382 0 t387 ([]:List Int))) else (none))=some (r1,r2,r3):=by rw [if_neg (show ¬ (false=true) by decide)] at H;exact H
    clear H;have H:=H1;clear H1
    by_cases c12:0<(t382.length:Int)
    ·rw [if_pos c12] at H
     have c12b0:=decide_eq_true c12;have c12b1:decide (0<t382.length)=true:=decide_eq_true (by omega);clear c12;replace H:=oB.mp H;obtain ⟨t387,A130,H⟩:=H;replace H:(spec_ttParse.l0 kj2 a0 t382 0 t387 ([]:List Int))=some (r1,r2,r3):=H;have A13:=aM A130;clear A130;have H':=aM H;clear H;obtain ⟨Ao14,co14,eo14⟩:=Kd.R_slice HO_4.out;subst eo14;have p386:0≤(0:Int):=(by omega);have q386:0<(t382.length:Int):=of_decide_eq_true zd_;obtain ⟨ad386,e386,hx386_0⟩:=Kd.at_string (Kd.R_reads' HO_4.out).2.2 0 p386 q386
     cases e386
     have qi386:(0<t382.length)=True:=eq_true (by omega);(try rw [show ((0:Int)).toNat=0 from rfl] at hx386_0);(try rw [Addr.add_zero'] at hx386_0);replace p386:=eq_true p386;replace q386:=eq_true q386
     go_wp2_with (first | ((with_reducible refine gate_callee (f:=96) rfl ?_);refine goesL_ (some 23) rfl rfl Tryd.func96 (by kernel_rfl) rfl #[.string (rdOf ByteArray.empty t382 0)] rfl ze_ ?_;(with_reducible refine (spec_l1Read.calls kj2 (rdOf ByteArray.empty t382 0) t387 _ A13.out).mono ?_);rintro e w' ⟨rfl,⟨nd,rfl⟩⟩;refine ⟨_,rfl,?_⟩;(try (rw [drewN_self wc];generalize hq_:World.drewN wc _=wc;have n0_:Aside0 (Kd.R Kd.string 9 wc w.heap.size (fun _=>True) (.slice (some ad386) t382.length co14) t382):=⟨by rw [← hq_];exact (zr HO_4.out)⟩;have n1_:Aside0 (wc.heap[gb381]?=some (.cells #[.int .i64 0,.slice none 0 0] 26 (0,0))):=⟨by rw [← hq_];exact (zb BK381.out)⟩;have n2_:Aside0 (Below w.heap.size w wc):=⟨by rw [← hq_];exact zed_⟩;clear HO_4 BK381 HB hq_;have HO_4:=n0_;have BK381:=n1_;have HB:=n2_;clear n0_ n1_ n2_)))|((with_reducible refine gate_dst (N:=5) rfl ?_);(try (refine gate_guard (by rfl) ?_;dsimp only));refine box_event ?hg (N:=5) ?hd (cs:=#[.int .i64 0,.slice none 0 0]) (t:=26) ?hr ?_;(case hd=>rfl);(case hg=>rfl);(case hr=>exact zb_);intro gb388 hg w15 hbox hb;have n_:=z (Kd.R_below (zr HO_4.out) hb)<|z (blk_below (zb BK381.out) hb)<|z (below_step zed_ hb)<|z (hbox)<|z ((by rw [hg];exact (below_size zed_):w.heap.size≤gb388))<|z ((by rw [hg];exact (below_size zed_):w.heap.size≤gb388))<|z ((by rw [hg];exact Nat.ne_of_lt (blk_lt (zb BK381.out)):gb381≠gb388))<|z1 ((by rw [hg];exact Nat.ne_of_gt (blk_lt (zb BK381.out)):gb388≠gb381));clear HO_4 BK381 HB;obtain ⟨HO_4,BK381,HB,BK388,GW388,GE388,NB381_388,NB388_381⟩:=n_;clear hb hbox hg;have hnb16:=NB388_381.out;have hnc16:=NB381_388.out;obtain ⟨hcz17_0,hcz17_1,hfz17_0,hfz17_1⟩:=zk2 BK388.out))
     go_loopg [6] kj2 (fun kq v6 w' => ∃ (x6_2:Int) (x389001_2:List Int) (u389001:Value),v6 = .int .i64 x6_2∧Aside0 (spec_ttParse.l0 kq a0 t382 x6_2 t387 x389001_2=some (r1,r2,r3))∧Aside0 (kq≤kj2)∧Aside0 (Kd.R Kd.string 9 w' w.heap.size (fun _=>True) (.slice (some ad386) t382.length co14) t382)∧Aside0 (Kd.R (Kd.int .i64) 3 w' w.heap.size (fun _=>True) u389001 x389001_2)∧Aside0 (w'.heap[gb381]?=some (.cells #[.int .i64 0,(.slice none 0 0)] 26 (0,0)))∧Aside0 (w'.heap[gb388]?=some (.cells #[.int .i64 t387,u389001] 26 (0,0)))∧Aside0 (Below w.heap.size w w'))
     case atStart=>exact ⟨(0),(([]:List Int)),(.slice none 0 0),zc_,H',⟨Nat.le_refl _⟩,⟨by refine zr ?_;exact Kd.R_mono (Kd.R_far (p:=⟨gb388,1,none⟩) (Kd.R_far (p:=⟨gb388,0,none⟩) (Kd.R_types HO_4.out BK388.out (by decide)) (fun _ hk=>hk.2) (.int .i64 t387)) (fun _ hk=>hk.2) (.slice none 0 0)) (fun _ hk=>trivial)⟩,⟨zca_⟩,⟨by refine zb ?_;refine blk_far ?_ NB381_388.out _;refine zb ?_;refine blk_far ?_ NB381_388.out _;refine zb ?_;exact BK381.out⟩,⟨by refine zb ?_;refine blk_put (cs:=#[.int .i64 t387,.slice none 0 0]) ?_ 1 _ rfl;refine zb ?_;refine blk_put (cs:=#[.int .i64 0,.slice none 0 0]) ?_ 0 _ rfl;refine zb ?_;exact BK388.out⟩,⟨zdd_⟩⟩
     case round =>
      clear H';(try clear c12b0);(try clear c12b1);(try clear hcz17_0);(try clear hcz17_1);(try clear hfz17_0);(try clear hfz17_1);(try clear hx386_0);(try clear p386);(try clear q386);obtain ⟨x6_2,x389001_2,u389001,rfl,HA,HK2,HO_4,HO_389001,BK381,BK388,HB⟩:=hrel
      cases gk with
      | zero=>exact absurd HA.out (by simp [spec_ttParse.l0])
      | succ k2 =>
       have H:=HA.out;clear HA
       simp only [spec_ttParse.l0] at H
       by_cases c18:1<(t382.length:Int)
       ·rw [if_pos c18] at H
        have c18b0:=decide_eq_true c18;have c18b1:decide (1<t382.length)=true:=decide_eq_true (by omega);clear c18
        by_cases c19:x6_2<((rdOf ByteArray.empty t382 1).size:Int)
        ·rw [if_pos c19] at H
         have c19b0:=decide_eq_true c19;clear c19
         by_cases c20:0≤x6_2
         ·rw [if_pos c20] at H
          have c20b0:=decide_eq_true c20;clear c20
          by_cases c22:x389001_2.length<17592186044416
          ·rw [if_pos c22] at H
           have LMc22:=aM c22;clear c22;obtain ⟨y391,hy391⟩:∃ y_:List Int,y_=(x389001_2 ++ [wrap64 ((wrap64 (bt (rdOf ByteArray.empty t382 1) x6_2)) - 48)]):=⟨_,rfl⟩;replace H:(spec_ttParse.l0 k2 a0 t382 (wrap64 (x6_2+1)) t387 y391)=some (r1,r2,r3):=q3y_ hy391 H
           have Ny391:=aM hy391;clear hy391;have H':=aM H;clear H;have p389:0≤(1:Int):=(by omega);have q389:1<(t382.length:Int):=of_decide_eq_true zd_;obtain ⟨ad389,e389,hx389_0⟩:=Kd.at_string (Kd.R_reads' HO_4.out).2.2 1 p389 q389;obtain rfl:ad386=ad389:=(by injection e389);(try simp only [show (1:Int).toNat=1 from rfl,Nat.reduceMul,Nat.reduceEqDiff,Go.Addr.add,↓reduceIte] at hx389_0);have qi389:(1<t382.length)=True:=eq_true (by omega);(try rw [show ((1:Int)).toNat=1 from rfl] at hx389_0);replace p389:=eq_true p389;replace q389:=eq_true q389;(try go_wp2);have n_:=z (kD HO_4.out)<|z (kD HO_389001.out)<|z (blk_drew BK381.out)<|z (blk_drew BK388.out)<|z1 (p1 HB.out)
           clear HO_4 HO_389001 BK381 BK388 HB;obtain ⟨HO_4,HO_389001,BK381,BK388,HB⟩:=n_;have p390:0≤(1:Int):=(by omega);have q390:1<(t382.length:Int):=of_decide_eq_true zd_;obtain ⟨ad390,e390,hx390_0⟩:=Kd.at_string (Kd.R_reads' HO_4.out).2.2 1 p390 q390;obtain rfl:ad386=ad390:=(by injection e390);(try simp only [show (1:Int).toNat=1 from rfl,Nat.reduceMul,Nat.reduceEqDiff,Go.Addr.add,↓reduceIte] at hx390_0);have qi390:(1<t382.length)=True:=eq_true (by omega);(try rw [show ((1:Int)).toNat=1 from rfl] at hx390_0);replace p390:=eq_true p390;replace q390:=eq_true q390;have p21:0≤(x6_2:Int):=of_decide_eq_true zd_;have q21:x6_2<((rdOf ByteArray.empty t382 1).size:Int):=of_decide_eq_true zd_;have hx21:=bt_at (rdOf ByteArray.empty t382 1) x6_2;replace p21:=eq_true p21;replace q21:=eq_true q21
           refine start_ (n:=13) (S:=fun w'=>w'.cell? ⟨gb388,0,none⟩=some (.int .i64 t387)∧w'.cell? ⟨gb388,1,none⟩=some (u389001)∧w'.cell? ⟨ad386.block,ad386.off+1,none⟩=some (.string (rdOf ByteArray.empty t382 1))) (ds:=[10,12]) #[fi,fi,fi,fi,fi,fi,fi,fi,fi,fi,fi,fi,fi] (by kernel_rfl) rfl rfl ⟨(blk_cell BK388.out 0).trans rfl,(blk_cell BK388.out 1).trans rfl,hx390_0⟩ (fun hHeld=>?_);refine with_tabW spec_ttParse.tab8 spec_ttParse.bits8 (fun HT_ HW_=>?_)
           generalize wr.drew=w23 at HO_4 HO_389001 BK381 BK388 HB hx390_0 hHeld ⊢;refine py_ 0 33 HT_.out ?_;refine py_ 2 35 HT_.out ?_;refine py_ 3 36 HT_.out ?_;refine py_ 5 38 HT_.out ?_
           refine tw3_ 1 34 HT_.out HW_.out hHeld ?_
           refine tw3_ 4 37 HT_.out HW_.out hHeld ?_
           refine tw3_ 6 39 HT_.out HW_.out hHeld ?_
           refine py_ 7 40 HT_.out ?_;refine py_ 8 41 HT_.out ?_
           refine one_ (i:=9) (N:=some 42) #[ti,ti,ti,ti,ti,ti,ti,ti,ti,ti,fi,fi,fi] rfl rfl (one_of HT_.out (by kernel_rfl)) (by decide) (fun K hK=>?_)
           refine value_ (w1:=?_) (v:=?_) (by rfl) rfl ?_ ?_
           rotate_left 2
           ·go_simp
            constructor
            ·rfl
            ·rfl
           refine hK.out _ _ ⟨(blk_cell (blk_alloc BK388.out _) 0).trans rfl,(blk_cell (blk_alloc BK388.out _) 1).trans rfl,(World.cell?_alloc_lt _ _ _ (World.block_lt_of_cell? _ _ (hHeld.2.2))).trans (hHeld.2.2)⟩ (fun hHeld=>?_)
           clear hK K
           refine nz_ 42 ?_
           refine last_ (i:=10) (N:=some 43) #[ti,ti,ti,ti,ti,ti,ti,ti,ti,ti,ti,fi,fi] rfl rfl (one_of HT_.out (by kernel_rfl)) (by decide) (fun K hK=>?_)
           refine Kd.R_append_step (Kd.int .i64) (w0:=w) w.heap.size (by rfl) (.tmp 34) (.tmp 42) 24 3 (.int .i64 0) 8 rfl Tryd.underlying24 info3 rfl (by decide) (by omega) u389001 x389001_2 (wrap64 ((wrap64 (bt (rdOf ByteArray.empty t382 1) x6_2)) - 48)) [.int .i64 (wrap64 ((wrap64 (bt (rdOf ByteArray.empty t382 1) x6_2)) - 48))] (fun _=>True) (fun _=>False) rfl rfl ?aP (fun _ hk=>hk.elim) ?aF ?aO ?aB ?aS ?aL ?_
           (case aP=>exact rfl)
           (case aB=>exact zdd_)
           (case aF=>exact zdc_)
           (case aO=>exact (zr HO_389001.out))
           (case aS=>exact (below_size zdd_))
           (case aL=>have:=LMc22.out;omega)
           intro v392 w24 ho hb hg hat
           rw [← Ny391.out] at ho;have n_:=z (Kd.R_over' (zr HO_4.out) (Kd.R_typed (zr HO_389001.out)) (by decide) hg)<|z (blk_grown (g:=gb381) (o := .cells #[.int .i64 0,.slice none 0 0] 26 (0,0)) (zb BK381.out) hg (Kd.R_ne HO_389001.out BK381.out (by decide)))<|z (blk_grown (g:=gb388) (o := .cells #[.int .i64 t387,u389001] 26 (0,0)) (zb BK388.out) hg (Kd.R_ne HO_389001.out BK388.out (by decide)))<|z (hb)<|z1 (ho)
           clear HO_4 BK381 BK388 HB HO_389001;obtain ⟨HO_4,BK381,BK388,HB,HO393⟩:=n_;clear ho hb hg hat;obtain ⟨Ao25,co25,eo25⟩:=Kd.R_slice HO393.out;(first | subst eo25 | (injection eo25 with f1_ f2_ f3_;have f4_:=f1_.symm;have f5_:=f3_.symm;clear f1_ f2_ f3_;subst f4_;subst f5_))
           refine hK.out _ _ ?_
           clear hK K
           refine nz_ 43 ?_
           refine py_ 11 44 HT_.out ?_
           refine last_ (i:=12) (N:=none) #[ti,ti,ti,ti,ti,ti,ti,ti,ti,ti,ti,ti,ti] rfl rfl (one_of HT_.out (by kernel_rfl)) (by decide) (fun K hK=>?_)
           have hs26:w24.cell? ⟨gb388,1,none⟩=some (u389001):=(blk_cell BK388.out 1).trans rfl;have hfs26:=blk_frozen BK388.out 1;have hns26_0:=NB381_388.out;have hms26_0:=NB388_381.out
           refine skip_ (w1:=?_) (by rfl) rfl ?_ ?_
           rotate_left
           ·go_simp
            rfl
           refine hK.out _ _ ?_
           clear hK K
           refine done_ (done_of HT_.out (by kernel_rfl)) ?_
           (try go_wp2)
           go_roundg k2
           case measure=>have:=HJ2.out;have:=HK2.out;omega
           case rel=>exact ⟨(wrap64 (x6_2+1)),(y391),(.slice Ao25 y391.length co25),zc_,H',⟨by have:=HJ2.out;have:=HK2.out;omega⟩,⟨by refine zr ?_;exact Kd.R_mono (Kd.R_far (p:=⟨gb388,1,none⟩) (Kd.R_types HO_4.out BK388.out (by decide)) (fun _ hk=>hk.2) (.slice Ao25 y391.length co25)) (fun _ hk=>trivial)⟩,⟨by refine zr ?_;exact Kd.R_mono (Kd.R_far (p:=⟨gb388,1,none⟩) (Kd.R_types HO393.out BK388.out (by decide)) (fun _ hk=>hk.2) (.slice Ao25 y391.length co25)) (fun _ hk=>trivial)⟩,⟨by refine zb ?_;refine blk_far ?_ NB381_388.out _;refine zb ?_;exact BK381.out⟩,⟨by refine zb ?_;refine blk_put (cs:=#[.int .i64 t387,u389001]) ?_ 1 _ rfl;refine zb ?_;exact BK388.out⟩,⟨zdd_⟩⟩
          ·rw [if_neg c22] at H
           exact q3n_ H
         ·rw [if_neg c20] at H
          exact q3n_ H
        ·rw [if_neg c19] at H
         have c19b0:=decide_eq_false c19;clear c19;replace H:=oB.mp H;obtain ⟨t394,A270,H⟩:=H;replace H:(if t394=true then ((spec_ttText.f k2 t387 x389001_2).bind fun t395=>(if t395.toList=a0.toList then (some (t387,x389001_2,true)) else (some (0,([]:List Int),false)))) else (some (0,([]:List Int),false)))=some (r1,r2,r3):=H;have A27:=aM A270;clear A270
         by_cases c28:t394=true
         ·subst c28
          have H1:((spec_ttText.f k2 t387 x389001_2).bind fun t395=>(if t395.toList=a0.toList then (some (t387,x389001_2,true)) else (some (0,([]:List Int),false))))=some (r1,r2,r3):=by rw [if_pos rfl] at H;exact H
          clear H;have H:=H1;clear H1;replace H:=oB.mp H;obtain ⟨t395,A290,H⟩:=H;replace H:(if t395.toList=a0.toList then (some (t387,x389001_2,true)) else (some (0,([]:List Int),false)))=some (r1,r2,r3):=H;have A29:=aM A290;clear A290
          by_cases c30:t395.toList=a0.toList
          ·rw [if_pos c30] at H
           have c30b0:=beq_iff_eq.mpr c30;have c30b1:=bne_eq_false_iff_eq.mpr c30;clear c30
           simp only [Option.some.injEq,Prod.mk.injEq] at H
           obtain ⟨rfl,rfl,rfl⟩:=H;have p389:0≤(1:Int):=(by omega);have q389:1<(t382.length:Int):=of_decide_eq_true zd_;obtain ⟨ad389,e389,hx389_0⟩:=Kd.at_string (Kd.R_reads' HO_4.out).2.2 1 p389 q389;obtain rfl:ad386=ad389:=(by injection e389);(try simp only [show (1:Int).toNat=1 from rfl,Nat.reduceMul,Nat.reduceEqDiff,Go.Addr.add,↓reduceIte] at hx389_0);have qi389:(1<t382.length)=True:=eq_true (by omega);(try rw [show ((1:Int)).toNat=1 from rfl] at hx389_0);replace p389:=eq_true p389;replace q389:=eq_true q389;have hnb31:=NB388_381.out;have hnc31:=NB381_388.out;obtain ⟨hcz32_0,hcz32_1,hfz32_0,hfz32_1⟩:=zk2 BK388.out;obtain ⟨Ao33,co33,eo33⟩:=Kd.R_slice HO_389001.out;subst eo33
           go_wp2_with (first | ((with_reducible refine gate_callee (f:=50) rfl ?_);refine goesL_ (some 46) rfl rfl Tryd.func50 (by kernel_rfl) rfl #[.agg #[.int .i64 t387,.slice Ao33 x389001_2.length co33]] rfl ze_ ?_;(with_reducible refine (spec_ttGood.calls k2 t387 _ _ x389001_2 true _ ?side1 ?side2 A27.out).mono ?_);(case side1=>exact zia_);(case side2=>exact zib_);rintro e w34 ⟨rfl,hb⟩;refine ⟨_,rfl,?_⟩;have n_:=z (Kd.R_below (zr HO_4.out) hb)<|z (Kd.R_below (zr HO_389001.out) hb)<|z (blk_below (zb BK381.out) hb)<|z (blk_below (zb BK388.out) hb)<|z1 (below_step zdd_ hb);clear HO_4 HO_389001 BK381 BK388 HB;obtain ⟨HO_4,HO_389001,BK381,BK388,HB⟩:=n_;clear hb;obtain ⟨hcz35_0,hcz35_1,hfz35_0,hfz35_1⟩:=zk2 BK388.out)|(go_at_call 72;(with_reducible refine (spec_ttText.calls k2 t387 _ _ x389001_2 t395 _ ?side1 ?side2 A29.out).mono ?_);(case side1=>exact zia_);(case side2=>exact zib_);rintro e w36 ⟨rfl,hb⟩;have n_:=z (Kd.R_below (zr HO_4.out) hb)<|z (Kd.R_below (zr HO_389001.out) hb)<|z (blk_below (zb BK381.out) hb)<|z (blk_below (zb BK388.out) hb)<|z1 (below_step zdd_ hb);clear HO_4 HO_389001 BK381 BK388 HB;obtain ⟨HO_4,HO_389001,BK381,BK388,HB⟩:=n_;clear hb;obtain ⟨hcz37_0,hcz37_1,hfz37_0,hfz37_1⟩:=zk2 BK388.out;obtain ⟨hcz38_0,hcz38_1,hfz38_0,hfz38_1⟩:=zk2 BK381.out))
           refine bodyPost_ret (results_ct rfl _ _ gb381 26 #[.int .i64 t387,.slice Ao33 x389001_2.length co33] (0,0) _ rfl (by refine zb ?_;refine blk_put (cs:=#[.int .i64 t387,.slice none 0 0]) ?_ 1 _ rfl;refine zb ?_;refine blk_put (cs:=#[.int .i64 0,.slice none 0 0]) ?_ 0 _ rfl;refine zb ?_;exact BK381.out) Tryd.underlying26 rfl (by kernel_rfl)) rfl ?_
           exact ⟨_,zh_,by refine zr ?_;exact Kd.R_mono (Kd.R_far (p:=⟨gb381,1,none⟩) (Kd.R_far (p:=⟨gb381,0,none⟩) (Kd.R_types HO_389001.out BK381.out (by decide)) (fun _ hk=>hk.2) (.int .i64 t387)) (fun _ hk=>hk.2) (.slice Ao33 x389001_2.length co33)) (fun _ hk=>trivial),zdd_⟩
          ·rw [if_neg c30] at H
           have c30b0:=beq_eq_false_iff_ne.mpr c30;have c30b1:=bne_iff_ne.mpr c30
           simp only [Option.some.injEq,Prod.mk.injEq] at H
           obtain ⟨rfl,rfl,rfl⟩:=H;have p389:0≤(1:Int):=(by omega);have q389:1<(t382.length:Int):=of_decide_eq_true zd_;obtain ⟨ad389,e389,hx389_0⟩:=Kd.at_string (Kd.R_reads' HO_4.out).2.2 1 p389 q389;obtain rfl:ad386=ad389:=(by injection e389);(try simp only [show (1:Int).toNat=1 from rfl,Nat.reduceMul,Nat.reduceEqDiff,Go.Addr.add,↓reduceIte] at hx389_0);have qi389:(1<t382.length)=True:=eq_true (by omega);(try rw [show ((1:Int)).toNat=1 from rfl] at hx389_0);replace p389:=eq_true p389;replace q389:=eq_true q389;have hnb39:=NB388_381.out;have hnc39:=NB381_388.out;obtain ⟨hcz40_0,hcz40_1,hfz40_0,hfz40_1⟩:=zk2 BK388.out;obtain ⟨Ao41,co41,eo41⟩:=Kd.R_slice HO_389001.out;subst eo41
           go_wp2_with (first | ((with_reducible refine gate_callee (f:=50) rfl ?_);refine goesL_ (some 46) rfl rfl Tryd.func50 (by kernel_rfl) rfl #[.agg #[.int .i64 t387,.slice Ao41 x389001_2.length co41]] rfl ze_ ?_;(with_reducible refine (spec_ttGood.calls k2 t387 _ _ x389001_2 true _ ?side1 ?side2 A27.out).mono ?_);(case side1=>exact zia_);(case side2=>exact zib_);rintro e w42 ⟨rfl,hb⟩;refine ⟨_,rfl,?_⟩;have n_:=z (Kd.R_below (zr HO_4.out) hb)<|z (Kd.R_below (zr HO_389001.out) hb)<|z (blk_below (zb BK381.out) hb)<|z (blk_below (zb BK388.out) hb)<|z1 (below_step zdd_ hb);clear HO_4 HO_389001 BK381 BK388 HB;obtain ⟨HO_4,HO_389001,BK381,BK388,HB⟩:=n_;clear hb;obtain ⟨hcz43_0,hcz43_1,hfz43_0,hfz43_1⟩:=zk2 BK388.out)|(go_at_call 72;(with_reducible refine (spec_ttText.calls k2 t387 _ _ x389001_2 t395 _ ?side1 ?side2 A29.out).mono ?_);(case side1=>exact zia_);(case side2=>exact zib_);rintro e w44 ⟨rfl,hb⟩;have n_:=z (Kd.R_below (zr HO_4.out) hb)<|z (Kd.R_below (zr HO_389001.out) hb)<|z (blk_below (zb BK381.out) hb)<|z (blk_below (zb BK388.out) hb)<|z1 (below_step zdd_ hb);clear HO_4 HO_389001 BK381 BK388 HB;obtain ⟨HO_4,HO_389001,BK381,BK388,HB⟩:=n_;clear hb;obtain ⟨hcz45_0,hcz45_1,hfz45_0,hfz45_1⟩:=zk2 BK381.out))
           refine bodyPost_ret (results_ct rfl _ _ gb381 26 #[.int .i64 0,.slice none 0 0] (0,0) _ rfl zbbg_ Tryd.underlying26 rfl (by kernel_rfl)) rfl ?_
           exact ⟨_,zh_,zca_,zdd_⟩
         ·replace c28:=Bool.eq_false_iff.mpr c28
          subst c28;have H1:(some (0,([]:List Int),false))=some (r1,r2,r3):=by rw [if_neg (show ¬ (false=true) by decide)] at H;exact H
          clear H;have H:=H1;clear H1
          simp only [Option.some.injEq,Prod.mk.injEq] at H
          obtain ⟨rfl,rfl,rfl⟩:=H;have p389:0≤(1:Int):=(by omega);have q389:1<(t382.length:Int):=of_decide_eq_true zd_;obtain ⟨ad389,e389,hx389_0⟩:=Kd.at_string (Kd.R_reads' HO_4.out).2.2 1 p389 q389;obtain rfl:ad386=ad389:=(by injection e389);(try simp only [show (1:Int).toNat=1 from rfl,Nat.reduceMul,Nat.reduceEqDiff,Go.Addr.add,↓reduceIte] at hx389_0);have qi389:(1<t382.length)=True:=eq_true (by omega);(try rw [show ((1:Int)).toNat=1 from rfl] at hx389_0);replace p389:=eq_true p389;replace q389:=eq_true q389;have hnb46:=NB388_381.out;have hnc46:=NB381_388.out;obtain ⟨hcz47_0,hcz47_1,hfz47_0,hfz47_1⟩:=zk2 BK388.out;obtain ⟨Ao48,co48,eo48⟩:=Kd.R_slice HO_389001.out;subst eo48
          go_wp2_with (first | ((with_reducible refine gate_callee (f:=50) rfl ?_);refine goesL_ (some 46) rfl rfl Tryd.func50 (by kernel_rfl) rfl #[.agg #[.int .i64 t387,.slice Ao48 x389001_2.length co48]] rfl ze_ ?_;(with_reducible refine (spec_ttGood.calls k2 t387 _ _ x389001_2 false _ ?side1 ?side2 A27.out).mono ?_);(case side1=>exact zia_);(case side2=>exact zib_);rintro e w49 ⟨rfl,hb⟩;refine ⟨_,rfl,?_⟩;have n_:=z (Kd.R_below (zr HO_4.out) hb)<|z (Kd.R_below (zr HO_389001.out) hb)<|z (blk_below (zb BK381.out) hb)<|z (blk_below (zb BK388.out) hb)<|z1 (below_step zdd_ hb);clear HO_4 HO_389001 BK381 BK388 HB;obtain ⟨HO_4,HO_389001,BK381,BK388,HB⟩:=n_;clear hb;obtain ⟨hcz50_0,hcz50_1,hfz50_0,hfz50_1⟩:=zk2 BK381.out))
          refine bodyPost_ret (results_ct rfl _ _ gb381 26 #[.int .i64 0,.slice none 0 0] (0,0) _ rfl zbbg_ Tryd.underlying26 rfl (by kernel_rfl)) rfl ?_
          exact ⟨_,zh_,zca_,zdd_⟩
       ·rw [if_neg c18] at H
        exact q3n_ H
    ·rw [if_neg c12] at H
     exact q3n_ H
def spec_ParseTable.f (k:Nat) (a0:ByteArray):Option (Int×List Int×Bool):=(spec_ttParse.f k a0).bind fun bt397=>(some (bt397.1,bt397.2.1,bt397.2.2))
theorem spec_ParseTable.calls (k:Nat) (a0:ByteArray) (r1:Int) (r2:List Int) (r3:Bool) (w:World) (h:spec_ParseTable.f k a0=some (r1,r2,r3)) :
  Calls Tryd.prog 42 #[.string a0] w fun e w' => ∃ v1_:Value,e = .returned (.tuple #[.agg #[.int .i64 r1,v1_],.bool r3])∧Kd.R (Kd.int .i64) 3 w' w.heap.size (fun _=>True) v1_ r2∧Below w.heap.size w w':=by
 have hu26:=Tryd.underlying26
 have HB:=aM (Below.refl w.heap.size w)
 have H:((spec_ttParse.f k a0).bind fun bt397=>(some (bt397.1,bt397.2.1,bt397.2.2)))=some (r1,r2,r3):=h
 clear h
 replace H:=oB.mp H
 obtain ⟨⟨t397,t398,t401⟩,A20,H⟩:=H
 replace H:(some (t397,t398,t401))=some (r1,r2,r3):=H
 have A2:=aM A20
 clear A20
 simp only [Option.some.injEq,Prod.mk.injEq] at H
 obtain ⟨rfl,rfl,rfl⟩:=H
 go_enter Tryd.func42,Tryd.ntmps42
 go_wp2_with (first | ((with_reducible refine gate_dst (N:=2) rfl ?_);refine box_event ?hg (N:=2) ?hd (cs:=#[.int .i64 0,.slice none 0 0]) (t:=26) ?hr ?_;(case hd=>rfl);(case hg=>rfl);(case hr=>exact zb_);intro gb396 hg w3 hbox hb;have n_:=z (below_step za_ hb)<|z (hbox)<|z ((by rw [hg];exact (below_size za_):w.heap.size≤gb396))<|z1 ((by rw [hg];exact (below_size za_):w.heap.size≤gb396));clear HB;obtain ⟨HB,BK396,GW396,GE396⟩:=n_;clear hb hbox hg)|((with_reducible refine gate_callee (f:=81) rfl ?_);refine goesL_ (some 5) rfl rfl Tryd.func81 (by kernel_rfl) rfl #[.string a0] rfl ze_ ?_;(with_reducible refine (spec_ttParse.calls k a0 t397 t398 t401 _ A2.out).mono ?_);rintro e w4 ⟨v399,rfl,ho0,hb⟩;refine ⟨_,rfl,?_⟩;have n_:=z (Kd.R_lower ho0 (below_size zbbh_))<|z (blk_below (zb BK396.out) hb)<|z1 (below_step zbbh_ hb);clear BK396 HB;obtain ⟨HO400,BK396,HB⟩:=n_;clear hb;(try clear ho0);obtain ⟨hcz5_0,hcz5_1,hfz5_0,hfz5_1⟩:=zk2 BK396.out;obtain ⟨Ao6,co6,eo6⟩:=Kd.R_slice HO400.out;subst eo6))
 refine bodyPost_ret (results_ct rfl _ _ gb396 26 #[.int .i64 t397,.slice Ao6 t398.length co6] (0,0) _ rfl (by refine zb ?_;refine blk_put (cs:=#[.int .i64 t397,.slice none 0 0]) ?_ 1 _ rfl;refine zb ?_;refine blk_put (cs:=#[.int .i64 0,.slice none 0 0]) ?_ 0 _ rfl;refine zb ?_;exact BK396.out) Tryd.underlying26 rfl (by kernel_rfl)) rfl ?_
 exact ⟨_,zh_,by refine zr ?_;exact Kd.R_mono (Kd.R_far (p:=⟨gb396,1,none⟩) (Kd.R_far (p:=⟨gb396,0,none⟩) (Kd.R_types HO400.out BK396.out (by decide)) (fun _ hk=>hk.2) (.int .i64 t397)) (fun _ hk=>hk.2) (.slice Ao6 t398.length co6)) (fun _ hk=>trivial),zbbh_⟩
end Go.Proofs.YtlnhpkjioppbiaaDoor.QFnTables
