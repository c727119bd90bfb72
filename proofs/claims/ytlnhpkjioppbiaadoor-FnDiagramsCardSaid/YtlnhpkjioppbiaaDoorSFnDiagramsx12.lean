/- Functions of FnDiagrams, each as a Lean function, with the proof that the Go code comes to its answers. -/
import Derived.Test.YtlnhpkjioppbiaaDoorSFnDiagramsx2
import Derived.Test.YtlnhpkjioppbiaaDoorSFnDiagramsx3
import Derived.Test.YtlnhpkjioppbiaaDoorSFnDiagramsx5
import Derived.Test.YtlnhpkjioppbiaaDoorSFnDiagramsx8
import Derived.Test.YtlnhpkjioppbiaaDoorSFnDiagramsx10
namespace Go.Proofs.YtlnhpkjioppbiaaDoor.QFnDiagrams
open Go.RowKit Go.Proofs.YtlnhpkjioppbiaaDoorW.PrintWords Go.Proofs.YtlnhpkjioppbiaaDoorW.PrintLast Go.Proofs.YtlnhpkjioppbiaaDoorW.PrintMore
open Go.Proofs.YtlnhpkjioppbiaaDoorW.PrintWords renaming pw_below_drewN→pN,below_drew1→p1,below_alloc→pA
open Go.Proofs.YtlnhpkjioppbiaaDoorW.PrintWords.Kd renaming R_alloc→kA,R_drewN→kN,R_drew→kD,Q_alloc→qA,Q_drewN→qN,Q_drew→qD,C_alloc→cA,C_drewN→cN,C_drew→cD
open Go.Proofs.YtlnhpkjioppbiaaDoorW.PrintWords.Aside0 renaming mk→aM
open List renaming setIfInBounds_toArray→sI,set_cons_zero→s0,set_cons_succ→sS,map_toArray→mT,length_take→lT,length_drop→lD,map_cons→mC,map_nil→mN
open Option renaming bind_eq_some_iff→oB,bind_some→oS
attribute [local go_sem] max2_int min2_int max_two min_two max_three min_three max_four min_four
set_option maxHeartbeats 8000000
set_option maxRecDepth 100000
set_option linter.unusedVariables false
set_option linter.unusedSimpArgs false
def spec_l1Put.l0:Nat→List Int→Int→Int→Option (List Int)
 | 0,_,_,_=>none
 | k+1,x0,x1,x5=>if x5<(x0.length:Int) then (if 0≤x5 then (if (rd x0 x5)<x1 then (spec_l1Put.l0 k x0 x1 (wrap64 (x5+1))) else (if (rd x0 x5)=x1 then (some x0) else ((some (([]:List Int):List Int)).bind fun y270=>(if x5≤(x0.length:Int) then ((some (x0.take (x5:Int).toNat:List Int)).bind fun y273=>(if y270.length+y273.length<17592186044416 then ((some (y270++y273:List Int)).bind fun y277=>(if y277.length<17592186044416 then ((some (y277 ++ [x1]:List Int)).bind fun y280=>((some (x0.drop (x5:Int).toNat:List Int)).bind fun y283=>(if y280.length+y283.length<17592186044416 then (some (y280++y283)) else (none)))) else (none))) else (none))) else (none))))) else (none)) else ((some (([]:List Int):List Int)).bind fun y290=>(if 0≤x5 then (if x5≤(x0.length:Int) then ((some (x0.take (x5:Int).toNat:List Int)).bind fun y293=>(if y290.length+y293.length<17592186044416 then ((some (y290++y293:List Int)).bind fun y297=>(if y297.length<17592186044416 then ((some (y297 ++ [x1]:List Int)).bind fun y300=>((some (x0.drop (x5:Int).toNat:List Int)).bind fun y303=>(if y300.length+y303.length<17592186044416 then (some (y300++y303)) else (none)))) else (none))) else (none))) else (none)) else (none)))
def spec_l1Put.f (k:Nat) (l0:List Int) (a1:Int):Option (List Int):=spec_l1Put.l0 k l0 a1 0
theorem spec_l1Put.calls (k:Nat) (P0_:Nat→Prop) (u9000_:Value) (l0:List Int) (a1:Int) (r:List Int) (w0 w:World) (hB:Below w0.heap.size w0 w) (ho0:Kd.R (Kd.int .i64) 3 w w0.heap.size P0_ u9000_ l0) (h:spec_l1Put.f k l0 a1=some r) :
  Calls Tryd.prog 54 #[u9000_,.int .i64 a1] w fun e w' => ∃ v0_:Value,e = .returned (v0_)∧Kd.R (Kd.int .i64) 3 w' w0.heap.size (fun k_=>(P0_ k_∨w.heap.size≤k_)) v0_ r∧Below w0.heap.size w0 w'∧Kept w w' (fun k_=>P0_ k_):=by
 have HO0:=aM (show Kd.R (Kd.int .i64) 3 w w0.heap.size (fun k_=>(P0_ k_∨w.heap.size≤k_)) u9000_ l0 from Kd.R_mono ho0 (fun k_ hk=>(.inl hk)))
 have HK:=aM (Kept.refl w (fun k_=>P0_ k_))
 have HW0:=aM hB.size
 have HB:=aM hB
 clear hB
 have H:(spec_l1Put.l0 k l0 a1 0)=some r:=h
 clear h
 have H':=aM H
 clear H
 go_enter Tryd.func54,Tryd.ntmps54
 go_wp2
 go_loopg [5] k (fun kq v5 w' => ∃ (x5_1:Int),v5 = .int .i64 x5_1∧Aside0 (spec_l1Put.l0 kq l0 a1 x5_1=some r)∧Aside0 (kq≤k)∧Aside0 (Kd.R (Kd.int .i64) 3 w' w0.heap.size (fun k_=>(P0_ k_∨w.heap.size≤k_)) u9000_ l0)∧Aside0 (Kept w w' (fun k_=>P0_ k_))∧Aside0 (Below w0.heap.size w0 w'))
 case atStart=>exact ⟨(0),ze_,H',⟨Nat.le_refl _⟩,⟨zr HO0.out⟩,⟨zdc_⟩,⟨za_⟩⟩
 case round =>
  clear H';obtain ⟨x5_1,rfl,HA,HK1,HO_0,HK,HB⟩:=hrel
  cases gk with
  | zero=>exact absurd HA.out (by simp [spec_l1Put.l0])
  | succ k1 =>
   have H:=HA.out;clear HA
   simp only [spec_l1Put.l0] at H
   by_cases c3:x5_1<(l0.length:Int)
   ·rw [if_pos c3] at H
    have c3b0:=decide_eq_true c3;clear c3
    by_cases c4:0≤x5_1
    ·rw [if_pos c4] at H
     have c4b0:=decide_eq_true c4;clear c4
     by_cases c5:(rd l0 x5_1)<a1
     ·rw [if_pos c5] at H
      have c5b0:=decide_eq_true c5;clear c5;have H':=aM H;clear H;obtain ⟨Ao6,co6,eo6⟩:=Kd.R_slice HO_0.out;subst eo6;have p268:0≤(x5_1:Int):=of_decide_eq_true zc_;have q268:x5_1<(l0.length:Int):=of_decide_eq_true zc_;obtain ⟨ad268,e268,hx268_0⟩:=Kd.at_int (Kd.R_reads' HO_0.out).2.2 x5_1 p268 q268
      cases e268
      replace p268:=eq_true p268;replace q268:=eq_true q268
      go_wp2
      go_roundg k1
      case measure=>have:=HK1.out;omega
      case rel=>exact ⟨(wrap64 (x5_1+1)),ze_,H',⟨zbd_⟩,⟨zr HO_0.out⟩,⟨zdc_⟩,⟨za_⟩⟩
     ·rw [if_neg c5] at H
      have c5b0:=decide_eq_false c5;clear c5
      by_cases c7:(rd l0 x5_1)=a1
      ·rw [if_pos c7] at H
       have c7b0:=beq_iff_eq.mpr c7;have c7b1:=bne_eq_false_iff_eq.mpr c7;clear c7;obtain rfl:=Option.some.inj H;obtain ⟨Ao8,co8,eo8⟩:=Kd.R_slice HO_0.out;subst eo8;have p268:0≤(x5_1:Int):=of_decide_eq_true zc_;have q268:x5_1<(l0.length:Int):=of_decide_eq_true zc_;obtain ⟨ad268,e268,hx268_0⟩:=Kd.at_int (Kd.R_reads' HO_0.out).2.2 x5_1 p268 q268
       cases e268
       replace p268:=eq_true p268;replace q268:=eq_true q268;have p269:0≤(x5_1:Int):=of_decide_eq_true zc_;have q269:x5_1<(l0.length:Int):=of_decide_eq_true zc_;obtain ⟨ad269,e269,hx269_0⟩:=Kd.at_int (Kd.R_reads' HO_0.out).2.2 x5_1 p269 q269;obtain rfl:ad268=ad269:=(by injection e269);replace p269:=eq_true p269;replace q269:=eq_true q269
       go_wp2
       go_ret
       exact ⟨_,zf_,by refine zr ?_;exact HO_0.out,za_,zdc_⟩
      ·rw [if_neg c7] at H
       have c7b0:=beq_eq_false_iff_ne.mpr c7;have c7b1:=bne_iff_ne.mpr c7;obtain ⟨y270,hy270⟩:∃ y_:List Int,y_=(([]:List Int)):=⟨_,rfl⟩;replace H:(if x5_1≤(l0.length:Int) then ((some (l0.take (x5_1:Int).toNat:List Int)).bind fun y273=>(if y270.length+y273.length<17592186044416 then ((some (y270++y273:List Int)).bind fun y277=>(if y277.length<17592186044416 then ((some (y277 ++ [a1]:List Int)).bind fun y280=>((some (l0.drop (x5_1:Int).toNat:List Int)).bind fun y283=>(if y280.length+y283.length<17592186044416 then (some (y280++y283)) else (none)))) else (none))) else (none))) else (none))=some r:=q3y_ hy270 H
       have Ny270:=aM hy270;clear hy270;have c9b0:=eq_true (of_decide_eq_true zc_:0≤x5_1)
       by_cases c10:x5_1≤(l0.length:Int)
       ·rw [if_pos c10] at H
        have c10b0:=eq_true c10;have c10b1:=decide_eq_true c10;clear c10;obtain ⟨y273,hy273⟩:∃ y_:List Int,y_=(l0.take (x5_1:Int).toNat):=⟨_,rfl⟩;replace H:(if y270.length+y273.length<17592186044416 then ((some (y270++y273:List Int)).bind fun y277=>(if y277.length<17592186044416 then ((some (y277 ++ [a1]:List Int)).bind fun y280=>((some (l0.drop (x5_1:Int).toNat:List Int)).bind fun y283=>(if y280.length+y283.length<17592186044416 then (some (y280++y283)) else (none)))) else (none))) else (none))=some r:=q3y_ hy273 H
        have Ny273:=aM hy273;clear hy273
        by_cases c11:y270.length+y273.length<17592186044416
        ·rw [if_pos c11] at H
         have LMc11:=aM c11;clear c11;obtain ⟨y277,hy277⟩:∃ y_:List Int,y_=(y270++y273):=⟨_,rfl⟩;replace H:(if y277.length<17592186044416 then ((some (y277 ++ [a1]:List Int)).bind fun y280=>((some (l0.drop (x5_1:Int).toNat:List Int)).bind fun y283=>(if y280.length+y283.length<17592186044416 then (some (y280++y283)) else (none)))) else (none))=some r:=q3y_ hy277 H
         have Ny277:=aM hy277;clear hy277
         by_cases c12:y277.length<17592186044416
         ·rw [if_pos c12] at H
          have LMc12:=aM c12;clear c12;obtain ⟨y280,hy280⟩:∃ y_:List Int,y_=(y277 ++ [a1]):=⟨_,rfl⟩;replace H:((some (l0.drop (x5_1:Int).toNat:List Int)).bind fun y283=>(if y280.length+y283.length<17592186044416 then (some (y280++y283)) else (none)))=some r:=q3y_ hy280 H
          have Ny280:=aM hy280;clear hy280;have c13b0:=eq_true (of_decide_eq_true zc_:0≤x5_1);have c14b0:=eq_true (of_decide_eq_true zc_:x5_1≤(l0.length:Int));obtain ⟨y283,hy283⟩:∃ y_:List Int,y_=(l0.drop (x5_1:Int).toNat):=⟨_,rfl⟩;replace H:(if y280.length+y283.length<17592186044416 then (some (y280++y283)) else (none))=some r:=q3y_ hy283 H
          have Ny283:=aM hy283;clear hy283
          by_cases c15:y280.length+y283.length<17592186044416
          ·rw [if_pos c15] at H
           have LMc15:=aM c15;clear c15;obtain ⟨y287,hy287⟩:∃ y_:List Int,y_=(y280++y283):=⟨_,rfl⟩;replace H:(some y287)=some r:=q3y_ hy287 H
           have Ny287:=aM hy287;clear hy287;obtain rfl:=Option.some.inj H;obtain ⟨Ao16,co16,eo16⟩:=Kd.R_slice HO_0.out;subst eo16;have p268:0≤(x5_1:Int):=of_decide_eq_true zc_;have q268:x5_1<(l0.length:Int):=of_decide_eq_true zc_;obtain ⟨ad268,e268,hx268_0⟩:=Kd.at_int (Kd.R_reads' HO_0.out).2.2 x5_1 p268 q268
           cases e268
           replace p268:=eq_true p268;replace q268:=eq_true q268;have p269:0≤(x5_1:Int):=of_decide_eq_true zc_;have q269:x5_1<(l0.length:Int):=of_decide_eq_true zc_;obtain ⟨ad269,e269,hx269_0⟩:=Kd.at_int (Kd.R_reads' HO_0.out).2.2 x5_1 p269 q269;obtain rfl:ad268=ad269:=(by injection e269);replace p269:=eq_true p269;replace q269:=eq_true q269
           go_wp2_with (first | ((with_reducible refine gate_dst (N:=34) rfl ?_);refine Kd.R_lit (Kd.int .i64) _ 3 ?hg (N:=34) ?hd (xs:=([]:List Int)) (inner:=[]) (ok:=fun _=>True) (okp:=fun _=>True) ?hr ?hp (fun _ hk=>hk) trivial (Below.refl _ _) (Nat.le_refl _) (by simp) ?_;(case hd=>rfl);(case hg=>rfl);(case hr=>exact zb_);(case hp=>exact (Reps.none _ _));intro v271 w17 ho18 hb hg_ hnew_;clear hg_ hnew_;(first | rw [← Ny270.out] at ho18 | (simp only [Int.reduceToNat] at ho18;rw [← Ny270.out] at ho18));have n_:=z (Kd.R_elder' (zr HO_0.out) (Kd.R_base ho18) hb)<|z (Kd.R_lower (Kd.R_new' (Kd.R_newM (M:=fun k_=>(P0_ k_∨w.heap.size≤k_)) ho18 (by first | exact HK.out.1 | exact (show Kept w _ (fun k_=>P0_ k_) from zdc_).1) (fun k_ h_ => .inr h_)) (Kd.R_lt (zr HO_0.out))) (below_size za_))<|z (Kept.below (S:=(fun k_=>P0_ k_)) zdc_ hb)<|z1 (below_step za_ hb);clear HO_0 HK HB;obtain ⟨HO_0,HO272,HK,HB⟩:=n_;clear hb ho18;have q19:(x5_1:Int)≤((l0.length:Int):Int):=of_decide_eq_true zc_;obtain ⟨i019,hi019,_,hsz19,_⟩:=info_parts info3;have hroom19:l0.length≤co16:=(Kd.R_reads' HO_0.out).2.1;have hC19:Kd.C (Kd.int .i64) _ (some ad268) l0.length l0:=(Kd.R_reads' HO_0.out).2.2;have hcut19:=cut_to (P:=Tryd.prog) 24 3 .i64 Tryd.underlying24 hi019 (some ad268) l0.length co16 x5_1 (of_decide_eq_true zc_) q19 hroom19;have hr19:=Kd.C_take (m:=(x5_1:Int).toNat) hC19 (by omega);have hy19:y273.length=(x5_1:Int).toNat:=(by rw [Ny273.out,lT];omega);rw [← Ny273.out] at hr19;rw [← hy19] at hcut19;have HR276:=aM hr19;have HC276:=aM (show y273.length≤co16 from by omega);clear hr19 hC19 hroom19 hi019 hsz19;have KY19:=aM hy19;clear hy19;have KL19:=aM (show (x5_1:Int).toNat≤l0.length from by omega);replace q19:=eq_true q19)|((with_reducible refine gate_builtin (b := .append) (xs:=#[.tmp 34,.tmp 37]) rfl ?_);at_builtin;refine Kd.R_append_rows (Kd.int .i64) (w0:=w0) w0.heap.size rfl (.tmp 34) (.tmp 37) 24 3 (.int .i64 0) 8 rfl Tryd.underlying24 info3 rfl (by decide) (by omega) v271 y270 y273 _ _ _ (fun k_=>(P0_ k_∨w.heap.size≤k_)∧some k_≠(.slice (some ad268) l0.length co16:Value).ownBlock) (fun _=>False) rfl rfl ?aO ?aR (fun _ _ h=>h) (fun _ h=>h.elim) ?aF ?aB ?aS ?aL ?_;(case aR=>repeat (first | exact (by repeat (first | (with_reducible exact HR276.out)|(with_reducible refine cA ?_ _)|(with_reducible refine cN ?_ _)|(with_reducible refine cD ?_) | exact HR276.out))|(with_reducible refine cA ?_ _)|(with_reducible refine cN ?_ _)|(with_reducible refine cD ?_)));(case aB=>exact zfg_);(case aF=>exact zhf_);(case aO=>exact (by refine zr ?_;exact Kd.R_mono HO272.out (fun _ hk=>⟨hk.1.1,hk.2⟩)));(case aS=>exact zfh_);(case aL=>have:=LMc11.out;omega);intro v278 w20 ho hb hg hat;rw [← Ny277.out] at ho;have n0_:=aM (Kd.R_after (ok:=(fun k_=>(P0_ k_∨w.heap.size≤k_))) (zr HO_0.out) hg hat);have n1_:=aM (hb);have n2_:=aM (Kept.of_grown (S:=(fun k_=>P0_ k_)) hg zdc_ (fun k_ e_=>(HO272.out.1 k_ e_).1.1));have n3_:=aM ((show Kd.C (Kd.int .i64) w20 (some ad268) y273.length y273 from zbbe_));have n4_:=aM (ho);clear HO_0 HB HK HR276 HO272;have HO_0:=n0_;have HB:=n1_;have HK:=n2_;have HR276:=n3_;have HO279:=n4_;clear n0_ n1_ n2_ n3_ n4_ ho hb hg hat)|((with_reducible refine gate_builtin (b := .append) (xs:=#[.tmp 39,.tmp 41]) rfl ?_);at_builtin;refine Kd.R_append (Kd.int .i64) (w0:=w0) w0.heap.size rfl (.tmp 39) (.tmp 41) 24 3 (.int .i64 0) 8 rfl Tryd.underlying24 info3 rfl (by decide) (by omega) v278 y277 a1 [.int .i64 a1] (fun k_=>(P0_ k_∨w.heap.size≤k_)∧some k_≠(.slice (some ad268) l0.length co16:Value).ownBlock) (fun _=>False) rfl rfl ?aP (fun _ hk=>hk.elim) ?aF ?aO ?aB ?aS ?aL ?_;(case aP=>exact rfl);(case aB=>exact zfg_);(case aF=>exact zhf_);(case aO=>exact (zr HO279.out));(case aS=>exact zfh_);(case aL=>have:=LMc12.out;omega);intro v281 w21 ho hb hg hat;rw [← Ny280.out] at ho;have n0_:=aM (Kd.R_after (ok:=(fun k_=>(P0_ k_∨w.heap.size≤k_))) (zr HO_0.out) hg hat);have n1_:=aM (hb);have n2_:=aM (Kept.of_grown (S:=(fun k_=>P0_ k_)) hg zdc_ (fun k_ e_=>(HO279.out.1 k_ e_).1));have n3_:=aM ((show Kd.C (Kd.int .i64) w21 (some ad268) y273.length y273 from zbbe_));have n4_:=aM (ho);clear HO_0 HB HK HR276 HO279;have HO_0:=n0_;have HB:=n1_;have HK:=n2_;have HR276:=n3_;have HO282:=n4_;clear n0_ n1_ n2_ n3_ n4_ ho hb hg hat;have q22:(x5_1:Int)≤((l0.length:Int):Int):=of_decide_eq_true zc_;obtain ⟨i022,hi022,_,hsz22,_⟩:=info_parts info3;have hroom22:l0.length≤co16:=(Kd.R_reads' HO_0.out).2.1;have hC22:Kd.C (Kd.int .i64) _ (some ad268) l0.length l0:=(Kd.R_reads' HO_0.out).2.2;have q022:(0:Int)≤(x5_1:Int):=of_decide_eq_true zc_;have hcut22:=cut_from (P:=Tryd.prog) 24 3 .i64 Tryd.underlying24 hi022 1 hsz22 (some ad268) l0.length co16 x5_1 q022 q22;have hr22:=Kd.C_drop (m:=(x5_1:Int).toNat) (c:=co16) hC22 (by omega) hroom22;obtain ⟨A22,hA22⟩:∃ A1,A1=(if co16=(x5_1:Int).toNat then (some ad268) else ((some ad268):Option Addr).map (·.add ((x5_1:Int).toNat * 1))):=⟨_,rfl⟩;obtain ⟨c22,hc22⟩:∃ c1,c1=co16 - (x5_1:Int).toNat:=⟨_,rfl⟩;have hy22:y283.length=l0.length - (x5_1:Int).toNat:=(by rw [Ny283.out,lD] <;> omega);rw [show (l0).drop (x5_1:Int).toNat=y283 from Ny283.out.symm] at hr22;replace hr22:Kd.C (Kd.int .i64) _ A22 y283.length y283:=(by rw [hA22];exact hr22);rw [← hy22,← hA22,← hc22] at hcut22;have HR286:=aM hr22;have HC286:=aM (show y283.length≤c22 from by rw [hy22,hc22];exact Nat.sub_le_sub_right hroom22 _);clear hr22 hC22 hroom22 hi022 hsz22 hc22;have KY22:=aM hy22;have KA22:=aM hA22;clear hy22 hA22;have KL22:=aM (show (x5_1:Int).toNat≤l0.length from by omega);replace q22:=eq_true q22)|((with_reducible refine gate_builtin (b := .append) (xs:=#[.tmp 43,.tmp 46]) rfl ?_);at_builtin;refine Kd.R_append_rows (Kd.int .i64) (w0:=w0) w0.heap.size rfl (.tmp 43) (.tmp 46) 24 3 (.int .i64 0) 8 rfl Tryd.underlying24 info3 rfl (by decide) (by omega) v281 y280 y283 _ _ _ (fun k_=>(P0_ k_∨w.heap.size≤k_)∧some k_≠(.slice (some ad268) l0.length co16:Value).ownBlock) (fun _=>False) rfl rfl ?aO ?aR (fun _ _ h=>h) (fun _ h=>h.elim) ?aF ?aB ?aS ?aL ?_;(case aR=>repeat (first | exact (by repeat (first | (with_reducible exact HR286.out)|(with_reducible refine cA ?_ _)|(with_reducible refine cN ?_ _)|(with_reducible refine cD ?_) | exact HR286.out))|(with_reducible refine cA ?_ _)|(with_reducible refine cN ?_ _)|(with_reducible refine cD ?_)));(case aB=>exact zfg_);(case aF=>exact zhf_);(case aO=>exact (zr HO282.out));(case aS=>exact zfh_);(case aL=>have:=LMc15.out;omega);intro v288 w23 ho hb hg hat;rw [← Ny287.out] at ho;have n0_:=aM (Kd.R_after (ok:=(fun k_=>(P0_ k_∨w.heap.size≤k_))) (zr HO_0.out) hg hat);have n1_:=aM (hb);have n2_:=aM (Kept.of_grown (S:=(fun k_=>P0_ k_)) hg zdc_ (fun k_ e_=>(HO282.out.1 k_ e_).1));have n3_:=aM ((show Kd.C (Kd.int .i64) w23 (some ad268) y273.length y273 from zbbe_));have n4_:=aM ((show Kd.C (Kd.int .i64) w23 A22 y283.length y283 from by have h_:=Kd.C_drop (m:=(x5_1:Int).toNat) (c:=co16) ((Kd.R_reads' n0_.out).2.2) KL22.out ((Kd.R_reads' n0_.out).2.1);rw [show (l0).drop (x5_1:Int).toNat=y283 from Ny283.out.symm] at h_;rw [KA22.out];exact h_));have n5_:=aM (ho);clear HO_0 HB HK HR276 HR286 HO282;have HO_0:=n0_;have HB:=n1_;have HK:=n2_;have HR276:=n3_;have HR286:=n4_;have HO289:=n5_;clear n0_ n1_ n2_ n3_ n4_ n5_ ho hb hg hat))
           go_ret
           exact ⟨_,zf_,by refine zr ?_;exact Kd.R_mono HO289.out (fun _ hk=>hk.1),za_,zdc_⟩
          ·rw [if_neg c15] at H
           exact q3n_ H
         ·rw [if_neg c12] at H
          exact q3n_ H
        ·rw [if_neg c11] at H
         exact q3n_ H
       ·rw [if_neg c10] at H
        exact q3n_ H
    ·rw [if_neg c4] at H
     exact q3n_ H
   ·rw [if_neg c3] at H
    have c3b0:=decide_eq_false c3;clear c3;obtain ⟨y290,hy290⟩:∃ y_:List Int,y_=(([]:List Int)):=⟨_,rfl⟩;replace H:(if 0≤x5_1 then (if x5_1≤(l0.length:Int) then ((some (l0.take (x5_1:Int).toNat:List Int)).bind fun y293=>(if y290.length+y293.length<17592186044416 then ((some (y290++y293:List Int)).bind fun y297=>(if y297.length<17592186044416 then ((some (y297 ++ [a1]:List Int)).bind fun y300=>((some (l0.drop (x5_1:Int).toNat:List Int)).bind fun y303=>(if y300.length+y303.length<17592186044416 then (some (y300++y303)) else (none)))) else (none))) else (none))) else (none)) else (none))=some r:=q3y_ hy290 H
    have Ny290:=aM hy290;clear hy290
    by_cases c24:0≤x5_1
    ·rw [if_pos c24] at H
     have c24b0:=eq_true c24;have c24b1:=decide_eq_true c24;clear c24
     by_cases c25:x5_1≤(l0.length:Int)
     ·rw [if_pos c25] at H
      have c25b0:=eq_true c25;have c25b1:=decide_eq_true c25;clear c25;obtain ⟨y293,hy293⟩:∃ y_:List Int,y_=(l0.take (x5_1:Int).toNat):=⟨_,rfl⟩;replace H:(if y290.length+y293.length<17592186044416 then ((some (y290++y293:List Int)).bind fun y297=>(if y297.length<17592186044416 then ((some (y297 ++ [a1]:List Int)).bind fun y300=>((some (l0.drop (x5_1:Int).toNat:List Int)).bind fun y303=>(if y300.length+y303.length<17592186044416 then (some (y300++y303)) else (none)))) else (none))) else (none))=some r:=q3y_ hy293 H
      have Ny293:=aM hy293;clear hy293
      by_cases c26:y290.length+y293.length<17592186044416
      ·rw [if_pos c26] at H
       have LMc26:=aM c26;clear c26;obtain ⟨y297,hy297⟩:∃ y_:List Int,y_=(y290++y293):=⟨_,rfl⟩;replace H:(if y297.length<17592186044416 then ((some (y297 ++ [a1]:List Int)).bind fun y300=>((some (l0.drop (x5_1:Int).toNat:List Int)).bind fun y303=>(if y300.length+y303.length<17592186044416 then (some (y300++y303)) else (none)))) else (none))=some r:=q3y_ hy297 H
       have Ny297:=aM hy297;clear hy297
       by_cases c27:y297.length<17592186044416
       ·rw [if_pos c27] at H
        have LMc27:=aM c27;clear c27;obtain ⟨y300,hy300⟩:∃ y_:List Int,y_=(y297 ++ [a1]):=⟨_,rfl⟩;replace H:((some (l0.drop (x5_1:Int).toNat:List Int)).bind fun y303=>(if y300.length+y303.length<17592186044416 then (some (y300++y303)) else (none)))=some r:=q3y_ hy300 H
        have Ny300:=aM hy300;clear hy300;have c28b0:=eq_true (of_decide_eq_true zc_:0≤x5_1);have c29b0:=eq_true (of_decide_eq_true zc_:x5_1≤(l0.length:Int));obtain ⟨y303,hy303⟩:∃ y_:List Int,y_=(l0.drop (x5_1:Int).toNat):=⟨_,rfl⟩;replace H:(if y300.length+y303.length<17592186044416 then (some (y300++y303)) else (none))=some r:=q3y_ hy303 H
        have Ny303:=aM hy303;clear hy303
        by_cases c30:y300.length+y303.length<17592186044416
        ·rw [if_pos c30] at H
         have LMc30:=aM c30;clear c30;obtain ⟨y307,hy307⟩:∃ y_:List Int,y_=(y300++y303):=⟨_,rfl⟩;replace H:(some y307)=some r:=q3y_ hy307 H
         have Ny307:=aM hy307;clear hy307;obtain rfl:=Option.some.inj H;obtain ⟨Ao31,co31,eo31⟩:=Kd.R_slice HO_0.out;subst eo31
         go_wp2_with (first | ((with_reducible refine gate_dst (N:=34) rfl ?_);refine Kd.R_lit (Kd.int .i64) _ 3 ?hg (N:=34) ?hd (xs:=([]:List Int)) (inner:=[]) (ok:=fun _=>True) (okp:=fun _=>True) ?hr ?hp (fun _ hk=>hk) trivial (Below.refl _ _) (Nat.le_refl _) (by simp) ?_;(case hd=>rfl);(case hg=>rfl);(case hr=>exact zb_);(case hp=>exact (Reps.none _ _));intro v291 w32 ho33 hb hg_ hnew_;clear hg_ hnew_;(first | rw [← Ny290.out] at ho33 | (simp only [Int.reduceToNat] at ho33;rw [← Ny290.out] at ho33));have n_:=z (Kd.R_elder' (zr HO_0.out) (Kd.R_base ho33) hb)<|z (Kd.R_lower (Kd.R_new' (Kd.R_newM (M:=fun k_=>(P0_ k_∨w.heap.size≤k_)) ho33 (by first | exact HK.out.1 | exact (show Kept w _ (fun k_=>P0_ k_) from zdc_).1) (fun k_ h_ => .inr h_)) (Kd.R_lt (zr HO_0.out))) (below_size za_))<|z (Kept.below (S:=(fun k_=>P0_ k_)) zdc_ hb)<|z1 (below_step za_ hb);clear HO_0 HK HB;obtain ⟨HO_0,HO292,HK,HB⟩:=n_;clear hb ho33;have q34:(x5_1:Int)≤((l0.length:Int):Int):=of_decide_eq_true zc_;obtain ⟨i034,hi034,_,hsz34,_⟩:=info_parts info3;have hroom34:l0.length≤co31:=(Kd.R_reads' HO_0.out).2.1;have hC34:Kd.C (Kd.int .i64) _ Ao31 l0.length l0:=(Kd.R_reads' HO_0.out).2.2;have hcut34:=cut_to (P:=Tryd.prog) 24 3 .i64 Tryd.underlying24 hi034 Ao31 l0.length co31 x5_1 (of_decide_eq_true zc_) q34 hroom34;have hr34:=Kd.C_take (m:=(x5_1:Int).toNat) hC34 (by omega);have hy34:y293.length=(x5_1:Int).toNat:=(by rw [Ny293.out,lT];omega);rw [← Ny293.out] at hr34;rw [← hy34] at hcut34;have HR296:=aM hr34;have HC296:=aM (show y293.length≤co31 from by omega);clear hr34 hC34 hroom34 hi034 hsz34;have KY34:=aM hy34;clear hy34;have KL34:=aM (show (x5_1:Int).toNat≤l0.length from by omega);replace q34:=eq_true q34)|((with_reducible refine gate_builtin (b := .append) (xs:=#[.tmp 34,.tmp 37]) rfl ?_);at_builtin;refine Kd.R_append_rows (Kd.int .i64) (w0:=w0) w0.heap.size rfl (.tmp 34) (.tmp 37) 24 3 (.int .i64 0) 8 rfl Tryd.underlying24 info3 rfl (by decide) (by omega) v291 y290 y293 _ _ _ (fun k_=>(P0_ k_∨w.heap.size≤k_)∧some k_≠(.slice Ao31 l0.length co31:Value).ownBlock) (fun _=>False) rfl rfl ?aO ?aR (fun _ _ h=>h) (fun _ h=>h.elim) ?aF ?aB ?aS ?aL ?_;(case aR=>repeat (first | exact (by repeat (first | (with_reducible exact HR296.out)|(with_reducible refine cA ?_ _)|(with_reducible refine cN ?_ _)|(with_reducible refine cD ?_) | exact HR296.out))|(with_reducible refine cA ?_ _)|(with_reducible refine cN ?_ _)|(with_reducible refine cD ?_)));(case aB=>exact zfg_);(case aF=>exact zhf_);(case aO=>exact (by refine zr ?_;exact Kd.R_mono HO292.out (fun _ hk=>⟨hk.1.1,hk.2⟩)));(case aS=>exact zfh_);(case aL=>have:=LMc26.out;omega);intro v298 w35 ho hb hg hat;rw [← Ny297.out] at ho;have n0_:=aM (Kd.R_after (ok:=(fun k_=>(P0_ k_∨w.heap.size≤k_))) (zr HO_0.out) hg hat);have n1_:=aM (hb);have n2_:=aM (Kept.of_grown (S:=(fun k_=>P0_ k_)) hg zdc_ (fun k_ e_=>(HO292.out.1 k_ e_).1.1));have n3_:=aM ((show Kd.C (Kd.int .i64) w35 Ao31 y293.length y293 from zbbf_));have n4_:=aM (ho);clear HO_0 HB HK HR296 HO292;have HO_0:=n0_;have HB:=n1_;have HK:=n2_;have HR296:=n3_;have HO299:=n4_;clear n0_ n1_ n2_ n3_ n4_ ho hb hg hat)|((with_reducible refine gate_builtin (b := .append) (xs:=#[.tmp 39,.tmp 41]) rfl ?_);at_builtin;refine Kd.R_append (Kd.int .i64) (w0:=w0) w0.heap.size rfl (.tmp 39) (.tmp 41) 24 3 (.int .i64 0) 8 rfl Tryd.underlying24 info3 rfl (by decide) (by omega) v298 y297 a1 [.int .i64 a1] (fun k_=>(P0_ k_∨w.heap.size≤k_)∧some k_≠(.slice Ao31 l0.length co31:Value).ownBlock) (fun _=>False) rfl rfl ?aP (fun _ hk=>hk.elim) ?aF ?aO ?aB ?aS ?aL ?_;(case aP=>exact rfl);(case aB=>exact zfg_);(case aF=>exact zhf_);(case aO=>exact (zr HO299.out));(case aS=>exact zfh_);(case aL=>have:=LMc27.out;omega);intro v301 w36 ho hb hg hat;rw [← Ny300.out] at ho;have n0_:=aM (Kd.R_after (ok:=(fun k_=>(P0_ k_∨w.heap.size≤k_))) (zr HO_0.out) hg hat);have n1_:=aM (hb);have n2_:=aM (Kept.of_grown (S:=(fun k_=>P0_ k_)) hg zdc_ (fun k_ e_=>(HO299.out.1 k_ e_).1));have n3_:=aM ((show Kd.C (Kd.int .i64) w36 Ao31 y293.length y293 from zbbf_));have n4_:=aM (ho);clear HO_0 HB HK HR296 HO299;have HO_0:=n0_;have HB:=n1_;have HK:=n2_;have HR296:=n3_;have HO302:=n4_;clear n0_ n1_ n2_ n3_ n4_ ho hb hg hat;have q37:(x5_1:Int)≤((l0.length:Int):Int):=of_decide_eq_true zc_;obtain ⟨i037,hi037,_,hsz37,_⟩:=info_parts info3;have hroom37:l0.length≤co31:=(Kd.R_reads' HO_0.out).2.1;have hC37:Kd.C (Kd.int .i64) _ Ao31 l0.length l0:=(Kd.R_reads' HO_0.out).2.2;have q037:(0:Int)≤(x5_1:Int):=of_decide_eq_true zc_;have hcut37:=cut_from (P:=Tryd.prog) 24 3 .i64 Tryd.underlying24 hi037 1 hsz37 Ao31 l0.length co31 x5_1 q037 q37;have hr37:=Kd.C_drop (m:=(x5_1:Int).toNat) (c:=co31) hC37 (by omega) hroom37;obtain ⟨A37,hA37⟩:∃ A1,A1=(if co31=(x5_1:Int).toNat then Ao31 else (Ao31:Option Addr).map (·.add ((x5_1:Int).toNat * 1))):=⟨_,rfl⟩;obtain ⟨c37,hc37⟩:∃ c1,c1=co31 - (x5_1:Int).toNat:=⟨_,rfl⟩;have hy37:y303.length=l0.length - (x5_1:Int).toNat:=(by rw [Ny303.out,lD] <;> omega);rw [show (l0).drop (x5_1:Int).toNat=y303 from Ny303.out.symm] at hr37;replace hr37:Kd.C (Kd.int .i64) _ A37 y303.length y303:=(by rw [hA37];exact hr37);rw [← hy37,← hA37,← hc37] at hcut37;have HR306:=aM hr37;have HC306:=aM (show y303.length≤c37 from by rw [hy37,hc37];exact Nat.sub_le_sub_right hroom37 _);clear hr37 hC37 hroom37 hi037 hsz37 hc37;have KY37:=aM hy37;have KA37:=aM hA37;clear hy37 hA37;have KL37:=aM (show (x5_1:Int).toNat≤l0.length from by omega);replace q37:=eq_true q37)|((with_reducible refine gate_builtin (b := .append) (xs:=#[.tmp 43,.tmp 46]) rfl ?_);at_builtin;refine Kd.R_append_rows (Kd.int .i64) (w0:=w0) w0.heap.size rfl (.tmp 43) (.tmp 46) 24 3 (.int .i64 0) 8 rfl Tryd.underlying24 info3 rfl (by decide) (by omega) v301 y300 y303 _ _ _ (fun k_=>(P0_ k_∨w.heap.size≤k_)∧some k_≠(.slice Ao31 l0.length co31:Value).ownBlock) (fun _=>False) rfl rfl ?aO ?aR (fun _ _ h=>h) (fun _ h=>h.elim) ?aF ?aB ?aS ?aL ?_;(case aR=>repeat (first | exact (by repeat (first | (with_reducible exact HR306.out)|(with_reducible refine cA ?_ _)|(with_reducible refine cN ?_ _)|(with_reducible refine cD ?_) | exact HR306.out))|(with_reducible refine cA ?_ _)|(with_reducible refine cN ?_ _)|(with_reducible refine cD ?_)));(case aB=>exact zfg_);(case aF=>exact zhf_);(case aO=>exact (zr HO302.out));(case aS=>exact zfh_);(case aL=>have:=LMc30.out;omega);intro v308 w38 ho hb hg hat;rw [← Ny307.out] at ho;have n0_:=aM (Kd.R_after (ok:=(fun k_=>(P0_ k_∨w.heap.size≤k_))) (zr HO_0.out) hg hat);have n1_:=aM (hb);have n2_:=aM (Kept.of_grown (S:=(fun k_=>P0_ k_)) hg zdc_ (fun k_ e_=>(HO302.out.1 k_ e_).1));have n3_:=aM ((show Kd.C (Kd.int .i64) w38 Ao31 y293.length y293 from zbbf_));have n4_:=aM ((show Kd.C (Kd.int .i64) w38 A37 y303.length y303 from by have h_:=Kd.C_drop (m:=(x5_1:Int).toNat) (c:=co31) ((Kd.R_reads' n0_.out).2.2) KL37.out ((Kd.R_reads' n0_.out).2.1);rw [show (l0).drop (x5_1:Int).toNat=y303 from Ny303.out.symm] at h_;rw [KA37.out];exact h_));have n5_:=aM (ho);clear HO_0 HB HK HR296 HR306 HO302;have HO_0:=n0_;have HB:=n1_;have HK:=n2_;have HR296:=n3_;have HR306:=n4_;have HO309:=n5_;clear n0_ n1_ n2_ n3_ n4_ n5_ ho hb hg hat))
         go_ret
         exact ⟨_,zf_,by refine zr ?_;exact Kd.R_mono HO309.out (fun _ hk=>hk.1),za_,zdc_⟩
        ·rw [if_neg c30] at H
         exact q3n_ H
       ·rw [if_neg c27] at H
        exact q3n_ H
      ·rw [if_neg c26] at H
       exact q3n_ H
     ·rw [if_neg c25] at H
      exact q3n_ H
    ·rw [if_neg c24] at H
     exact q3n_ H
mutual
def spec_DependsOn.l0:Nat→List Int→List Int→Int→Int→Int→List Int→Option (List Int×Bool)
 | 0,_,_,_,_,_,_=>none
 | k+1,x4,x12,x13,x14,x311000,x311001=>if x14<x13 then (if 0≤x14 then (if x14<(x12.length:Int) then (spec_DependsOn.l1 k x4 x14 (rd x12 x14) 0 x12 x13 x14 x311000 x311001) else (none)) else (none)) else (some (x4,true))
def spec_DependsOn.l1:Nat→List Int→Int→Int→Int→List Int→Int→Int→Int→List Int→Option (List Int×Bool)
 | 0,_,_,_,_,_,_,_,_,_=>none
 | k+1,x4,x5,x6,x7,x12,x13,x14,x311000,x311001=>if x7<x311000 then (if 0≤(IntKind.u64.wrap (x7)) then (if 0≤(Go.bits .xor .i64 x5 (shl .i64 1 (IntKind.u64.wrap (x7)))) then (if (Go.bits .xor .i64 x5 (shl .i64 1 (IntKind.u64.wrap (x7))))<(x311001.length:Int) then (if x6=(rd x311001 (Go.bits .xor .i64 x5 (shl .i64 1 (IntKind.u64.wrap (x7))))) then (spec_DependsOn.l1 k x4 x5 x6 (wrap64 (x7+1)) x12 x13 x14 x311000 x311001) else ((spec_l1Put.f k x4 x7).bind fun t314=>(spec_DependsOn.l1 k t314 x5 x6 (wrap64 (x7+1)) x12 x13 x14 x311000 x311001))) else (none)) else (none)) else (none)) else (spec_DependsOn.l0 k x4 x12 x13 (wrap64 (x14+1)) x311000 x311001)
end
def spec_DependsOn.f (k:Nat) (a0_0:Int) (l0_1:List Int):Option (List Int×Bool):=(spec_ttGood.f k a0_0 l0_1).bind fun t311=>(if t311=true then (spec_DependsOn.l0 k ([]:List Int) l0_1 (l0_1.length:Int) 0 a0_0 l0_1) else (some (([]:List Int),false)))
theorem spec_DependsOn.calls (k:Nat) (a0_0:Int) (A0_1:Option Addr) (c0_1:Nat) (l0_1:List Int) (r1:List Int) (r2:Bool) (w:World) (hr0_1:Kd.C (Kd.int .i64) w A0_1 l0_1.length l0_1) (hc0_1:l0_1.length≤c0_1) (h:spec_DependsOn.f k a0_0 l0_1=some (r1,r2)) :
  Calls Tryd.prog 14 #[.agg #[.int .i64 a0_0,.slice A0_1 l0_1.length c0_1]] w fun e w' => ∃ v0_:Value,e = .returned (.tuple #[v0_,.bool r2])∧Kd.R (Kd.int .i64) 3 w' w.heap.size (fun _=>True) v0_ r1∧Below w.heap.size w w':=by
 have hu26:=Tryd.underlying26
 have HR0_1:=aM hr0_1
 have HC0_1:=aM hc0_1
 clear hr0_1 hc0_1
 have HB:=aM (Below.refl w.heap.size w)
 have H:((spec_ttGood.f k a0_0 l0_1).bind fun t311=>(if t311=true then (spec_DependsOn.l0 k ([]:List Int) l0_1 (l0_1.length:Int) 0 a0_0 l0_1) else (some (([]:List Int),false))))=some (r1,r2):=h
 clear h
 replace H:=oB.mp H
 obtain ⟨t311,A20,H⟩:=H
 replace H:(if t311=true then (spec_DependsOn.l0 k ([]:List Int) l0_1 (l0_1.length:Int) 0 a0_0 l0_1) else (some (([]:List Int),false)))=some (r1,r2):=H
 have A2:=aM A20
 clear A20
 by_cases c3:t311=true
 ·subst c3
  have H1:(spec_DependsOn.l0 k ([]:List Int) l0_1 (l0_1.length:Int) 0 a0_0 l0_1)=some (r1,r2):=by rw [if_pos rfl] at H;exact H
  clear H;have H:=H1;clear H1;have H':=aM H;clear H
  go_enter Tryd.func14,Tryd.ntmps14
  go_wp2_with (first | ((with_reducible refine gate_dst (N:=1) rfl ?_);refine box_event ?hg (N:=1) ?hd (cs:=#[.int .i64 a0_0,.slice A0_1 l0_1.length c0_1]) (t:=26) ?hr ?_;(case hd=>rfl);(case hg=>rfl);(case hr=>exact zb_);intro gb310 hg w4 hbox hb;have n_:=z (below_step za_ hb)<|z (hbox)<|z ((by rw [hg];exact (below_size za_):w.heap.size≤gb310))<|z1 ((by rw [hg];exact (below_size za_):w.heap.size≤gb310));clear HB;obtain ⟨HB,BK310,GW310,GE310⟩:=n_;clear hb hbox hg;obtain ⟨hcz5_0,hcz5_1,hfz5_0,hfz5_1⟩:=zk2 BK310.out)|((with_reducible refine gate_callee (f:=50) rfl ?_);refine goesL_ (some 9) rfl rfl Tryd.func50 (by kernel_rfl) rfl #[.agg #[.int .i64 a0_0,.slice A0_1 l0_1.length c0_1]] rfl zd_ ?_;(with_reducible refine (spec_ttGood.calls k a0_0 _ _ l0_1 true _ ?side1 ?side2 A2.out).mono ?_);(case side1=>exact zg_);(case side2=>exact HC0_1.out);rintro e w6 ⟨rfl,hb⟩;refine ⟨_,rfl,?_⟩;have n_:=z (blk_below (zb BK310.out) hb)<|z1 (below_step zea_ hb);clear BK310 HB;obtain ⟨BK310,HB⟩:=n_;clear hb;obtain ⟨hcz7_0,hcz7_1,hfz7_0,hfz7_1⟩:=zk2 BK310.out))
  go_loopg [4,14] k (fun kq v4 v14 w' => ∃ (x4_1:List Int) (x14_1:Int),v14 = .int .i64 x14_1∧Aside0 (spec_DependsOn.l0 kq x4_1 l0_1 (l0_1.length:Int) x14_1 a0_0 l0_1=some (r1,r2))∧Aside0 (kq≤k)∧Aside0 (Kd.R (Kd.int .i64) 3 w' w.heap.size (fun _=>True) v4 x4_1)∧Aside0 (w'.heap[gb310]?=some (.cells #[.int .i64 a0_0,(.slice A0_1 l0_1.length c0_1)] 26 (0,0)))∧Aside0 (Below w.heap.size w w'))
  case atStart=>exact ⟨(([]:List Int)),(0),ze_,H',⟨Nat.le_refl _⟩,⟨zdi_⟩,⟨zb BK310.out⟩,⟨zea_⟩⟩
  case round =>
   clear H';(try clear hcz5_0);(try clear hcz5_1);(try clear hcz7_0);(try clear hcz7_1);(try clear hfz5_0);(try clear hfz5_1);(try clear hfz7_0);(try clear hfz7_1);obtain ⟨x4_1,x14_1,rfl,HA,HK1,HO_4,BK310,HB⟩:=hrel
   cases gk with
   | zero=>exact absurd HA.out (by simp [spec_DependsOn.l0])
   | succ k1 =>
    have H:=HA.out;clear HA
    simp only [spec_DependsOn.l0] at H
    by_cases c8:x14_1<(l0_1.length:Int)
    ·rw [if_pos c8] at H
     have c8b0:=decide_eq_true c8;clear c8
     by_cases c9:0≤x14_1
     ·rw [if_pos c9] at H
      have c9b0:=decide_eq_true c9;clear c9
      by_cases c10:x14_1<(l0_1.length:Int)
      ·rw [if_pos c10] at H
       have c10b0:=decide_eq_true c10;clear c10;have H':=aM H;clear H;have p312:0≤(x14_1:Int):=of_decide_eq_true zc_;have q312:x14_1<(l0_1.length:Int):=of_decide_eq_true zc_;obtain ⟨ad312,e312,hx312_0⟩:=Kd.at_int HR0_1.out x14_1 p312 q312
       cases e312
       (try (replace hx312_0:=q3h_ HB.out hx312_0));replace p312:=eq_true p312;replace q312:=eq_true q312
       go_wp2
       go_loopg [4,7] k1 (fun kq v4 v7 w' => ∃ (x4_2:List Int) (x7_2:Int),v7 = .int .i64 x7_2∧Aside0 (spec_DependsOn.l1 kq x4_2 x14_1 (rd l0_1 x14_1) x7_2 l0_1 (l0_1.length:Int) x14_1 a0_0 l0_1=some (r1,r2))∧Aside0 (kq≤k1)∧Aside0 (Kd.R (Kd.int .i64) 3 w' w.heap.size (fun _=>True) v4 x4_2)∧Aside0 (w'.heap[gb310]?=some (.cells #[.int .i64 a0_0,(.slice (some ad312) l0_1.length c0_1)] 26 (0,0)))∧Aside0 (Below w.heap.size w w'))
       case atStart=>exact ⟨(x4_1),(0),ze_,H',⟨Nat.le_refl _⟩,⟨zr HO_4.out⟩,⟨zb BK310.out⟩,⟨zea_⟩⟩
       case round =>
        clear H';(try clear c8b0);(try clear c9b0);(try clear c10b0);(try clear hx312_0);(try clear p312);(try clear q312);obtain ⟨x4_2,x7_2,rfl,HA,HK2,HO_4,BK310,HB⟩:=hrel
        cases gk with
        | zero=>exact absurd HA.out (by simp [spec_DependsOn.l1])
        | succ k2 =>
         have H:=HA.out;clear HA
         simp only [spec_DependsOn.l1] at H
         by_cases c11:x7_2<a0_0
         ·rw [if_pos c11] at H
          have c11b0:=decide_eq_true c11;clear c11;obtain ⟨ji12,hji12⟩:∃ j_:Int,(IntKind.u64.wrap (x7_2))=j_:=⟨_,rfl⟩;replace H:(if 0≤(ji12) then (if 0≤(Go.bits .xor .i64 x14_1 (shl .i64 1 (ji12))) then (if (Go.bits .xor .i64 x14_1 (shl .i64 1 (ji12)))<(l0_1.length:Int) then (if (rd l0_1 x14_1)=(rd l0_1 (Go.bits .xor .i64 x14_1 (shl .i64 1 (ji12)))) then (spec_DependsOn.l1 k2 x4_2 x14_1 (rd l0_1 x14_1) (wrap64 (x7_2+1)) l0_1 (l0_1.length:Int) x14_1 a0_0 l0_1) else ((spec_l1Put.f k2 x4_2 x7_2).bind fun t314=>(spec_DependsOn.l1 k2 t314 x14_1 (rd l0_1 x14_1) (wrap64 (x7_2+1)) l0_1 (l0_1.length:Int) x14_1 a0_0 l0_1))) else (none)) else (none)) else (none))=some (r1,r2):=by first | (rw [hji12] at H;exact H)|(simp only [hji12] at H ⊢;exact H)
          by_cases c13:0≤(ji12)
          ·rw [if_pos c13] at H
           have c13b0:=eq_true c13;have c13b1:=decide_eq_true c13;clear c13;obtain ⟨ji14,hji14⟩:∃ j_:Int,(shl .i64 1 (ji12))=j_:=⟨_,rfl⟩;replace H:(if 0≤(Go.bits .xor .i64 x14_1 (ji14)) then (if (Go.bits .xor .i64 x14_1 (ji14))<(l0_1.length:Int) then (if (rd l0_1 x14_1)=(rd l0_1 (Go.bits .xor .i64 x14_1 (ji14))) then (spec_DependsOn.l1 k2 x4_2 x14_1 (rd l0_1 x14_1) (wrap64 (x7_2+1)) l0_1 (l0_1.length:Int) x14_1 a0_0 l0_1) else ((spec_l1Put.f k2 x4_2 x7_2).bind fun t314=>(spec_DependsOn.l1 k2 t314 x14_1 (rd l0_1 x14_1) (wrap64 (x7_2+1)) l0_1 (l0_1.length:Int) x14_1 a0_0 l0_1))) else (none)) else (none))=some (r1,r2):=by first | (rw [hji14] at H;exact H)|(simp only [hji14] at H ⊢;exact H)
           have hji14_:(IntKind.i64.wrap (1 * 2 ^ min (ji12).toNat 64))=ji14:=hji14;have hji14z:(ji12)≤64→(IntKind.i64.wrap (1 * 2 ^ (ji12).toNat))=ji14:=shl_small hji14;have hji14u:(IntKind.i64.wrap (2 ^ min (ji12).toNat 64))=ji14:=by have h_:=hji14_;rw [Int.one_mul] at h_;exact h_
           have hji14v:(ji12)≤64→(IntKind.i64.wrap (2 ^ (ji12).toNat))=ji14:=fun hle_=>by have h_:=hji14z hle_;rw [Int.one_mul] at h_;exact h_
           have hji14y:(wrap64 (1 * 2 ^ min (ji12).toNat 64))=ji14:=(i64_w _).symm.trans hji14_;have hji14x:(ji12)≤64→(wrap64 (1 * 2 ^ (ji12).toNat))=ji14:=fun h_=>(i64_w _).symm.trans (hji14z h_)
           by_cases c15:0≤(Go.bits .xor .i64 x14_1 (ji14))
           ·rw [if_pos c15] at H
            have c15b0:=decide_eq_true c15;clear c15
            by_cases c16:(Go.bits .xor .i64 x14_1 (ji14))<(l0_1.length:Int)
            ·rw [if_pos c16] at H
             have c16b0:=decide_eq_true c16;clear c16
             by_cases c17:(rd l0_1 x14_1)=(rd l0_1 (Go.bits .xor .i64 x14_1 (ji14)))
             ·rw [if_pos c17] at H
              have c17b0:=beq_iff_eq.mpr c17;have c17b1:=bne_eq_false_iff_eq.mpr c17;clear c17;have H':=aM H;clear H;obtain ⟨hcz18_0,hcz18_1,hfz18_0,hfz18_1⟩:=zk2 BK310.out;have p313:0≤((Go.bits .xor .i64 x14_1 (ji14)):Int):=of_decide_eq_true zc_;have q313:(Go.bits .xor .i64 x14_1 (ji14))<(l0_1.length:Int):=of_decide_eq_true zc_;obtain ⟨ad313,e313,hx313_0⟩:=Kd.at_int HR0_1.out (Go.bits .xor .i64 x14_1 (ji14)) p313 q313;obtain rfl:ad312=ad313:=(by injection e313);(try (replace hx313_0:=q3h_ HB.out hx313_0));replace p313:=eq_true p313;replace q313:=eq_true q313
              go_wp2
              go_roundg k2
              case measure=>have:=HK1.out;have:=HK2.out;omega
              case rel=>exact ⟨(x4_2),(wrap64 (x7_2+1)),ze_,H',⟨zfb_⟩,⟨zr HO_4.out⟩,⟨zb BK310.out⟩,⟨zea_⟩⟩
             ·rw [if_neg c17] at H
              have c17b0:=beq_eq_false_iff_ne.mpr c17;have c17b1:=bne_iff_ne.mpr c17;replace H:=oB.mp H;obtain ⟨t314,A190,H⟩:=H;replace H:(spec_DependsOn.l1 k2 t314 x14_1 (rd l0_1 x14_1) (wrap64 (x7_2+1)) l0_1 (l0_1.length:Int) x14_1 a0_0 l0_1)=some (r1,r2):=H;have A19:=aM A190;clear A190;have H':=aM H;clear H;obtain ⟨hcz20_0,hcz20_1,hfz20_0,hfz20_1⟩:=zk2 BK310.out;have p313:0≤((Go.bits .xor .i64 x14_1 (ji14)):Int):=of_decide_eq_true zc_;have q313:(Go.bits .xor .i64 x14_1 (ji14))<(l0_1.length:Int):=of_decide_eq_true zc_;obtain ⟨ad313,e313,hx313_0⟩:=Kd.at_int HR0_1.out (Go.bits .xor .i64 x14_1 (ji14)) p313 q313;obtain rfl:ad312=ad313:=(by injection e313);(try (replace hx313_0:=q3h_ HB.out hx313_0));replace p313:=eq_true p313;replace q313:=eq_true q313;obtain ⟨Ao21,co21,eo21⟩:=Kd.R_slice HO_4.out;subst eo21
              go_wp2_with (first | ((with_reducible refine gate_callee (f:=54) rfl ?_);refine goesL_ (some 38) rfl rfl Tryd.func54 (by kernel_rfl) rfl #[.slice Ao21 x4_2.length co21,.int .i64 x7_2] rfl zd_ ?_;(with_reducible refine (spec_l1Put.calls k2 (fun k_=>some k_=(.slice Ao21 x4_2.length co21:Value).ownBlock) (.slice Ao21 x4_2.length co21) x4_2 x7_2 t314 w _ ?side1 ?side2 A19.out).mono ?_);(case side1=>exact zea_);(case side2=>exact Kd.R_tight rfl HO_4.out);rintro e w22 ⟨v315,rfl,ho0,hb,hkp⟩;refine ⟨_,rfl,?_⟩;have n_:=z (blk_kept (zb BK310.out) hkp (fun hs_=>(fun e_=>(Kd.R_ne HO_4.out BK310.out (by decide)) e_) hs_))<|z (Kd.R_mono (ok':=fun k_=>True) ho0 (fun k_ hk_=>trivial))<|z1 (hb);clear BK310 HB HO_4;obtain ⟨BK310,HO316,HB⟩:=n_;(try clear hb);(try clear hkp);(try clear ho0)))
              go_roundg k2
              case measure=>have:=HK1.out;have:=HK2.out;omega
              case rel=>exact ⟨(t314),(wrap64 (x7_2+1)),ze_,H',⟨zfb_⟩,⟨zr HO316.out⟩,⟨zb BK310.out⟩,⟨zea_⟩⟩
            ·rw [if_neg c16] at H
             exact q3n_ H
           ·rw [if_neg c15] at H
            exact q3n_ H
          ·rw [if_neg c13] at H
           exact q3n_ H
         ·rw [if_neg c11] at H
          have c11b0:=decide_eq_false c11;clear c11;have H':=aM H;clear H;obtain ⟨hcz23_0,hcz23_1,hfz23_0,hfz23_1⟩:=zk2 BK310.out
          go_wp2
          go_roundg k2
          case measure=>have:=HK1.out;have:=HK2.out;omega
          case rel=>exact ⟨(x4_2),(wrap64 (x14_1+1)),ze_,H',⟨zfb_⟩,⟨zr HO_4.out⟩,⟨zb BK310.out⟩,⟨zea_⟩⟩
      ·rw [if_neg c10] at H
       exact q3n_ H
     ·rw [if_neg c9] at H
      exact q3n_ H
    ·rw [if_neg c8] at H
     have c8b0:=decide_eq_false c8;clear c8
     simp only [Option.some.injEq,Prod.mk.injEq] at H
     obtain ⟨rfl,rfl⟩:=H
     go_wp2
     go_ret2
     exact ⟨_,zf_,by refine zr ?_;exact HO_4.out,zea_⟩
 ·replace c3:=Bool.eq_false_iff.mpr c3
  subst c3;have H1:(some (([]:List Int),false))=some (r1,r2):=by rw [if_neg (show ¬ (false=true) by decide)] at H;exact H
  clear H;have H:=H1;clear H1
  simp only [Option.some.injEq,Prod.mk.injEq] at H
  obtain ⟨rfl,rfl⟩:=H
  go_enter Tryd.func14,Tryd.ntmps14
  go_wp2_with (first | ((with_reducible refine gate_dst (N:=1) rfl ?_);refine box_event ?hg (N:=1) ?hd (cs:=#[.int .i64 a0_0,.slice A0_1 l0_1.length c0_1]) (t:=26) ?hr ?_;(case hd=>rfl);(case hg=>rfl);(case hr=>exact zb_);intro gb310 hg w24 hbox hb;have n_:=z (below_step za_ hb)<|z (hbox)<|z ((by rw [hg];exact (below_size za_):w.heap.size≤gb310))<|z1 ((by rw [hg];exact (below_size za_):w.heap.size≤gb310));clear HB;obtain ⟨HB,BK310,GW310,GE310⟩:=n_;clear hb hbox hg;obtain ⟨hcz25_0,hcz25_1,hfz25_0,hfz25_1⟩:=zk2 BK310.out)|((with_reducible refine gate_callee (f:=50) rfl ?_);refine goesL_ (some 9) rfl rfl Tryd.func50 (by kernel_rfl) rfl #[.agg #[.int .i64 a0_0,.slice A0_1 l0_1.length c0_1]] rfl zd_ ?_;(with_reducible refine (spec_ttGood.calls k a0_0 _ _ l0_1 false _ ?side1 ?side2 A2.out).mono ?_);(case side1=>exact zg_);(case side2=>exact HC0_1.out);rintro e w26 ⟨rfl,hb⟩;refine ⟨_,rfl,?_⟩;have n_:=z (blk_below (zb BK310.out) hb)<|z1 (below_step zea_ hb);clear BK310 HB;obtain ⟨BK310,HB⟩:=n_;clear hb))
  go_ret2
  exact ⟨_,zf_,zdi_,zea_⟩
def laws_sameInts.l0:Nat→List Int→List Int→Int→Int→Option (Bool)
 | 0,_,_,_,_=>none
 | k+1,x0,x1,x12,x13=>if x13<x12 then (if 0≤x13 then (if x13<(x0.length:Int) then (if x13<(x1.length:Int) then (if (rd x0 x13)=(rd x1 x13) then (laws_sameInts.l0 k x0 x1 x12 (wrap64 (x13+1))) else (some false)) else (none)) else (none)) else (none)) else (some true)
def laws_sameInts.f (k:Nat) (l0:List Int) (l1:List Int):Option (Bool):=if (l0.length:Int)=(l1.length:Int) then (laws_sameInts.l0 k l0 l1 (l0.length:Int) 0) else (some false)
theorem laws_sameInts.calls (k:Nat) (A0:Option Addr) (c0:Nat) (l0:List Int) (A1:Option Addr) (c1:Nat) (l1:List Int) (r:Bool) (w:World) (hr0:Kd.C (Kd.int .i64) w A0 l0.length l0) (hc0:l0.length≤c0) (hr1:Kd.C (Kd.int .i64) w A1 l1.length l1) (hc1:l1.length≤c1) (h:laws_sameInts.f k l0 l1=some r) :
  Calls Tryd.prog 17 #[.slice A0 l0.length c0,.slice A1 l1.length c1] w fun e w'=>e = .returned (.bool r)∧Drawn0 w w':=by
 have HR0:=aM hr0
 have HC0:=aM hc0
 clear hr0 hc0
 have HR1:=aM hr1
 have HC1:=aM hc1
 clear hr1 hc1
 have H:(if (l0.length:Int)=(l1.length:Int) then (laws_sameInts.l0 k l0 l1 (l0.length:Int) 0) else (some false))=some r:=h
 clear h
 by_cases c3:(l0.length:Int)=(l1.length:Int)
 ·rw [if_pos c3] at H
  have c3b0:=beq_iff_eq.mpr c3;have c3b1:=bne_eq_false_iff_eq.mpr c3;have c3b2:(l0.length == l1.length)=true:=by first | simpa using c3 | (simp at c3 ⊢;omega)
  clear c3;have H':=aM H;clear H
  go_enter Tryd.func17,Tryd.ntmps17
  go_wp2
  repeat (go_quiet (fail);try go_wp2)
  go_loopg [13] k (fun kq v13 w' => ∃ (x13_1:Int),v13 = .int .i64 x13_1∧Aside0 (laws_sameInts.l0 kq l0 l1 (l0.length:Int) x13_1=some r)∧Aside0 (kq≤k)∧Drawn0 w w')
  case atStart=>exact ⟨(0),ze_,H',⟨Nat.le_refl _⟩,zbb_⟩
  case round =>
   clear H';(try clear c3b0);(try clear c3b1);(try clear c3b2);obtain ⟨x13_1,rfl,HA,HK1,⟨m1,rfl⟩⟩:=hrel
   cases gk with
   | zero=>exact absurd HA.out (by simp [laws_sameInts.l0])
   | succ k1 =>
    have H:=HA.out;clear HA
    simp only [laws_sameInts.l0] at H
    by_cases c4:x13_1<(l0.length:Int)
    ·rw [if_pos c4] at H
     have c4b0:=decide_eq_true c4;clear c4
     by_cases c5:0≤x13_1
     ·rw [if_pos c5] at H
      have c5b0:=decide_eq_true c5;clear c5
      by_cases c6:x13_1<(l0.length:Int)
      ·rw [if_pos c6] at H
       have c6b0:=decide_eq_true c6;clear c6
       by_cases c7:x13_1<(l1.length:Int)
       ·rw [if_pos c7] at H
        have c7b0:=decide_eq_true c7;clear c7
        by_cases c8:(rd l0 x13_1)=(rd l1 x13_1)
        ·rw [if_pos c8] at H
         have c8b0:=beq_iff_eq.mpr c8;have c8b1:=bne_eq_false_iff_eq.mpr c8;clear c8;have H':=aM H;clear H;have p317:0≤(x13_1:Int):=of_decide_eq_true zc_;have q317:x13_1<(l0.length:Int):=of_decide_eq_true zc_;obtain ⟨ad317,e317,hx317_0⟩:=Kd.at_int HR0.out x13_1 p317 q317
         cases e317
         replace p317:=eq_true p317;replace q317:=eq_true q317;have p318:0≤(x13_1:Int):=of_decide_eq_true zc_;have q318:x13_1<(l1.length:Int):=of_decide_eq_true zc_;obtain ⟨ad318,e318,hx318_0⟩:=Kd.at_int HR1.out x13_1 p318 q318
         cases e318
         replace p318:=eq_true p318;replace q318:=eq_true q318
         go_wp2
         repeat (go_quiet (fail);try go_wp2)
         go_roundg k1
         case measure=>have:=HK1.out;omega
         case rel=>exact ⟨(wrap64 (x13_1+1)),ze_,H',⟨zbd_⟩,zbb_⟩
        ·rw [if_neg c8] at H
         have c8b0:=beq_eq_false_iff_ne.mpr c8;have c8b1:=bne_iff_ne.mpr c8;obtain rfl:=Option.some.inj H;have p317:0≤(x13_1:Int):=of_decide_eq_true zc_;have q317:x13_1<(l0.length:Int):=of_decide_eq_true zc_;obtain ⟨ad317,e317,hx317_0⟩:=Kd.at_int HR0.out x13_1 p317 q317
         cases e317
         replace p317:=eq_true p317;replace q317:=eq_true q317;have p318:0≤(x13_1:Int):=of_decide_eq_true zc_;have q318:x13_1<(l1.length:Int):=of_decide_eq_true zc_;obtain ⟨ad318,e318,hx318_0⟩:=Kd.at_int HR1.out x13_1 p318 q318
         cases e318
         replace p318:=eq_true p318;replace q318:=eq_true q318
         go_wp2
         repeat (go_quiet (fail);try go_wp2)
         go_ret
         exact ⟨ze_,zbb_⟩
       ·rw [if_neg c7] at H
        exact q3n_ H
      ·rw [if_neg c6] at H
       exact q3n_ H
     ·rw [if_neg c5] at H
      exact q3n_ H
    ·rw [if_neg c4] at H
     have c4b0:=decide_eq_false c4;clear c4;obtain rfl:=Option.some.inj H
     go_wp2
     repeat (go_quiet (fail);try go_wp2)
     go_ret
     exact ⟨ze_,zbb_⟩
 ·rw [if_neg c3] at H
  have c3b0:=beq_eq_false_iff_ne.mpr c3;have c3b1:=bne_iff_ne.mpr c3;have c3b2:(l0.length == l1.length)=false:=by first | simpa using c3 | (simp at c3 ⊢;omega)
  obtain rfl:=Option.some.inj H
  go_enter Tryd.func17,Tryd.ntmps17
  go_wp2
  repeat (go_quiet (fail);try go_wp2)
  go_ret
  exact ⟨ze_,zbb_⟩
def laws_pSameTable.f (k:Nat) (a0_0:Int) (l0_1:List Int) (a1_0:Int) (l1_1:List Int):Option (Bool):=if a0_0=a1_0 then ((laws_sameInts.f k l0_1 l1_1).bind fun t321=>(some t321)) else (some false)
theorem laws_pSameTable.calls (k:Nat) (a0_0:Int) (A0_1:Option Addr) (c0_1:Nat) (l0_1:List Int) (a1_0:Int) (A1_1:Option Addr) (c1_1:Nat) (l1_1:List Int) (r:Bool) (w:World) (hr0_1:Kd.C (Kd.int .i64) w A0_1 l0_1.length l0_1) (hc0_1:l0_1.length≤c0_1) (hr1_1:Kd.C (Kd.int .i64) w A1_1 l1_1.length l1_1) (hc1_1:l1_1.length≤c1_1) (h:laws_pSameTable.f k a0_0 l0_1 a1_0 l1_1=some r) :
  Calls Tryd.prog 16 #[.agg #[.int .i64 a0_0,.slice A0_1 l0_1.length c0_1],.agg #[.int .i64 a1_0,.slice A1_1 l1_1.length c1_1]] w fun e w'=>e = .returned (.bool r)∧Below w.heap.size w w':=by
 have hu26:=Tryd.underlying26
 have HR0_1:=aM hr0_1
 have HC0_1:=aM hc0_1
 clear hr0_1 hc0_1
 have HR1_1:=aM hr1_1
 have HC1_1:=aM hc1_1
 clear hr1_1 hc1_1
 have HB:=aM (Below.refl w.heap.size w)
 have H:(if a0_0=a1_0 then ((laws_sameInts.f k l0_1 l1_1).bind fun t321=>(some t321)) else (some false))=some r:=h
 clear h
 by_cases c3:a0_0=a1_0
 ·rw [if_pos c3] at H
  have c3b0:=beq_iff_eq.mpr c3;have c3b1:=bne_eq_false_iff_eq.mpr c3;clear c3;replace H:=oB.mp H;obtain ⟨t321,A40,H⟩:=H;replace H:(some t321)=some r:=H;have A4:=aM A40;clear A40;obtain rfl:=Option.some.inj H
  go_enter Tryd.func16,Tryd.ntmps16
  go_wp2_with (first | ((with_reducible refine gate_dst (N:=2) rfl ?_);refine box_event ?hg (N:=2) ?hd (cs:=#[.int .i64 a0_0,.slice A0_1 l0_1.length c0_1]) (t:=26) ?hr ?_;(case hd=>rfl);(case hg=>rfl);(case hr=>exact zb_);intro gb319 hg w5 hbox hb;have n_:=z (below_step za_ hb)<|z (hbox)<|z ((by rw [hg];exact (below_size za_):w.heap.size≤gb319))<|z1 ((by rw [hg];exact (below_size za_):w.heap.size≤gb319));clear HB;obtain ⟨HB,BK319,GW319,GE319⟩:=n_;clear hb hbox hg)|((with_reducible refine gate_dst (N:=3) rfl ?_);refine box_event ?hg (N:=3) ?hd (cs:=#[.int .i64 a1_0,.slice A1_1 l1_1.length c1_1]) (t:=26) ?hr ?_;(case hd=>rfl);(case hg=>rfl);(case hr=>exact zb_);intro gb320 hg w6 hbox hb;have n_:=z (blk_below (zb BK319.out) hb)<|z (below_step zhg_ hb)<|z (hbox)<|z ((by rw [hg];exact (below_size zhg_):w.heap.size≤gb320))<|z ((by rw [hg];exact (below_size zhg_):w.heap.size≤gb320))<|z ((by rw [hg];exact Nat.ne_of_lt (blk_lt (zb BK319.out)):gb319≠gb320))<|z1 ((by rw [hg];exact Nat.ne_of_gt (blk_lt (zb BK319.out)):gb320≠gb319));clear BK319 HB;obtain ⟨BK319,HB,BK320,GW320,GE320,NB319_320,NB320_319⟩:=n_;clear hb hbox hg;have hnb7:=NB319_320.out;have hnc7:=NB320_319.out;obtain ⟨hcz8_0,hcz8_1,hfz8_0,hfz8_1⟩:=zk2 BK319.out;obtain ⟨hcz9_0,hcz9_1,hfz9_0,hfz9_1⟩:=zk2 BK320.out)|(go_at_call 17;(with_reducible refine (laws_sameInts.calls k _ _ l0_1 _ _ l1_1 t321 _ ?side1 ?side2 ?side3 ?side4 A4.out).mono ?_);(case side1=>exact zg_);(case side2=>exact HC0_1.out);(case side3=>repeat (first | exact (Kd.C_below HR1_1.out HB.out)|(with_reducible refine cA ?_ _)|(with_reducible refine cN ?_ _)|(with_reducible refine cD ?_)));(case side4=>exact HC1_1.out);rintro e w' ⟨rfl,⟨nd,rfl⟩⟩))
  go_ret
  exact ⟨zf_,by repeat (first | (with_reducible first | exact HB.out | apply pA | apply pN | apply p1 | refine below_set ?_ GE319.out | refine below_set ?_ GE320.out) | exact HB.out)⟩
 ·rw [if_neg c3] at H
  have c3b0:=beq_eq_false_iff_ne.mpr c3;have c3b1:=bne_iff_ne.mpr c3;obtain rfl:=Option.some.inj H
  go_enter Tryd.func16,Tryd.ntmps16
  go_wp2_with (first | ((with_reducible refine gate_dst (N:=2) rfl ?_);refine box_event ?hg (N:=2) ?hd (cs:=#[.int .i64 a0_0,.slice A0_1 l0_1.length c0_1]) (t:=26) ?hr ?_;(case hd=>rfl);(case hg=>rfl);(case hr=>exact zb_);intro gb319 hg w10 hbox hb;have n_:=z (below_step za_ hb)<|z (hbox)<|z ((by rw [hg];exact (below_size za_):w.heap.size≤gb319))<|z1 ((by rw [hg];exact (below_size za_):w.heap.size≤gb319));clear HB;obtain ⟨HB,BK319,GW319,GE319⟩:=n_;clear hb hbox hg)|((with_reducible refine gate_dst (N:=3) rfl ?_);refine box_event ?hg (N:=3) ?hd (cs:=#[.int .i64 a1_0,.slice A1_1 l1_1.length c1_1]) (t:=26) ?hr ?_;(case hd=>rfl);(case hg=>rfl);(case hr=>exact zb_);intro gb320 hg w11 hbox hb;have n_:=z (blk_below (zb BK319.out) hb)<|z (below_step zhg_ hb)<|z (hbox)<|z ((by rw [hg];exact (below_size zhg_):w.heap.size≤gb320))<|z ((by rw [hg];exact (below_size zhg_):w.heap.size≤gb320))<|z ((by rw [hg];exact Nat.ne_of_lt (blk_lt (zb BK319.out)):gb319≠gb320))<|z1 ((by rw [hg];exact Nat.ne_of_gt (blk_lt (zb BK319.out)):gb320≠gb319));clear BK319 HB;obtain ⟨BK319,HB,BK320,GW320,GE320,NB319_320,NB320_319⟩:=n_;clear hb hbox hg;have hnb12:=NB319_320.out;have hnc12:=NB320_319.out;obtain ⟨hcz13_0,hcz13_1,hfz13_0,hfz13_1⟩:=zk2 BK319.out;obtain ⟨hcz14_0,hcz14_1,hfz14_0,hfz14_1⟩:=zk2 BK320.out))
  go_ret
  exact ⟨zf_,by repeat (first | (with_reducible first | exact HB.out | apply pA | apply pN | apply p1 | refine below_set ?_ GE319.out | refine below_set ?_ GE320.out) | exact HB.out)⟩
def impl_DiagramValue.f (k:Nat) (a0_0:Int) (l0_1:List (S70)) (a0_2:Int) (l1:List Int):Option (Int×Bool):=(impl_IsDiagram.f k a0_0 l0_1 a0_2).bind fun t323=>(if t323=true then (if (l1.length:Int)=a0_0 then ((impl_areBits.f k l1).bind fun t324=>(if t324=true then ((impl_diagramValue.f k a0_0 l0_1 a0_2 l1).bind fun t325=>(some (t325,true))) else (some (0,false)))) else (some (0,false))) else (some (0,false)))
theorem impl_DiagramValue.calls (k:Nat) (a0_0:Int) (A0_1:Option Addr) (c0_1:Nat) (l0_1:List (S70)) (a0_2:Int) (A1:Option Addr) (c1:Nat) (l1:List Int) (r1:Int) (r2:Bool) (w:World) (hr0_1:Kd.C k70 w A0_1 l0_1.length l0_1) (hc0_1:l0_1.length≤c0_1) (hr1:Kd.C (Kd.int .i64) w A1 l1.length l1) (hc1:l1.length≤c1) (h:impl_DiagramValue.f k a0_0 l0_1 a0_2 l1=some (r1,r2)) :
  Calls Tryd.prog 18 #[.agg #[.int .i64 a0_0,.slice A0_1 l0_1.length c0_1,.int .i64 a0_2],.slice A1 l1.length c1] w fun e w'=>e = .returned (.tuple #[.int .i64 r1,.bool r2])∧Below w.heap.size w w':=by
 have hu30:=Tryd.underlying30
 have HR0_1:=aM hr0_1
 have HC0_1:=aM hc0_1
 clear hr0_1 hc0_1
 have HR1:=aM hr1
 have HC1:=aM hc1
 clear hr1 hc1
 have HB:=aM (Below.refl w.heap.size w)
 have H:((impl_IsDiagram.f k a0_0 l0_1 a0_2).bind fun t323=>(if t323=true then (if (l1.length:Int)=a0_0 then ((impl_areBits.f k l1).bind fun t324=>(if t324=true then ((impl_diagramValue.f k a0_0 l0_1 a0_2 l1).bind fun t325=>(some (t325,true))) else (some (0,false)))) else (some (0,false))) else (some (0,false))))=some (r1,r2):=h
 clear h
 replace H:=oB.mp H
 obtain ⟨t323,A30,H⟩:=H
 replace H:(if t323=true then (if (l1.length:Int)=a0_0 then ((impl_areBits.f k l1).bind fun t324=>(if t324=true then ((impl_diagramValue.f k a0_0 l0_1 a0_2 l1).bind fun t325=>(some (t325,true))) else (some (0,false)))) else (some (0,false))) else (some (0,false)))=some (r1,r2):=H
 have A3:=aM A30
 clear A30
 by_cases c4:t323=true
 ·subst c4
  have H1:(if (l1.length:Int)=a0_0 then ((impl_areBits.f k l1).bind fun t324=>(if t324=true then ((impl_diagramValue.f k a0_0 l0_1 a0_2 l1).bind fun t325=>(some (t325,true))) else (some (0,false)))) else (some (0,false)))=some (r1,r2):=by rw [if_pos rfl] at H;exact H
  clear H;have H:=H1;clear H1
  by_cases c5:(l1.length:Int)=a0_0
  ·rw [if_pos c5] at H
   have c5b0:=beq_iff_eq.mpr c5;have c5b1:=bne_eq_false_iff_eq.mpr c5;clear c5;replace H:=oB.mp H;obtain ⟨t324,A60,H⟩:=H;replace H:(if t324=true then ((impl_diagramValue.f k a0_0 l0_1 a0_2 l1).bind fun t325=>(some (t325,true))) else (some (0,false)))=some (r1,r2):=H;have A6:=aM A60;clear A60
   by_cases c7:t324=true
   ·subst c7
    have H1:((impl_diagramValue.f k a0_0 l0_1 a0_2 l1).bind fun t325=>(some (t325,true)))=some (r1,r2):=by rw [if_pos rfl] at H;exact H
    clear H;have H:=H1;clear H1;replace H:=oB.mp H;obtain ⟨t325,A80,H⟩:=H;replace H:(some (t325,true))=some (r1,r2):=H;have A8:=aM A80;clear A80
    simp only [Option.some.injEq,Prod.mk.injEq] at H
    obtain ⟨rfl,rfl⟩:=H
    go_enter Tryd.func18,Tryd.ntmps18
    go_wp2_with (first | ((with_reducible refine gate_dst (N:=2) rfl ?_);(try (refine gate_guard (by rfl) ?_;dsimp only));refine box_event ?hg (N:=2) ?hd (cs:=#[.int .i64 a0_0,.slice A0_1 l0_1.length c0_1,.int .i64 a0_2]) (t:=30) ?hr ?_;(case hd=>rfl);(case hg=>rfl);(case hr=>exact zb_);intro gb322 hg w9 hbox hb;have n_:=z (below_step za_ hb)<|z (hbox)<|z ((by rw [hg];exact (below_size za_):w.heap.size≤gb322))<|z1 ((by rw [hg];exact (below_size za_):w.heap.size≤gb322));clear HB;obtain ⟨HB,BK322,GW322,GE322⟩:=n_;clear hb hbox hg;obtain ⟨hcz10_0,hcz10_1,hcz10_2,hfz10_0,hfz10_1,hfz10_2⟩:=zk3 BK322.out)|((with_reducible refine gate_callee (f:=15) rfl ?_);refine goesL_ (some 7) rfl rfl Tryd.func15 (by kernel_rfl) rfl #[.agg #[.int .i64 a0_0,.slice A0_1 l0_1.length c0_1,.int .i64 a0_2]] rfl zd_ ?_;(with_reducible refine (impl_IsDiagram.calls k a0_0 _ _ l0_1 a0_2 true _ ?side1 ?side2 A3.out).mono ?_);(case side1=>exact zg_);(case side2=>exact HC0_1.out);rintro e w11 ⟨rfl,hb⟩;refine ⟨_,rfl,?_⟩;have n_:=z (blk_below (zb BK322.out) hb)<|z1 (below_step zdh_ hb);clear BK322 HB;obtain ⟨BK322,HB⟩:=n_;clear hb;obtain ⟨hcz12_0,hcz12_1,hcz12_2,hfz12_0,hfz12_1,hfz12_2⟩:=zk3 BK322.out)|(go_at_call 52;(with_reducible refine (impl_areBits.calls k _ _ l1 true _ ?side1 ?side2 A6.out).mono ?_);(case side1=>exact zgc_);(case side2=>exact HC1.out);rintro e w' ⟨rfl,⟨nd,rfl⟩⟩)|((with_reducible refine gate_callee (f:=57) rfl ?_);refine goesL_ (some 23) rfl rfl Tryd.func57 (by kernel_rfl) rfl #[.agg #[.int .i64 a0_0,.slice A0_1 l0_1.length c0_1,.int .i64 a0_2],.slice A1 l1.length c1] rfl zd_ ?_;(with_reducible refine (impl_diagramValue.calls k a0_0 _ _ l0_1 a0_2 _ _ l1 t325 _ ?side1 ?side2 ?side3 ?side4 A8.out).mono ?_);(case side1=>repeat (first | exact (Kd.C_below HR0_1.out zdh_)|(with_reducible refine cA ?_ _)|(with_reducible refine cN ?_ _)|(with_reducible refine cD ?_)));(case side2=>exact HC0_1.out);(case side3=>repeat (first | exact (Kd.C_below HR1.out zdh_)|(with_reducible refine cA ?_ _)|(with_reducible refine cN ?_ _)|(with_reducible refine cD ?_)));(case side4=>exact HC1.out);rintro e w13 ⟨rfl,hb⟩;refine ⟨_,rfl,?_⟩;have n_:=z (blk_below (zb BK322.out) hb)<|z1 (below_step zdh_ hb);clear BK322 HB;obtain ⟨BK322,HB⟩:=n_;clear hb))
    go_ret2
    exact ⟨zf_,zdh_⟩
   ·replace c7:=Bool.eq_false_iff.mpr c7
    subst c7;have H1:(some (0,false))=some (r1,r2):=by rw [if_neg (show ¬ (false=true) by decide)] at H;exact H
    clear H;have H:=H1;clear H1
    simp only [Option.some.injEq,Prod.mk.injEq] at H
    obtain ⟨rfl,rfl⟩:=H
    go_enter Tryd.func18,Tryd.ntmps18
    go_wp2_with (first | ((with_reducible refine gate_dst (N:=2) rfl ?_);(try (refine gate_guard (by rfl) ?_;dsimp only));refine box_event ?hg (N:=2) ?hd (cs:=#[.int .i64 a0_0,.slice A0_1 l0_1.length c0_1,.int .i64 a0_2]) (t:=30) ?hr ?_;(case hd=>rfl);(case hg=>rfl);(case hr=>exact zb_);intro gb322 hg w14 hbox hb;have n_:=z (below_step za_ hb)<|z (hbox)<|z ((by rw [hg];exact (below_size za_):w.heap.size≤gb322))<|z1 ((by rw [hg];exact (below_size za_):w.heap.size≤gb322));clear HB;obtain ⟨HB,BK322,GW322,GE322⟩:=n_;clear hb hbox hg;obtain ⟨hcz15_0,hcz15_1,hcz15_2,hfz15_0,hfz15_1,hfz15_2⟩:=zk3 BK322.out)|((with_reducible refine gate_callee (f:=15) rfl ?_);refine goesL_ (some 7) rfl rfl Tryd.func15 (by kernel_rfl) rfl #[.agg #[.int .i64 a0_0,.slice A0_1 l0_1.length c0_1,.int .i64 a0_2]] rfl zd_ ?_;(with_reducible refine (impl_IsDiagram.calls k a0_0 _ _ l0_1 a0_2 true _ ?side1 ?side2 A3.out).mono ?_);(case side1=>exact zg_);(case side2=>exact HC0_1.out);rintro e w16 ⟨rfl,hb⟩;refine ⟨_,rfl,?_⟩;have n_:=z (blk_below (zb BK322.out) hb)<|z1 (below_step zdh_ hb);clear BK322 HB;obtain ⟨BK322,HB⟩:=n_;clear hb;obtain ⟨hcz17_0,hcz17_1,hcz17_2,hfz17_0,hfz17_1,hfz17_2⟩:=zk3 BK322.out)|(go_at_call 52;(with_reducible refine (impl_areBits.calls k _ _ l1 false _ ?side1 ?side2 A6.out).mono ?_);(case side1=>exact zgc_);(case side2=>exact HC1.out);rintro e w' ⟨rfl,⟨nd,rfl⟩⟩))
    go_ret2
    exact ⟨zf_,zdh_⟩
  ·rw [if_neg c5] at H
   have c5b0:=beq_eq_false_iff_ne.mpr c5;have c5b1:=bne_iff_ne.mpr c5
   simp only [Option.some.injEq,Prod.mk.injEq] at H
   obtain ⟨rfl,rfl⟩:=H
   go_enter Tryd.func18,Tryd.ntmps18
   go_wp2_with (first | ((with_reducible refine gate_dst (N:=2) rfl ?_);(try (refine gate_guard (by rfl) ?_;dsimp only));refine box_event ?hg (N:=2) ?hd (cs:=#[.int .i64 a0_0,.slice A0_1 l0_1.length c0_1,.int .i64 a0_2]) (t:=30) ?hr ?_;(case hd=>rfl);(case hg=>rfl);(case hr=>exact zb_);intro gb322 hg w18 hbox hb;have n_:=z (below_step za_ hb)<|z (hbox)<|z ((by rw [hg];exact (below_size za_):w.heap.size≤gb322))<|z1 ((by rw [hg];exact (below_size za_):w.heap.size≤gb322));clear HB;obtain ⟨HB,BK322,GW322,GE322⟩:=n_;clear hb hbox hg;obtain ⟨hcz19_0,hcz19_1,hcz19_2,hfz19_0,hfz19_1,hfz19_2⟩:=zk3 BK322.out)|((with_reducible refine gate_callee (f:=15) rfl ?_);refine goesL_ (some 7) rfl rfl Tryd.func15 (by kernel_rfl) rfl #[.agg #[.int .i64 a0_0,.slice A0_1 l0_1.length c0_1,.int .i64 a0_2]] rfl zd_ ?_;(with_reducible refine (impl_IsDiagram.calls k a0_0 _ _ l0_1 a0_2 true _ ?side1 ?side2 A3.out).mono ?_);(case side1=>exact zg_);(case side2=>exact HC0_1.out);rintro e w20 ⟨rfl,hb⟩;refine ⟨_,rfl,?_⟩;have n_:=z (blk_below (zb BK322.out) hb)<|z1 (below_step zdh_ hb);clear BK322 HB;obtain ⟨BK322,HB⟩:=n_;clear hb;obtain ⟨hcz21_0,hcz21_1,hcz21_2,hfz21_0,hfz21_1,hfz21_2⟩:=zk3 BK322.out))
   go_ret2
   exact ⟨zf_,zdh_⟩
 ·replace c4:=Bool.eq_false_iff.mpr c4
  subst c4;have H1:(some (0,false))=some (r1,r2):=by rw [if_neg (show ¬ (false=true) by decide)] at H;exact H
  clear H;have H:=H1;clear H1
  simp only [Option.some.injEq,Prod.mk.injEq] at H
  obtain ⟨rfl,rfl⟩:=H
  go_enter Tryd.func18,Tryd.ntmps18
  go_wp2_with (first | ((with_reducible refine gate_dst (N:=2) rfl ?_);(try (refine gate_guard (by rfl) ?_;dsimp only));refine box_event ?hg (N:=2) ?hd (cs:=#[.int .i64 a0_0,.slice A0_1 l0_1.length c0_1,.int .i64 a0_2]) (t:=30) ?hr ?_;(case hd=>rfl);(case hg=>rfl);(case hr=>exact zb_);intro gb322 hg w22 hbox hb;have n_:=z (below_step za_ hb)<|z (hbox)<|z ((by rw [hg];exact (below_size za_):w.heap.size≤gb322))<|z1 ((by rw [hg];exact (below_size za_):w.heap.size≤gb322));clear HB;obtain ⟨HB,BK322,GW322,GE322⟩:=n_;clear hb hbox hg;obtain ⟨hcz23_0,hcz23_1,hcz23_2,hfz23_0,hfz23_1,hfz23_2⟩:=zk3 BK322.out)|((with_reducible refine gate_callee (f:=15) rfl ?_);refine goesL_ (some 7) rfl rfl Tryd.func15 (by kernel_rfl) rfl #[.agg #[.int .i64 a0_0,.slice A0_1 l0_1.length c0_1,.int .i64 a0_2]] rfl zd_ ?_;(with_reducible refine (impl_IsDiagram.calls k a0_0 _ _ l0_1 a0_2 false _ ?side1 ?side2 A3.out).mono ?_);(case side1=>exact zg_);(case side2=>exact HC0_1.out);rintro e w24 ⟨rfl,hb⟩;refine ⟨_,rfl,?_⟩;have n_:=z (blk_below (zb BK322.out) hb)<|z1 (below_step zdh_ hb);clear BK322 HB;obtain ⟨BK322,HB⟩:=n_;clear hb))
  go_ret2
  exact ⟨zf_,zdh_⟩
def laws_pBits.l0:Nat→Int→Int→List Int→Int→Option (List Int)
 | 0,_,_,_,_=>none
 | k+1,x0,x1,x5,x6=>if x6<x1 then (if 0≤(IntKind.u64.wrap (x6)) then (if x5.length<17592186044416 then (laws_pBits.l0 k x0 x1 (x5 ++ [Go.bits .and .i64 (shr .i64 x0 (IntKind.u64.wrap (x6))) 1]) (wrap64 (x6+1))) else (none)) else (none)) else (some x5)
def laws_pBits.f (k:Nat) (a0:Int) (a1:Int):Option (List Int):=laws_pBits.l0 k a0 a1 ([]:List Int) 0
theorem laws_pBits.calls (k:Nat) (a0:Int) (a1:Int) (r:List Int) (w:World) (h:laws_pBits.f k a0 a1=some r) :
  Calls Tryd.prog 19 #[.int .i64 a0,.int .i64 a1] w fun e w' => ∃ v0_:Value,e = .returned (v0_)∧Kd.R (Kd.int .i64) 3 w' w.heap.size (fun _=>True) v0_ r∧Below w.heap.size w w':=by
 have HB:=aM (Below.refl w.heap.size w)
 have H:(laws_pBits.l0 k a0 a1 ([]:List Int) 0)=some r:=h
 clear h
 have H':=aM H
 clear H
 go_enter Tryd.func19,Tryd.ntmps19
 go_wp2
 go_loopg [5,6] k (fun kq v5 v6 w' => ∃ (x5_1:List Int) (x6_1:Int),v6 = .int .i64 x6_1∧Aside0 (laws_pBits.l0 kq a0 a1 x5_1 x6_1=some r)∧Aside0 (kq≤k)∧Aside0 (Kd.R (Kd.int .i64) 3 w' w.heap.size (fun _=>True) v5 x5_1)∧Aside0 (Below w.heap.size w w'))
 case atStart=>exact ⟨(([]:List Int)),(0),ze_,H',⟨Nat.le_refl _⟩,⟨zdi_⟩,⟨za_⟩⟩
 case round =>
  clear H';obtain ⟨x5_1,x6_1,rfl,HA,HK1,HO_5,HB⟩:=hrel
  cases gk with
  | zero=>exact absurd HA.out (by simp [laws_pBits.l0])
  | succ k1 =>
   have H:=HA.out;clear HA
   simp only [laws_pBits.l0] at H
   by_cases c3:x6_1<a1
   ·rw [if_pos c3] at H
    have c3b0:=decide_eq_true c3;clear c3;obtain ⟨ji4,hji4⟩:∃ j_:Int,(IntKind.u64.wrap (x6_1))=j_:=⟨_,rfl⟩;replace H:(if 0≤(ji4) then (if x5_1.length<17592186044416 then (laws_pBits.l0 k1 a0 a1 (x5_1 ++ [Go.bits .and .i64 (shr .i64 a0 (ji4)) 1]) (wrap64 (x6_1+1))) else (none)) else (none))=some r:=by first | (rw [hji4] at H;exact H)|(simp only [hji4] at H ⊢;exact H)
    by_cases c5:0≤(ji4)
    ·rw [if_pos c5] at H
     have c5b0:=eq_true c5;have c5b1:=decide_eq_true c5;clear c5;obtain ⟨ji6,hji6⟩:∃ j_:Int,(shr .i64 a0 (ji4))=j_:=⟨_,rfl⟩;replace H:(if x5_1.length<17592186044416 then (laws_pBits.l0 k1 a0 a1 (x5_1 ++ [Go.bits .and .i64 (ji6) 1]) (wrap64 (x6_1+1))) else (none))=some r:=by first | (rw [hji6] at H;exact H)|(simp only [hji6] at H ⊢;exact H)
     have hji6_:(a0 / 2 ^ min (ji4).toNat 64)=ji6:=hji6;have hji6z:(ji4)≤64→(a0 / 2 ^ (ji4).toNat)=ji6:=shr_small hji6
     by_cases c7:x5_1.length<17592186044416
     ·rw [if_pos c7] at H
      have LMc7:=aM c7;clear c7;obtain ⟨y326,hy326⟩:∃ y_:List Int,y_=(x5_1 ++ [Go.bits .and .i64 (ji6) 1]):=⟨_,rfl⟩;replace H:(laws_pBits.l0 k1 a0 a1 y326 (wrap64 (x6_1+1)))=some r:=q3y_ hy326 H
      have Ny326:=aM hy326;clear hy326;have H':=aM H;clear H
      go_wp2_with (first | ((with_reducible refine gate_builtin (b := .append) (xs:=#[.tmp 12,.tmp 18]) rfl ?_);at_builtin;refine Kd.R_append (Kd.int .i64) (w0:=w) w.heap.size rfl (.tmp 12) (.tmp 18) 24 3 (.int .i64 0) 8 rfl Tryd.underlying24 info3 rfl (by decide) (by omega) u5 x5_1 (Go.bits .and .i64 (ji6) 1) [.int .i64 (Go.bits .and .i64 (ji6) 1)] (fun _=>True) (fun _=>False) rfl rfl ?aP (fun _ hk=>hk.elim) ?aF ?aO ?aB ?aS ?aL ?_;(case aP=>exact rfl);(case aB=>exact zfg_);(case aF=>exact zdf_);(case aO=>exact (zr HO_5.out));(case aS=>exact zfh_);(case aL=>have:=LMc7.out;omega);intro v327 w8 ho hb hg hat;rw [← Ny326.out] at ho;have n_:=z (hb)<|z1 (ho);clear HB HO_5;obtain ⟨HB,HO328⟩:=n_;clear ho hb hg hat))
      go_roundg k1
      case measure=>have:=HK1.out;omega
      case rel=>exact ⟨(y326),(wrap64 (x6_1+1)),ze_,H',⟨zbd_⟩,⟨zr HO328.out⟩,⟨za_⟩⟩
     ·rw [if_neg c7] at H
      exact q3n_ H
    ·rw [if_neg c5] at H
     exact q3n_ H
   ·rw [if_neg c3] at H
    have c3b0:=decide_eq_false c3;clear c3;obtain rfl:=Option.some.inj H
    go_wp2
    go_ret
    exact ⟨_,zf_,by refine zr ?_;exact HO_5.out,za_⟩
def impl_CountTrue.l0:Nat→Int→List Int→Int→Int→Option (Int×Bool)
 | 0,_,_,_,_=>none
 | k+1,x4,x12,x13,x14=>if x14<x13 then (if 0≤x14 then (if x14<(x12.length:Int) then (impl_CountTrue.l0 k (wrap64 (x4+(rd x12 x14))) x12 x13 (wrap64 (x14+1))) else (none)) else (none)) else (some (x4,true))
def impl_CountTrue.f (k:Nat) (a0_0:Int) (l0_1:List (S70)) (a0_2:Int):Option (Int×Bool):=(impl_IsDiagram.f k a0_0 l0_1 a0_2).bind fun t330=>(if t330=true then ((impl_tableOfDiagram.f k a0_0 l0_1 a0_2).bind fun bt331=>(impl_CountTrue.l0 k 0 bt331.2 (bt331.2.length:Int) 0)) else (some (0,false)))
theorem impl_CountTrue.calls (k:Nat) (a0_0:Int) (A0_1:Option Addr) (c0_1:Nat) (l0_1:List (S70)) (a0_2:Int) (r1:Int) (r2:Bool) (w:World) (hr0_1:Kd.C k70 w A0_1 l0_1.length l0_1) (hc0_1:l0_1.length≤c0_1) (h:impl_CountTrue.f k a0_0 l0_1 a0_2=some (r1,r2)) :
  Calls Tryd.prog 20 #[.agg #[.int .i64 a0_0,.slice A0_1 l0_1.length c0_1,.int .i64 a0_2]] w fun e w'=>e = .returned (.tuple #[.int .i64 r1,.bool r2])∧Below w.heap.size w w':=by
 have hfd26_0:∀ (x0:Int) (A1:Option Addr) (n1 c1:Nat) (w:World),(Instr.field 26 (.agg #[.int .i64 x0,.slice A1 n1 c1]) 0).run Tryd.prog w = .ok (.int .i64 x0) w:=fun _ _ _ _ _=>by kernel_rfl
 have hfd26_1:∀ (x0:Int) (A1:Option Addr) (n1 c1:Nat) (w:World),(Instr.field 26 (.agg #[.int .i64 x0,.slice A1 n1 c1]) 1).run Tryd.prog w = .ok (.slice A1 n1 c1) w:=fun _ _ _ _ _=>by kernel_rfl
 have hu30:=Tryd.underlying30
 have HR0_1:=aM hr0_1
 have HC0_1:=aM hc0_1
 clear hr0_1 hc0_1
 have HB:=aM (Below.refl w.heap.size w)
 have H:((impl_IsDiagram.f k a0_0 l0_1 a0_2).bind fun t330=>(if t330=true then ((impl_tableOfDiagram.f k a0_0 l0_1 a0_2).bind fun bt331=>(impl_CountTrue.l0 k 0 bt331.2 (bt331.2.length:Int) 0)) else (some (0,false))))=some (r1,r2):=h
 clear h
 replace H:=oB.mp H
 obtain ⟨t330,A20,H⟩:=H
 replace H:(if t330=true then ((impl_tableOfDiagram.f k a0_0 l0_1 a0_2).bind fun bt331=>(impl_CountTrue.l0 k 0 bt331.2 (bt331.2.length:Int) 0)) else (some (0,false)))=some (r1,r2):=H
 have A2:=aM A20
 clear A20
 by_cases c3:t330=true
 ·subst c3
  have H1:((impl_tableOfDiagram.f k a0_0 l0_1 a0_2).bind fun bt331=>(impl_CountTrue.l0 k 0 bt331.2 (bt331.2.length:Int) 0))=some (r1,r2):=by rw [if_pos rfl] at H;exact H
  clear H;have H:=H1;clear H1;replace H:=oB.mp H;obtain ⟨⟨t331,t332⟩,A40,H⟩:=H;replace H:(impl_CountTrue.l0 k 0 t332 (t332.length:Int) 0)=some (r1,r2):=H;have A4:=aM A40;clear A40;have H':=aM H;clear H
  go_enter Tryd.func20,Tryd.ntmps20
  go_wp2_with (first | ((with_reducible refine gate_dst (N:=1) rfl ?_);refine box_event ?hg (N:=1) ?hd (cs:=#[.int .i64 a0_0,.slice A0_1 l0_1.length c0_1,.int .i64 a0_2]) (t:=30) ?hr ?_;(case hd=>rfl);(case hg=>rfl);(case hr=>exact zb_);intro gb329 hg w5 hbox hb;have n_:=z (below_step za_ hb)<|z (hbox)<|z ((by rw [hg];exact (below_size za_):w.heap.size≤gb329))<|z1 ((by rw [hg];exact (below_size za_):w.heap.size≤gb329));clear HB;obtain ⟨HB,BK329,GW329,GE329⟩:=n_;clear hb hbox hg;obtain ⟨hcz6_0,hcz6_1,hcz6_2,hfz6_0,hfz6_1,hfz6_2⟩:=zk3 BK329.out)|((with_reducible refine gate_callee (f:=15) rfl ?_);refine goesL_ (some 8) rfl rfl Tryd.func15 (by kernel_rfl) rfl #[.agg #[.int .i64 a0_0,.slice A0_1 l0_1.length c0_1,.int .i64 a0_2]] rfl zd_ ?_;(with_reducible refine (impl_IsDiagram.calls k a0_0 _ _ l0_1 a0_2 true _ ?side1 ?side2 A2.out).mono ?_);(case side1=>exact zg_);(case side2=>exact HC0_1.out);rintro e w7 ⟨rfl,hb⟩;refine ⟨_,rfl,?_⟩;have n_:=z (blk_below (zb BK329.out) hb)<|z1 (below_step zfi_ hb);clear BK329 HB;obtain ⟨BK329,HB⟩:=n_;clear hb;obtain ⟨hcz8_0,hcz8_1,hcz8_2,hfz8_0,hfz8_1,hfz8_2⟩:=zk3 BK329.out)|((with_reducible refine gate_callee (f:=53) rfl ?_);refine goesL_ (some 11) rfl rfl Tryd.func53 (by kernel_rfl) rfl #[.agg #[.int .i64 a0_0,.slice A0_1 l0_1.length c0_1,.int .i64 a0_2]] rfl zd_ ?_;(with_reducible refine (impl_tableOfDiagram.calls k a0_0 _ _ l0_1 a0_2 t331 t332 _ ?side1 ?side2 A4.out).mono ?_);(case side1=>exact zg_);(case side2=>exact HC0_1.out);rintro e w9 ⟨v333,rfl,ho0,hb⟩;refine ⟨_,rfl,?_⟩;have n_:=z (Kd.R_lower ho0 (below_size zfi_))<|z (blk_below (zb BK329.out) hb)<|z1 (below_step zfi_ hb);clear BK329 HB;obtain ⟨HO334,BK329,HB⟩:=n_;clear hb;(try clear ho0);obtain ⟨Ao10,co10,eo10⟩:=Kd.R_slice HO334.out;subst eo10))
  go_loopg [4,14] k (fun kq v4 v14 w' => ∃ (x4_1:Int) (x14_1:Int),v4 = .int .i64 x4_1∧v14 = .int .i64 x14_1∧Aside0 (impl_CountTrue.l0 kq x4_1 t332 (t332.length:Int) x14_1=some (r1,r2))∧Aside0 (kq≤k)∧Aside0 (Kd.R (Kd.int .i64) 3 w' w.heap.size (fun _=>True) (.slice Ao10 t332.length co10) t332)∧Aside0 (w'.heap[gb329]?=some (.cells #[.int .i64 a0_0,(.slice A0_1 l0_1.length c0_1),.int .i64 a0_2] 30 (0,0)))∧Aside0 (Below w.heap.size w w'))
  case atStart=>exact ⟨(0),(0),ze_,ze_,H',⟨Nat.le_refl _⟩,⟨zr HO334.out⟩,⟨zb BK329.out⟩,⟨zfi_⟩⟩
  case round =>
   clear H';(try clear c1);(try clear hcz6_0);(try clear hcz6_1);(try clear hcz6_2);(try clear hcz8_0);(try clear hcz8_1);(try clear hcz8_2);(try clear hfz6_0);(try clear hfz6_1);(try clear hfz6_2);(try clear hfz8_0);(try clear hfz8_1);(try clear hfz8_2);obtain ⟨x4_1,x14_1,rfl,rfl,HA,HK1,HO_12,BK329,HB⟩:=hrel
   cases gk with
   | zero=>exact absurd HA.out (by simp [impl_CountTrue.l0])
   | succ k1 =>
    have H:=HA.out;clear HA
    simp only [impl_CountTrue.l0] at H
    by_cases c11:x14_1<(t332.length:Int)
    ·rw [if_pos c11] at H
     have c11b0:=decide_eq_true c11;clear c11
     by_cases c12:0≤x14_1
     ·rw [if_pos c12] at H
      have c12b0:=decide_eq_true c12;clear c12
      by_cases c13:x14_1<(t332.length:Int)
      ·rw [if_pos c13] at H
       have c13b0:=decide_eq_true c13;clear c13;have H':=aM H;clear H;have p335:0≤(x14_1:Int):=of_decide_eq_true zc_;have q335:x14_1<(t332.length:Int):=of_decide_eq_true zc_;obtain ⟨ad335,e335,hx335_0⟩:=Kd.at_int (Kd.R_reads' HO_12.out).2.2 x14_1 p335 q335
       cases e335
       replace p335:=eq_true p335;replace q335:=eq_true q335
       go_wp2
       go_roundg k1
       case measure=>have:=HK1.out;omega
       case rel=>exact ⟨(wrap64 (x4_1+(rd t332 x14_1))),(wrap64 (x14_1+1)),ze_,ze_,H',⟨zbd_⟩,⟨zr HO_12.out⟩,⟨zb BK329.out⟩,⟨zfi_⟩⟩
      ·rw [if_neg c13] at H
       exact q3n_ H
     ·rw [if_neg c12] at H
      exact q3n_ H
    ·rw [if_neg c11] at H
     have c11b0:=decide_eq_false c11;clear c11
     simp only [Option.some.injEq,Prod.mk.injEq] at H
     obtain ⟨rfl,rfl⟩:=H
     go_wp2
     go_ret2
     exact ⟨zf_,zfi_⟩
 ·replace c3:=Bool.eq_false_iff.mpr c3
  subst c3;have H1:(some (0,false))=some (r1,r2):=by rw [if_neg (show ¬ (false=true) by decide)] at H;exact H
  clear H;have H:=H1;clear H1
  simp only [Option.some.injEq,Prod.mk.injEq] at H
  obtain ⟨rfl,rfl⟩:=H
  go_enter Tryd.func20,Tryd.ntmps20
  go_wp2_with (first | ((with_reducible refine gate_dst (N:=1) rfl ?_);refine box_event ?hg (N:=1) ?hd (cs:=#[.int .i64 a0_0,.slice A0_1 l0_1.length c0_1,.int .i64 a0_2]) (t:=30) ?hr ?_;(case hd=>rfl);(case hg=>rfl);(case hr=>exact zb_);intro gb329 hg w14 hbox hb;have n_:=z (below_step za_ hb)<|z (hbox)<|z ((by rw [hg];exact (below_size za_):w.heap.size≤gb329))<|z1 ((by rw [hg];exact (below_size za_):w.heap.size≤gb329));clear HB;obtain ⟨HB,BK329,GW329,GE329⟩:=n_;clear hb hbox hg;obtain ⟨hcz15_0,hcz15_1,hcz15_2,hfz15_0,hfz15_1,hfz15_2⟩:=zk3 BK329.out)|((with_reducible refine gate_callee (f:=15) rfl ?_);refine goesL_ (some 8) rfl rfl Tryd.func15 (by kernel_rfl) rfl #[.agg #[.int .i64 a0_0,.slice A0_1 l0_1.length c0_1,.int .i64 a0_2]] rfl zd_ ?_;(with_reducible refine (impl_IsDiagram.calls k a0_0 _ _ l0_1 a0_2 false _ ?side1 ?side2 A2.out).mono ?_);(case side1=>exact zg_);(case side2=>exact HC0_1.out);rintro e w16 ⟨rfl,hb⟩;refine ⟨_,rfl,?_⟩;have n_:=z (blk_below (zb BK329.out) hb)<|z1 (below_step zfi_ hb);clear BK329 HB;obtain ⟨BK329,HB⟩:=n_;clear hb))
  go_ret2
  exact ⟨zf_,zfi_⟩
def impl_TruePaths.l0:Nat→List Int→List (S70)→Int→Int→Int→List (S70)→Int→Option (Int×Bool)
 | 0,_,_,_,_,_,_,_=>none
 | k+1,x4,x12,x13,x14,x337000,x337001,x337002=>if x14<x13 then (if 0≤x14 then (if x14<(x12.length:Int) then (if 0≤((rd_T70 x12 x14).f1) then (if ((rd_T70 x12 x14).f1)<(x4.length:Int) then (if 0≤((rd_T70 x12 x14).f2) then (if ((rd_T70 x12 x14).f2)<(x4.length:Int) then (if x4.length<17592186044416 then (impl_TruePaths.l0 k (x4 ++ [wrap64 ((rd x4 ((rd_T70 x12 x14).f1))+(rd x4 ((rd_T70 x12 x14).f2)))]) x12 x13 (wrap64 (x14+1)) x337000 x337001 x337002) else (none)) else (none)) else (none)) else (none)) else (none)) else (none)) else (none)) else (if 0≤x337002 then (if x337002<(x4.length:Int) then (some (rd x4 x337002,true)) else (none)) else (none))
def impl_TruePaths.f (k:Nat) (a0_0:Int) (l0_1:List (S70)) (a0_2:Int):Option (Int×Bool):=(impl_IsDiagram.f k a0_0 l0_1 a0_2).bind fun t337=>(if t337=true then (impl_TruePaths.l0 k (([0,1]:List Int)) l0_1 (l0_1.length:Int) 0 a0_0 l0_1 a0_2) else (some (0,false)))
def impl_TruePaths.T7:Bool×List (List Nat×List Nat):=(true,[([],[]),([],[]),([],[]),([2],[2]),([1,3],[1,3]),([4],[4]),([],[]),([],[]),([7],[7]),([6,8],[6,8]),([9],[9]),([5,10],[5,10]),([11],[11]),([0,12],[0,12]),([13,13,0,1,2,3,4,5,6,7,8,9,10,11,12,13],[0,1,6,13])])
def impl_TruePaths.B7:List Nat:=[0,0,0,4,14,30,0,0,128,448,960,2046,4094,8191,16383]
theorem impl_TruePaths.tab7:rtab .any (opsOf Tryd.f21 7)=impl_TruePaths.T7:=by kernel_rfl
theorem impl_TruePaths.bits7:waitsOk impl_TruePaths.T7.2 impl_TruePaths.B7=true:=by kernel_rfl
theorem impl_TruePaths.calls (k:Nat) (a0_0:Int) (A0_1:Option Addr) (c0_1:Nat) (l0_1:List (S70)) (a0_2:Int) (r1:Int) (r2:Bool) (w:World) (hr0_1:Kd.C k70 w A0_1 l0_1.length l0_1) (hc0_1:l0_1.length≤c0_1) (h:impl_TruePaths.f k a0_0 l0_1 a0_2=some (r1,r2)) :
  Calls Tryd.prog 21 #[.agg #[.int .i64 a0_0,.slice A0_1 l0_1.length c0_1,.int .i64 a0_2]] w fun e w'=>e = .returned (.tuple #[.int .i64 r1,.bool r2])∧Below w.heap.size w w':=by
 have hu30:=Tryd.underlying30
 have hu70:=Tryd.underlying70
 have HR0_1:=aM hr0_1
 have HC0_1:=aM hc0_1
 clear hr0_1 hc0_1
 have HB:=aM (Below.refl w.heap.size w)
 have H:((impl_IsDiagram.f k a0_0 l0_1 a0_2).bind fun t337=>(if t337=true then (impl_TruePaths.l0 k (([0,1]:List Int)) l0_1 (l0_1.length:Int) 0 a0_0 l0_1 a0_2) else (some (0,false))))=some (r1,r2):=h
 clear h
 replace H:=oB.mp H
 obtain ⟨t337,A20,H⟩:=H
 replace H:(if t337=true then (impl_TruePaths.l0 k (([0,1]:List Int)) l0_1 (l0_1.length:Int) 0 a0_0 l0_1 a0_2) else (some (0,false)))=some (r1,r2):=H
 have A2:=aM A20
 clear A20
 by_cases c3:t337=true
 ·subst c3
  have H1:(impl_TruePaths.l0 k (([0,1]:List Int)) l0_1 (l0_1.length:Int) 0 a0_0 l0_1 a0_2)=some (r1,r2):=by rw [if_pos rfl] at H;exact H
  clear H;have H:=H1;clear H1;obtain ⟨y338,hy338⟩:∃ y_:List Int,y_=(([0,1]:List Int)):=⟨_,rfl⟩;replace H:(impl_TruePaths.l0 k y338 l0_1 (l0_1.length:Int) 0 a0_0 l0_1 a0_2)=some (r1,r2):=q3y_ hy338 H
  have Ny338:=aM hy338;clear hy338;have H':=aM H;clear H
  go_enter Tryd.func21,Tryd.ntmps21
  go_wp2_with (first | ((with_reducible refine gate_dst (N:=1) rfl ?_);refine box_event ?hg (N:=1) ?hd (cs:=#[.int .i64 a0_0,.slice A0_1 l0_1.length c0_1,.int .i64 a0_2]) (t:=30) ?hr ?_;(case hd=>rfl);(case hg=>rfl);(case hr=>exact zb_);intro gb336 hg w4 hbox hb;have n_:=z (below_step za_ hb)<|z (hbox)<|z ((by rw [hg];exact (below_size za_):w.heap.size≤gb336))<|z1 ((by rw [hg];exact (below_size za_):w.heap.size≤gb336));clear HB;obtain ⟨HB,BK336,GW336,GE336⟩:=n_;clear hb hbox hg;obtain ⟨hcz5_0,hcz5_1,hcz5_2,hfz5_0,hfz5_1,hfz5_2⟩:=zk3 BK336.out)|((with_reducible refine gate_callee (f:=15) rfl ?_);refine goesL_ (some 8) rfl rfl Tryd.func15 (by kernel_rfl) rfl #[.agg #[.int .i64 a0_0,.slice A0_1 l0_1.length c0_1,.int .i64 a0_2]] rfl zd_ ?_;(with_reducible refine (impl_IsDiagram.calls k a0_0 _ _ l0_1 a0_2 true _ ?side1 ?side2 A2.out).mono ?_);(case side1=>exact zg_);(case side2=>exact HC0_1.out);rintro e w6 ⟨rfl,hb⟩;refine ⟨_,rfl,?_⟩;have n_:=z (blk_below (zb BK336.out) hb)<|z1 (below_step zeb_ hb);clear BK336 HB;obtain ⟨BK336,HB⟩:=n_;clear hb)|((with_reducible refine gate_dst (N:=10) rfl ?_);refine Kd.R_lit (Kd.int .i64) _ 3 ?hg (N:=10) ?hd (xs:=([0,1]:List Int)) (inner:=[.int .i64 0,.int .i64 1]) (ok:=fun _=>True) (okp:=fun _=>True) ?hr ?hp (fun _ hk=>hk) trivial (Below.refl _ _) (Nat.le_refl _) (by simp) ?_;(case hd=>rfl);(case hg=>rfl);(case hr=>exact zb_);(case hp=>exact (Reps.one (show Kd.M (Kd.int .i64) _ _ _ 0 [.int .i64 0] from rfl) (Reps.one (show Kd.M (Kd.int .i64) _ _ _ 1 [.int .i64 1] from rfl) (Reps.none _ _))));intro v339 w7 ho8 hb hg_ hnew_;clear hg_ hnew_;(first | rw [← Ny338.out] at ho8 | (simp only [Int.reduceToNat] at ho8;rw [← Ny338.out] at ho8));have n_:=z (Kd.R_lower ho8 (below_size zeb_))<|z (blk_below (zb BK336.out) hb)<|z1 (below_step zeb_ hb);clear BK336 HB;obtain ⟨HO340,BK336,HB⟩:=n_;clear hb ho8;obtain ⟨hcz9_0,hcz9_1,hcz9_2,hfz9_0,hfz9_1,hfz9_2⟩:=zk3 BK336.out))
  go_loopg [4,14] k (fun kq v4 v14 w' => ∃ (x4_1:List Int) (x14_1:Int),v14 = .int .i64 x14_1∧Aside0 (impl_TruePaths.l0 kq x4_1 l0_1 (l0_1.length:Int) x14_1 a0_0 l0_1 a0_2=some (r1,r2))∧Aside0 (kq≤k)∧Aside0 (Kd.R (Kd.int .i64) 3 w' w.heap.size (fun _=>True) v4 x4_1)∧Aside0 (w'.heap[gb336]?=some (.cells #[.int .i64 a0_0,(.slice A0_1 l0_1.length c0_1),.int .i64 a0_2] 30 (0,0)))∧Aside0 (Below w.heap.size w w'))
  case atStart=>exact ⟨(y338),(0),ze_,H',⟨Nat.le_refl _⟩,⟨zr HO340.out⟩,⟨zb BK336.out⟩,⟨zeb_⟩⟩
  case round =>
   clear H';(try clear hcz5_0);(try clear hcz5_1);(try clear hcz5_2);(try clear hcz9_0);(try clear hcz9_1);(try clear hcz9_2);(try clear hfz5_0);(try clear hfz5_1);(try clear hfz5_2);(try clear hfz9_0);(try clear hfz9_1);(try clear hfz9_2);obtain ⟨x4_1,x14_1,rfl,HA,HK1,HO_4,BK336,HB⟩:=hrel
   cases gk with
   | zero=>exact absurd HA.out (by simp [impl_TruePaths.l0])
   | succ k1 =>
    have H:=HA.out;clear HA
    simp only [impl_TruePaths.l0] at H
    by_cases c10:x14_1<(l0_1.length:Int)
    ·rw [if_pos c10] at H
     have c10b0:=decide_eq_true c10;clear c10
     by_cases c11:0≤x14_1
     ·rw [if_pos c11] at H
      have c11b0:=decide_eq_true c11;clear c11
      by_cases c12:x14_1<(l0_1.length:Int)
      ·rw [if_pos c12] at H
       have c12b0:=decide_eq_true c12;clear c12
       by_cases c13:0≤((rd_T70 l0_1 x14_1).f1)
       ·rw [if_pos c13] at H
        have c13b0:=decide_eq_true c13;clear c13
        by_cases c14:((rd_T70 l0_1 x14_1).f1)<(x4_1.length:Int)
        ·rw [if_pos c14] at H
         have c14b0:=decide_eq_true c14;clear c14
         by_cases c15:0≤((rd_T70 l0_1 x14_1).f2)
         ·rw [if_pos c15] at H
          have c15b0:=decide_eq_true c15;clear c15
          by_cases c16:((rd_T70 l0_1 x14_1).f2)<(x4_1.length:Int)
          ·rw [if_pos c16] at H
           have c16b0:=decide_eq_true c16;clear c16
           by_cases c17:x4_1.length<17592186044416
           ·rw [if_pos c17] at H
            have LMc17:=aM c17;clear c17;obtain ⟨y345,hy345⟩:∃ y_:List Int,y_=(x4_1 ++ [wrap64 ((rd x4_1 ((rd_T70 l0_1 x14_1).f1))+(rd x4_1 ((rd_T70 l0_1 x14_1).f2)))]):=⟨_,rfl⟩;replace H:(impl_TruePaths.l0 k1 y345 l0_1 (l0_1.length:Int) (wrap64 (x14_1+1)) a0_0 l0_1 a0_2)=some (r1,r2):=q3y_ hy345 H
            have Ny345:=aM hy345;clear hy345;have H':=aM H;clear H;have p341:0≤(x14_1:Int):=of_decide_eq_true zc_;have q341:x14_1<(l0_1.length:Int):=of_decide_eq_true zc_;obtain ⟨ad341,e341,hx341_0,hx341_1,hx341_2⟩:=at_T70 HR0_1.out x14_1 p341 q341
            cases e341
            (try (replace hx341_0:=q3h_ HB.out hx341_0));(try (replace hx341_1:=q3h_ HB.out hx341_1));(try (replace hx341_2:=q3h_ HB.out hx341_2));replace p341:=eq_true p341;replace q341:=eq_true q341;(try go_wp2_with (first | ((with_reducible refine gate_dst (N:=6) rfl ?_);refine box_event ?hg (N:=6) ?hd (cs:=#[.int .i64 0,.int .i64 0,.int .i64 0]) (t:=70) ?hr ?_;(case hd=>rfl);(case hg=>rfl);(case hr=>exact zb_);intro gb342 hg w18 hbox hb;have n_:=z (Kd.R_below (zr HO_4.out) hb)<|z (blk_below (zb BK336.out) hb)<|z (below_step zeb_ hb)<|z (hbox)<|z ((by rw [hg];exact (below_size zeb_):w.heap.size≤gb342))<|z ((by rw [hg];exact (below_size zeb_):w.heap.size≤gb342))<|z ((by rw [hg];exact Nat.ne_of_lt (blk_lt (zb BK336.out)):gb336≠gb342))<|z1 ((by rw [hg];exact Nat.ne_of_gt (blk_lt (zb BK336.out)):gb342≠gb336));clear HO_4 BK336 HB;obtain ⟨HO_4,BK336,HB,BK342,GW342,GE342,NB336_342,NB342_336⟩:=n_;clear hb hbox hg;have hnb19:=NB342_336.out;have hnc19:=NB336_342.out;obtain ⟨hcz20_0,hcz20_1,hcz20_2,hfz20_0,hfz20_1,hfz20_2⟩:=zk3 BK342.out)));have n0_:Aside0 (Kd.R (Kd.int .i64) 3 (((w18.setCell ⟨gb342,0,none⟩ (.int .i64 ((rd_T70 l0_1 x14_1).f0))).setCell ⟨gb342,1,none⟩ (.int .i64 ((rd_T70 l0_1 x14_1).f1))).setCell ⟨gb342,2,none⟩ (.int .i64 ((rd_T70 l0_1 x14_1).f2))) w.heap.size (fun _=>True) u4 x4_1):=⟨by refine zr ?_;exact Kd.R_mono (Kd.R_far (p:=⟨gb342,2,none⟩) (Kd.R_far (p:=⟨gb342,1,none⟩) (Kd.R_far (p:=⟨gb342,0,none⟩) (Kd.R_types HO_4.out BK342.out (by decide)) (fun _ hk=>hk.2) (.int .i64 ((rd_T70 l0_1 x14_1).f0))) (fun _ hk=>hk.2) (.int .i64 ((rd_T70 l0_1 x14_1).f1))) (fun _ hk=>hk.2) (.int .i64 ((rd_T70 l0_1 x14_1).f2))) (fun _ hk=>trivial)⟩;have n1_:Aside0 ((((w18.setCell ⟨gb342,0,none⟩ (.int .i64 ((rd_T70 l0_1 x14_1).f0))).setCell ⟨gb342,1,none⟩ (.int .i64 ((rd_T70 l0_1 x14_1).f1))).setCell ⟨gb342,2,none⟩ (.int .i64 ((rd_T70 l0_1 x14_1).f2))).heap[gb336]?=some (.cells #[.int .i64 a0_0,.slice (some ad341) l0_1.length c0_1,.int .i64 a0_2] 30 (0,0))):=⟨by refine zb ?_;refine blk_far ?_ NB336_342.out _;refine zb ?_;refine blk_far ?_ NB336_342.out _;refine zb ?_;refine blk_far ?_ NB336_342.out _;refine zb ?_;exact BK336.out⟩;have n2_:Aside0 ((((w18.setCell ⟨gb342,0,none⟩ (.int .i64 ((rd_T70 l0_1 x14_1).f0))).setCell ⟨gb342,1,none⟩ (.int .i64 ((rd_T70 l0_1 x14_1).f1))).setCell ⟨gb342,2,none⟩ (.int .i64 ((rd_T70 l0_1 x14_1).f2))).heap[gb342]?=some (.cells #[.int .i64 ((rd_T70 l0_1 x14_1).f0),.int .i64 ((rd_T70 l0_1 x14_1).f1),.int .i64 ((rd_T70 l0_1 x14_1).f2)] 70 (0,0))):=⟨by refine zb ?_;refine blk_put (cs:=#[.int .i64 ((rd_T70 l0_1 x14_1).f0),.int .i64 ((rd_T70 l0_1 x14_1).f1),.int .i64 0]) ?_ 2 _ rfl;refine zb ?_;refine blk_put (cs:=#[.int .i64 ((rd_T70 l0_1 x14_1).f0),.int .i64 0,.int .i64 0]) ?_ 1 _ rfl;refine zb ?_;refine blk_put (cs:=#[.int .i64 0,.int .i64 0,.int .i64 0]) ?_ 0 _ rfl;refine zb ?_;exact BK342.out⟩;have n3_:Aside0 (Below w.heap.size w (((w18.setCell ⟨gb342,0,none⟩ (.int .i64 ((rd_T70 l0_1 x14_1).f0))).setCell ⟨gb342,1,none⟩ (.int .i64 ((rd_T70 l0_1 x14_1).f1))).setCell ⟨gb342,2,none⟩ (.int .i64 ((rd_T70 l0_1 x14_1).f2)))):=⟨zjf_⟩;(try clear HO_4);(try clear BK336);(try clear BK342);(try clear HB);generalize (((w18.setCell ⟨gb342,0,none⟩ (.int .i64 ((rd_T70 l0_1 x14_1).f0))).setCell ⟨gb342,1,none⟩ (.int .i64 ((rd_T70 l0_1 x14_1).f1))).setCell ⟨gb342,2,none⟩ (.int .i64 ((rd_T70 l0_1 x14_1).f2)))=w21 at n0_ n1_ n2_ n3_ ⊢;have HO_4:=n0_;have BK336:=n1_;have BK342:=n2_;have HB:=n3_;clear n0_ n1_ n2_ n3_;have n_:=z (kD HO_4.out)<|z (blk_drew BK336.out)<|z (blk_drew BK342.out)<|z1 (p1 HB.out)
            clear HO_4 BK336 BK342 HB;obtain ⟨HO_4,BK336,BK342,HB⟩:=n_;obtain ⟨Ao23,co23,eo23⟩:=Kd.R_slice HO_4.out;(first | subst eo23 | (injection eo23 with f1_ f2_ f3_;have f4_:=f1_.symm;have f5_:=f3_.symm;clear f1_ f2_ f3_;subst f4_;subst f5_));have p343:0≤(((rd_T70 l0_1 x14_1).f1):Int):=of_decide_eq_true zc_;have q343:((rd_T70 l0_1 x14_1).f1)<(x4_1.length:Int):=of_decide_eq_true zc_;obtain ⟨ad343,e343,hx343_0⟩:=Kd.at_int (Kd.R_reads' HO_4.out).2.2 ((rd_T70 l0_1 x14_1).f1) p343 q343
            cases e343
            replace p343:=eq_true p343;replace q343:=eq_true q343;have p344:0≤(((rd_T70 l0_1 x14_1).f2):Int):=of_decide_eq_true zc_;have q344:((rd_T70 l0_1 x14_1).f2)<(x4_1.length:Int):=of_decide_eq_true zc_;obtain ⟨ad344,e344,hx344_0⟩:=Kd.at_int (Kd.R_reads' HO_4.out).2.2 ((rd_T70 l0_1 x14_1).f2) p344 q344;obtain rfl:ad343=ad344:=(by injection e344);replace p344:=eq_true p344;replace q344:=eq_true q344
            refine start_ (n:=15) (S:=fun w'=>w'.cell? ⟨gb342,0,none⟩=some (.int .i64 ((rd_T70 l0_1 x14_1).f0))∧w'.cell? ⟨gb342,1,none⟩=some (.int .i64 ((rd_T70 l0_1 x14_1).f1))∧w'.cell? ⟨gb342,2,none⟩=some (.int .i64 ((rd_T70 l0_1 x14_1).f2))∧w'.cell? (ad343.add (((rd_T70 l0_1 x14_1).f1)).toNat)=some (.int .i64 (rd x4_1 ((rd_T70 l0_1 x14_1).f1)))∧w'.cell? (ad343.add (((rd_T70 l0_1 x14_1).f2)).toNat)=some (.int .i64 (rd x4_1 ((rd_T70 l0_1 x14_1).f2)))) (ds:=[12,13]) #[fi,fi,fi,fi,fi,fi,fi,fi,fi,fi,fi,fi,fi,fi,fi] (by kernel_rfl) rfl rfl ⟨(blk_cell BK342.out 0).trans rfl,(blk_cell BK342.out 1).trans rfl,(blk_cell BK342.out 2).trans rfl,hx343_0,hx344_0⟩ (fun hHeld=>?_);refine with_tabW impl_TruePaths.tab7 impl_TruePaths.bits7 (fun HT_ HW_=>?_)
            generalize w21.drew=w22 at HO_4 BK336 BK342 HB hx343_0 hx344_0 hHeld ⊢;refine py_ 0 18 HT_.out ?_;refine py_ 1 19 HT_.out ?_;refine py_ 2 20 HT_.out ?_;refine py_ 6 24 HT_.out ?_;refine py_ 7 25 HT_.out ?_
            refine tw5_ 3 21 HT_.out HW_.out hHeld ?_
            refine py_ 4 22 HT_.out ?_
            refine tw5_ 5 23 HT_.out HW_.out hHeld ?_
            refine tw5_ 8 26 HT_.out HW_.out hHeld ?_
            refine py_ 9 27 HT_.out ?_
            refine tw5_ 10 28 HT_.out HW_.out hHeld ?_
            refine py_ 11 29 HT_.out ?_
            refine last_ (i:=12) (N:=some 30) #[ti,ti,ti,ti,ti,ti,ti,ti,ti,ti,ti,ti,ti,fi,fi] rfl rfl (one_of HT_.out (by kernel_rfl)) (by decide) (fun K hK=>?_)
            refine value_ (w1:=?_) (v:=?_) (by rfl) rfl ?_ ?_
            rotate_left 2
            ·go_simp
             constructor
             ·rfl
             ·rfl
            refine hK.out _ _ ?_
            clear hK K
            refine nz_ 30 ?_
            refine last_ (i:=13) (N:=some 31) #[ti,ti,ti,ti,ti,ti,ti,ti,ti,ti,ti,ti,ti,ti,fi] rfl rfl (one_of HT_.out (by kernel_rfl)) (by decide) (fun K hK=>?_)
            refine Kd.R_append_step (Kd.int .i64) (w0:=w) w.heap.size (by rfl) (.tmp 18) (.tmp 30) 24 3 (.int .i64 0) 8 rfl Tryd.underlying24 info3 rfl (by decide) (by omega) (.slice (some ad343) x4_1.length co23) x4_1 (wrap64 ((rd x4_1 ((rd_T70 l0_1 x14_1).f1))+(rd x4_1 ((rd_T70 l0_1 x14_1).f2)))) [.int .i64 (wrap64 ((rd x4_1 ((rd_T70 l0_1 x14_1).f1))+(rd x4_1 ((rd_T70 l0_1 x14_1).f2))))] (fun _=>True) (fun _=>False) rfl rfl ?aP (fun _ hk=>hk.elim) ?aF ?aO ?aB ?aS ?aL ?_
            (case aP=>exact rfl)
            (case aB=>exact zjf_)
            (case aF=>exact zdf_)
            (case aO=>exact (zr HO_4.out))
            (case aS=>exact (below_size zjf_))
            (case aL=>have:=LMc17.out;omega)
            intro v346 w24 ho hb hg hat
            rw [← Ny345.out] at ho;have n_:=z (blk_grown (g:=gb336) (o := .cells #[.int .i64 a0_0,.slice (some ad341) l0_1.length c0_1,.int .i64 a0_2] 30 (0,0)) (zb BK336.out) hg (Kd.R_ne HO_4.out BK336.out (by decide)))<|z (blk_grown (g:=gb342) (o := .cells #[.int .i64 ((rd_T70 l0_1 x14_1).f0),.int .i64 ((rd_T70 l0_1 x14_1).f1),.int .i64 ((rd_T70 l0_1 x14_1).f2)] 70 (0,0)) (zb BK342.out) hg (Kd.R_ne HO_4.out BK342.out (by decide)))<|z (hb)<|z1 (ho)
            clear BK336 BK342 HB HO_4;obtain ⟨BK336,BK342,HB,HO347⟩:=n_;clear ho hb hg hat
            refine hK.out _ _ ?_
            clear hK K
            refine nz_ 31 ?_
            refine py_ 14 4 HT_.out ?_
            refine done_ (done_of HT_.out (by kernel_rfl)) ?_
            (try go_wp2)
            go_roundg k1
            case measure=>have:=HK1.out;omega
            case rel=>exact ⟨(y345),(wrap64 (x14_1+1)),ze_,H',⟨zbd_⟩,⟨zr HO347.out⟩,⟨zb BK336.out⟩,⟨zjf_⟩⟩
           ·rw [if_neg c17] at H
            exact q3n_ H
          ·rw [if_neg c16] at H
           exact q3n_ H
         ·rw [if_neg c15] at H
          exact q3n_ H
        ·rw [if_neg c14] at H
         exact q3n_ H
       ·rw [if_neg c13] at H
        exact q3n_ H
      ·rw [if_neg c12] at H
       exact q3n_ H
     ·rw [if_neg c11] at H
      exact q3n_ H
    ·rw [if_neg c10] at H
     have c10b0:=decide_eq_false c10;clear c10
     by_cases c25:0≤a0_2
     ·rw [if_pos c25] at H
      have c25b0:=decide_eq_true c25;clear c25
      by_cases c26:a0_2<(x4_1.length:Int)
      ·rw [if_pos c26] at H
       have c26b0:=decide_eq_true c26;clear c26
       simp only [Option.some.injEq,Prod.mk.injEq] at H
       obtain ⟨rfl,rfl⟩:=H;obtain ⟨hcz27_0,hcz27_1,hcz27_2,hfz27_0,hfz27_1,hfz27_2⟩:=zk3 BK336.out;obtain ⟨Ao28,co28,eo28⟩:=Kd.R_slice HO_4.out;subst eo28;have p348:0≤(a0_2:Int):=of_decide_eq_true zc_;have q348:a0_2<(x4_1.length:Int):=of_decide_eq_true zc_;obtain ⟨ad348,e348,hx348_0⟩:=Kd.at_int (Kd.R_reads' HO_4.out).2.2 a0_2 p348 q348
       cases e348
       replace p348:=eq_true p348;replace q348:=eq_true q348
       go_wp2
       go_ret2
       exact ⟨zf_,zeb_⟩
      ·rw [if_neg c26] at H
       exact q3n_ H
     ·rw [if_neg c25] at H
      exact q3n_ H
 ·replace c3:=Bool.eq_false_iff.mpr c3
  subst c3;have H1:(some (0,false))=some (r1,r2):=by rw [if_neg (show ¬ (false=true) by decide)] at H;exact H
  clear H;have H:=H1;clear H1
  simp only [Option.some.injEq,Prod.mk.injEq] at H
  obtain ⟨rfl,rfl⟩:=H
  go_enter Tryd.func21,Tryd.ntmps21
  go_wp2_with (first | ((with_reducible refine gate_dst (N:=1) rfl ?_);refine box_event ?hg (N:=1) ?hd (cs:=#[.int .i64 a0_0,.slice A0_1 l0_1.length c0_1,.int .i64 a0_2]) (t:=30) ?hr ?_;(case hd=>rfl);(case hg=>rfl);(case hr=>exact zb_);intro gb336 hg w29 hbox hb;have n_:=z (below_step za_ hb)<|z (hbox)<|z ((by rw [hg];exact (below_size za_):w.heap.size≤gb336))<|z1 ((by rw [hg];exact (below_size za_):w.heap.size≤gb336));clear HB;obtain ⟨HB,BK336,GW336,GE336⟩:=n_;clear hb hbox hg;obtain ⟨hcz30_0,hcz30_1,hcz30_2,hfz30_0,hfz30_1,hfz30_2⟩:=zk3 BK336.out)|((with_reducible refine gate_callee (f:=15) rfl ?_);refine goesL_ (some 8) rfl rfl Tryd.func15 (by kernel_rfl) rfl #[.agg #[.int .i64 a0_0,.slice A0_1 l0_1.length c0_1,.int .i64 a0_2]] rfl zd_ ?_;(with_reducible refine (impl_IsDiagram.calls k a0_0 _ _ l0_1 a0_2 false _ ?side1 ?side2 A2.out).mono ?_);(case side1=>exact zg_);(case side2=>exact HC0_1.out);rintro e w31 ⟨rfl,hb⟩;refine ⟨_,rfl,?_⟩;have n_:=z (blk_below (zb BK336.out) hb)<|z1 (below_step zeb_ hb);clear BK336 HB;obtain ⟨BK336,HB⟩:=n_;clear hb))
  go_ret2
  exact ⟨zf_,zeb_⟩
def laws_pSum.l0:Nat→Int→List Int→Int→Int→Option (Int)
 | 0,_,_,_,_=>none
 | k+1,x3,x6,x7,x8=>if x8<x7 then (if 0≤x8 then (if x8<(x6.length:Int) then (laws_pSum.l0 k (wrap64 (x3+(rd x6 x8))) x6 x7 (wrap64 (x8+1))) else (none)) else (none)) else (some x3)
def laws_pSum.f (k:Nat) (l0:List Int):Option (Int):=laws_pSum.l0 k 0 l0 (l0.length:Int) 0
theorem laws_pSum.calls (k:Nat) (A0:Option Addr) (c0:Nat) (l0:List Int) (r:Int) (w:World) (hr0:Kd.C (Kd.int .i64) w A0 l0.length l0) (hc0:l0.length≤c0) (h:laws_pSum.f k l0=some r) :
  Calls Tryd.prog 22 #[.slice A0 l0.length c0] w fun e w'=>e = .returned (.int .i64 r)∧Drawn0 w w':=by
 have HR0:=aM hr0
 have HC0:=aM hc0
 clear hr0 hc0
 have H:(laws_pSum.l0 k 0 l0 (l0.length:Int) 0)=some r:=h
 clear h
 have H':=aM H
 clear H
 go_enter Tryd.func22,Tryd.ntmps22
 go_wp2
 go_loopg [3,8] k (fun kq v3 v8 w' => ∃ (x3_1:Int) (x8_1:Int),v3 = .int .i64 x3_1∧v8 = .int .i64 x8_1∧Aside0 (laws_pSum.l0 kq x3_1 l0 (l0.length:Int) x8_1=some r)∧Aside0 (kq≤k)∧Drawn0 w w')
 case atStart=>exact ⟨(0),(0),ze_,ze_,H',⟨Nat.le_refl _⟩,zbb_⟩
 case round =>
  clear H';obtain ⟨x3_1,x8_1,rfl,rfl,HA,HK1,⟨m1,rfl⟩⟩:=hrel
  cases gk with
  | zero=>exact absurd HA.out (by simp [laws_pSum.l0])
  | succ k1 =>
   have H:=HA.out;clear HA
   simp only [laws_pSum.l0] at H
   by_cases c2:x8_1<(l0.length:Int)
   ·rw [if_pos c2] at H
    have c2b0:=decide_eq_true c2;clear c2
    by_cases c3:0≤x8_1
    ·rw [if_pos c3] at H
     have c3b0:=decide_eq_true c3;clear c3
     by_cases c4:x8_1<(l0.length:Int)
     ·rw [if_pos c4] at H
      have c4b0:=decide_eq_true c4;clear c4;have H':=aM H;clear H;have p349:0≤(x8_1:Int):=of_decide_eq_true zc_;have q349:x8_1<(l0.length:Int):=of_decide_eq_true zc_;obtain ⟨ad349,e349,hx349_0⟩:=Kd.at_int HR0.out x8_1 p349 q349
      cases e349
      replace p349:=eq_true p349;replace q349:=eq_true q349
      go_wp2
      go_roundg k1
      case measure=>have:=HK1.out;omega
      case rel=>exact ⟨(wrap64 (x3_1+(rd l0 x8_1))),(wrap64 (x8_1+1)),ze_,ze_,H',⟨zbd_⟩,zbb_⟩
     ·rw [if_neg c4] at H
      exact q3n_ H
    ·rw [if_neg c3] at H
     exact q3n_ H
   ·rw [if_neg c2] at H
    have c2b0:=decide_eq_false c2;clear c2;obtain rfl:=Option.some.inj H
    go_wp2
    go_ret
    exact ⟨ze_,zbb_⟩
end Go.Proofs.YtlnhpkjioppbiaaDoor.QFnDiagrams
