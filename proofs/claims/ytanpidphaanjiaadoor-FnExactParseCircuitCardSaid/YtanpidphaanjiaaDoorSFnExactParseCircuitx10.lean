/- Functions of FnExactParseCircuit, each as a Lean function, with the proof that the Go code comes to its answers. -/
import Derived.Test.YtanpidphaanjiaaDoorSFnExactParseCircuitx2
import Derived.Test.YtanpidphaanjiaaDoorSFnExactParseCircuitx8
import Derived.Test.YtanpidphaanjiaaDoorSFnExactParseCircuitx9
namespace Go.Proofs.YtanpidphaanjiaaDoor.QFnExactParseCircuit
open Go.RowKit Go.Proofs.YtanpidphaanjiaaDoorW.PrintWords Go.Proofs.YtanpidphaanjiaaDoorW.PrintLast Go.Proofs.YtanpidphaanjiaaDoorW.PrintMore
open Go.Proofs.YtanpidphaanjiaaDoorW.PrintWords renaming pw_below_drewN→pN,below_drew1→p1,below_alloc→pA
open Go.Proofs.YtanpidphaanjiaaDoorW.PrintWords.Kd renaming R_alloc→kA,R_drewN→kN,R_drew→kD,Q_alloc→qA,Q_drewN→qN,Q_drew→qD,C_alloc→cA,C_drewN→cN,C_drew→cD
open Go.Proofs.YtanpidphaanjiaaDoorW.PrintWords.Aside0 renaming mk→aM
open List renaming setIfInBounds_toArray→sI,set_cons_zero→s0,set_cons_succ→sS,map_toArray→mT,length_take→lT,length_drop→lD,map_cons→mC,map_nil→mN
open Option renaming bind_eq_some_iff→oB,bind_some→oS
attribute [local go_sem] max2_int min2_int max_two min_two max_three min_three max_four min_four
set_option maxHeartbeats 8000000
set_option maxRecDepth 100000
set_option linter.unusedVariables false
set_option linter.unusedSimpArgs false
mutual
def impl_ParseCircuit.j0:Nat→List ByteArray→Bool→Option (Int×(List (S47))×List Int×Bool)
 | 0,_,_=>none
 | k+1,x4,x33=>if x33=true then (some (0,([]:List (S47)),([]:List Int),false)) else (if 0<(x4.length:Int) then ((impl_decimal.f k (rdOf ByteArray.empty x4 0)).bind fun bt264=>(if bt264.2=true then (if 1≤(wrap64 ((x4.length:Int) - 1)) then (if (wrap64 ((x4.length:Int) - 1))≤(x4.length:Int) then ((some ((x4.take ((wrap64 ((x4.length:Int) - 1)):Int).toNat).drop 1:List ByteArray)).bind fun y267=>(impl_ParseCircuit.l0 k x4 y267 (y267.length:Int) 0 bt264.1 ([]:List (S47)))) else (none)) else (none)) else (some (0,([]:List (S47)),([]:List Int),false)))) else (none))
def impl_ParseCircuit.l0:Nat→List ByteArray→List ByteArray→Int→Int→Int→List (S47)→Option (Int×(List (S47))×List Int×Bool)
 | 0,_,_,_,_,_,_=>none
 | k+1,x4,x51,x52,x53,x267000,x267001=>if x53<x52 then (if 0≤x53 then (if x53<(x51.length:Int) then ((impl_readGate.f k (rdOf ByteArray.empty x51 x53)).bind fun bt272=>(if bt272.2.2.2=true then (if x267001.length<5864062014805 then (impl_ParseCircuit.l0 k x4 x51 x52 (wrap64 (x53+1)) x267000 (x267001 ++ [(⟨bt272.1,bt272.2.1,bt272.2.2.1⟩:S47)])) else (none)) else (some (0,([]:List (S47)),([]:List Int),false)))) else (none)) else (none)) else (if 0≤(wrap64 ((x4.length:Int) - 1)) then (if (wrap64 ((x4.length:Int) - 1))<(x4.length:Int) then ((strings_Split.f k (rdOf ByteArray.empty x4 (wrap64 ((x4.length:Int) - 1))) (⟨#[32]⟩:ByteArray)).bind fun t281=>(if 0<(t281.length:Int) then (if (rdOf ByteArray.empty t281 0).toList=([111,117,116]:List UInt8) then (if 1≤(t281.length:Int) then ((some (t281.drop (1:Int).toNat:List ByteArray)).bind fun y285=>(impl_ParseCircuit.l1 k y285 (y285.length:Int) 0 x267000 x267001 ([]:List Int))) else (none)) else (some (0,([]:List (S47)),([]:List Int),false))) else (none))) else (none)) else (none))
def impl_ParseCircuit.l1:Nat→List ByteArray→Int→Int→Int→List (S47)→List Int→Option (Int×(List (S47))×List Int×Bool)
 | 0,_,_,_,_,_,_=>none
 | k+1,x85,x86,x87,x267000,x267001,x267002=>if x87<x86 then (if 0≤x87 then (if x87<(x85.length:Int) then ((impl_decimal.f k (rdOf ByteArray.empty x85 x87)).bind fun bt289=>(if bt289.2=true then (if x267002.length<17592186044416 then (impl_ParseCircuit.l1 k x85 x86 (wrap64 (x87+1)) x267000 x267001 (x267002 ++ [bt289.1])) else (none)) else (some (0,([]:List (S47)),([]:List Int),false)))) else (none)) else (none)) else ((impl_IsCircuit.f k x267000 x267001 x267002).bind fun t294=>(if t294=true then (some (x267000,x267001,x267002,true)) else (some (0,([]:List (S47)),([]:List Int),false))))
end
def impl_ParseCircuit.f (k:Nat) (a0:ByteArray):Option (Int×(List (S47))×List Int×Bool):=(impl_linesOf.f k a0).bind fun bt259=>(if bt259.2=true then (if (bt259.1.length:Int)<2 then (impl_ParseCircuit.j0 k bt259.1 true) else (impl_ParseCircuit.j0 k bt259.1 (decide ((bt259.1.length:Int)>18)))) else (impl_ParseCircuit.j0 k bt259.1 true))
theorem impl_ParseCircuit.mono_l:∀ k,(∀ y0 y1,LeO (impl_ParseCircuit.j0 k y0 y1) (impl_ParseCircuit.j0 (k+1) y0 y1))∧(∀ y0 y1 y2 y3 y4 y5,LeO (impl_ParseCircuit.l0 k y0 y1 y2 y3 y4 y5) (impl_ParseCircuit.l0 (k+1) y0 y1 y2 y3 y4 y5))∧(∀ y0 y1 y2 y3 y4 y5,LeO (impl_ParseCircuit.l1 k y0 y1 y2 y3 y4 y5) (impl_ParseCircuit.l1 (k+1) y0 y1 y2 y3 y4 y5))
 | 0=>⟨fun _ _ r h=>by simp [impl_ParseCircuit.j0] at h,fun _ _ _ _ _ _ r h=>by simp [impl_ParseCircuit.l0] at h,fun _ _ _ _ _ _ r h=>by simp [impl_ParseCircuit.l1] at h⟩
 | k+1=>by
  obtain ⟨ih0,ih1,ih2⟩:=impl_ParseCircuit.mono_l k
  refine ⟨?_,?_,?_⟩
  ·intro y0 y1
   unfold impl_ParseCircuit.j0
   repeat' first
   | (with_reducible exact ih0 _ _)
   | (with_reducible exact ih1 _ _ _ _ _ _)
   | (with_reducible exact ih2 _ _ _ _ _ _)
   | (with_reducible exact impl_IsCircuit.mono _ _ _ _)
   | (with_reducible exact impl_decimal.mono _ _)
   | (with_reducible exact impl_linesOf.mono _ _)
   | (with_reducible exact impl_readGate.mono _ _)
   | (with_reducible exact strings_Split.mono _ _ _)
   | (with_reducible exact LeO.refl _)
   | (with_reducible exact LeO.none _)
   | (with_reducible refine LeO.ite ?_ ?_)
   | (with_reducible refine LeO.bind ?_ (fun _=>?_))
   | exact ih0 _ _
   | exact ih1 _ _ _ _ _ _
   | exact ih2 _ _ _ _ _ _
   | exact impl_IsCircuit.mono _ _ _ _
   | exact impl_decimal.mono _ _
   | exact impl_linesOf.mono _ _
   | exact impl_readGate.mono _ _
   | exact strings_Split.mono _ _ _
   | exact LeO.none _
   | refine LeO.ite ?_ ?_
   | refine LeO.bind ?_ (fun _=>?_)
  ·intro y0 y1 y2 y3 y4 y5
   unfold impl_ParseCircuit.l0
   repeat' first
   | (with_reducible exact ih0 _ _)
   | (with_reducible exact ih1 _ _ _ _ _ _)
   | (with_reducible exact ih2 _ _ _ _ _ _)
   | (with_reducible exact impl_IsCircuit.mono _ _ _ _)
   | (with_reducible exact impl_decimal.mono _ _)
   | (with_reducible exact impl_linesOf.mono _ _)
   | (with_reducible exact impl_readGate.mono _ _)
   | (with_reducible exact strings_Split.mono _ _ _)
   | (with_reducible exact LeO.refl _)
   | (with_reducible exact LeO.none _)
   | (with_reducible refine LeO.ite ?_ ?_)
   | (with_reducible refine LeO.bind ?_ (fun _=>?_))
   | exact ih0 _ _
   | exact ih1 _ _ _ _ _ _
   | exact ih2 _ _ _ _ _ _
   | exact impl_IsCircuit.mono _ _ _ _
   | exact impl_decimal.mono _ _
   | exact impl_linesOf.mono _ _
   | exact impl_readGate.mono _ _
   | exact strings_Split.mono _ _ _
   | exact LeO.none _
   | refine LeO.ite ?_ ?_
   | refine LeO.bind ?_ (fun _=>?_)
  ·intro y0 y1 y2 y3 y4 y5
   unfold impl_ParseCircuit.l1
   repeat' first
   | (with_reducible exact ih0 _ _)
   | (with_reducible exact ih1 _ _ _ _ _ _)
   | (with_reducible exact ih2 _ _ _ _ _ _)
   | (with_reducible exact impl_IsCircuit.mono _ _ _ _)
   | (with_reducible exact impl_decimal.mono _ _)
   | (with_reducible exact impl_linesOf.mono _ _)
   | (with_reducible exact impl_readGate.mono _ _)
   | (with_reducible exact strings_Split.mono _ _ _)
   | (with_reducible exact LeO.refl _)
   | (with_reducible exact LeO.none _)
   | (with_reducible refine LeO.ite ?_ ?_)
   | (with_reducible refine LeO.bind ?_ (fun _=>?_))
   | exact ih0 _ _
   | exact ih1 _ _ _ _ _ _
   | exact ih2 _ _ _ _ _ _
   | exact impl_IsCircuit.mono _ _ _ _
   | exact impl_decimal.mono _ _
   | exact impl_linesOf.mono _ _
   | exact impl_readGate.mono _ _
   | exact strings_Split.mono _ _ _
   | exact LeO.none _
   | refine LeO.ite ?_ ?_
   | refine LeO.bind ?_ (fun _=>?_)
theorem impl_ParseCircuit.mono:∀ a0 k,LeO (impl_ParseCircuit.f k a0) (impl_ParseCircuit.f (k+1) a0):=by
 intro a0 k
 obtain ⟨ih0,ih1,ih2⟩:=impl_ParseCircuit.mono_l k
 unfold impl_ParseCircuit.f
 repeat' first
   | (with_reducible exact ih0 _ _)
   | (with_reducible exact ih1 _ _ _ _ _ _)
   | (with_reducible exact ih2 _ _ _ _ _ _)
   | (with_reducible exact impl_IsCircuit.mono _ _ _ _)
   | (with_reducible exact impl_decimal.mono _ _)
   | (with_reducible exact impl_linesOf.mono _ _)
   | (with_reducible exact impl_readGate.mono _ _)
   | (with_reducible exact strings_Split.mono _ _ _)
   | (with_reducible exact LeO.refl _)
   | (with_reducible exact LeO.none _)
   | (with_reducible refine LeO.ite ?_ ?_)
   | (with_reducible refine LeO.bind ?_ (fun _=>?_))
   | exact ih0 _ _
   | exact ih1 _ _ _ _ _ _
   | exact ih2 _ _ _ _ _ _
   | exact impl_IsCircuit.mono _ _ _ _
   | exact impl_decimal.mono _ _
   | exact impl_linesOf.mono _ _
   | exact impl_readGate.mono _ _
   | exact strings_Split.mono _ _ _
   | exact LeO.none _
   | refine LeO.ite ?_ ?_
   | refine LeO.bind ?_ (fun _=>?_)
theorem impl_ParseCircuit.calls (k:Nat) (a0:ByteArray) (r1:Int) (r2:List (S47)) (r3:List Int) (r4:Bool) (w:World) (h:impl_ParseCircuit.f k a0=some (r1,r2,r3,r4)) (hG:GW w) :
  Calls Tryd.prog 11 #[.string a0] w fun e w' => ∃ v1_ v2_:Value,e = .returned (.tuple #[.agg #[.int .i64 r1,v1_,v2_],.bool r4])∧Kd.R k47 47 w' w.heap.size (fun _=>True) v1_ r2∧Kd.R (Kd.int .i64) 3 w' w.heap.size (fun _=>True) v2_ r3∧Below w.heap.size w w':=by
 have hu31:=Tryd.underlying31
 have hu47:=Tryd.underlying47
 have hG_:=aM hG
 clear hG
 have HB:=aM (Below.refl w.heap.size w)
 have H:((impl_linesOf.f k a0).bind fun bt259=>(if bt259.2=true then (if (bt259.1.length:Int)<2 then (impl_ParseCircuit.j0 k bt259.1 true) else (impl_ParseCircuit.j0 k bt259.1 (decide ((bt259.1.length:Int)>18)))) else (impl_ParseCircuit.j0 k bt259.1 true)))=some (r1,r2,r3,r4):=h
 clear h
 replace H:=oB.mp H
 obtain ⟨⟨t259,t260⟩,A20,H⟩:=H
 replace H:(if t260=true then (if (t259.length:Int)<2 then (impl_ParseCircuit.j0 k t259 true) else (impl_ParseCircuit.j0 k t259 (decide ((t259.length:Int)>18)))) else (impl_ParseCircuit.j0 k t259 true))=some (r1,r2,r3,r4):=H
 have A2:=aM A20
 clear A20
 have HC3:=aM H
 clear H
 go_enter Tryd.func11,Tryd.ntmps11
 go_upto_region 2 with (first | ((with_reducible refine gate_dst (N:=2) rfl ?_);(try (refine gate_guard (by rfl) ?_;dsimp only));refine box_event ?hg (N:=2) ?hd (cs:=#[.int .i64 0,.slice none 0 0,.slice none 0 0]) (t:=31) ?hr ?_;(case hd=>rfl);(case hg=>rfl);(case hr=>exact ze_);intro gb258 hg w4 hbox hb;have n_:=z (below_step zb_ hb)<|z (hbox)<|z ((by rw [hg];exact (below_size zb_):w.heap.size≤gb258))<|z1 ((by rw [hg];exact (below_size zb_):w.heap.size≤gb258));clear HB;obtain ⟨HB,BK258,GW258,GE258⟩:=n_;clear hb hbox hg)|((with_reducible refine gate_callee (f:=29) rfl ?_);refine goesL_ (some 19) rfl rfl Tryd.func29 (by kernel_rfl) rfl #[.string a0] rfl zd_ ?_;(with_reducible refine (impl_linesOf.calls k a0 t259 t260 _ A2.out).mono ?_);rintro e w5 ⟨v261,rfl,ho0,hb⟩;refine ⟨_,rfl,?_⟩;have n_:=z (Kd.R_lower ho0 (below_size zcb_))<|z (blk_below (zb BK258.out) hb)<|z1 (below_step zcb_ hb);clear BK258 HB;obtain ⟨HO262,BK258,HB⟩:=n_;clear hb;(try clear ho0)))
 (try simp only [Act.put,sI,s0,sS])
 go_cut [33] (fun v33 wc => ∃ (kq:Nat) (x33_2:Bool),v33 = .bool x33_2∧Aside0 (impl_ParseCircuit.j0 kq t259 x33_2=some (r1,r2,r3,r4))∧Aside0 (kq≤k)∧Aside0 (Kd.R Kd.string 9 wc w.heap.size (fun _=>True) v261 t259)∧Aside0 (wc.heap[gb258]?=some (.cells #[.int .i64 0,(.slice none 0 0),(.slice none 0 0)] 31 (0,0)))∧Aside0 (Below w.heap.size w wc))
 case first =>
  have H:=HC3.out;clear HC3
  by_cases c6:t260=true
  ·subst c6
   have H1:(if (t259.length:Int)<2 then (impl_ParseCircuit.j0 k t259 true) else (impl_ParseCircuit.j0 k t259 (decide ((t259.length:Int)>18))))=some (r1,r2,r3,r4):=by rw [if_pos rfl] at H;exact H
   clear H;have H:=H1;clear H1
   by_cases c7:(t259.length:Int)<2
   ·rw [if_pos c7] at H
    have c7b0:=decide_eq_true c7;have c7b1:decide (t259.length<2)=true:=decide_eq_true (by omega);clear c7;(first | rw [c7b0]|(simp only [i64_w,i32_w];rw [c7b0]) | skip);have H':=aM H;clear H;obtain ⟨Ao8,co8,eo8⟩:=Kd.R_slice HO262.out;subst eo8
    go_wp2
    go_meet
    case rel=>exact ⟨_,(true),zc_,H',⟨zbc_⟩,⟨zr HO262.out⟩,⟨zb BK258.out⟩,⟨zcb_⟩⟩
   ·rw [if_neg c7] at H
    have c7b0:=decide_eq_false c7;have c7b1:decide (t259.length<2)=false:=decide_eq_false (by omega);clear c7;(first | rw [c7b0]|(simp only [i64_w,i32_w];rw [c7b0]) | skip);have H':=aM H;clear H;obtain ⟨Ao9,co9,eo9⟩:=Kd.R_slice HO262.out;subst eo9
    go_wp2
    go_meet
    case rel=>exact ⟨_,(decide ((t259.length:Int)>18)),zc_,H',⟨zbc_⟩,⟨zr HO262.out⟩,⟨zb BK258.out⟩,⟨zcb_⟩⟩
  ·replace c6:=Bool.eq_false_iff.mpr c6
   subst c6;have H1:(impl_ParseCircuit.j0 k t259 true)=some (r1,r2,r3,r4):=by rw [if_neg (show ¬ (false=true) by decide)] at H;exact H
   clear H;have H:=H1;clear H1;have H':=aM H;clear H
   go_wp2
   go_meet
   case rel=>exact ⟨_,(true),zc_,H',⟨zbc_⟩,⟨zr HO262.out⟩,⟨zb BK258.out⟩,⟨zcb_⟩⟩
 case rest =>
  clear HC3;obtain ⟨kq,x33_2,rfl,HA,HJ2,HO_4,BK258,HB⟩:=hcut
  cases kq with
  | zero=>exact absurd HA.out (by simp [impl_ParseCircuit.j0])
  | succ kj2 =>
   have H:=HA.out;clear HA
   simp only [impl_ParseCircuit.j0] at H
   by_cases c10:x33_2=true
   ·subst c10
    have H1:(some (0,([]:List (S47)),([]:List Int),false))=some (r1,r2,r3,r4):=by rw [if_pos rfl] at H;exact H
    clear H;have H:=H1;clear H1
    simp only [Option.some.injEq,Prod.mk.injEq] at H
    obtain ⟨rfl,rfl,rfl,rfl⟩:=H;obtain ⟨hcz11_0,hcz11_1,hcz11_2,hfz11_0,hfz11_1,hfz11_2⟩:=zk3 BK258.out
    go_wp2
    refine bodyPost_ret (results_ct rfl _ _ gb258 31 #[.int .i64 0,.slice none 0 0,.slice none 0 0] (0,0) _ rfl (by refine zb ?_;refine blk_put (cs:=#[.int .i64 0,.slice none 0 0,.slice none 0 0]) ?_ 2 _ rfl;refine zb ?_;refine blk_put (cs:=#[.int .i64 0,.slice none 0 0,.slice none 0 0]) ?_ 1 _ rfl;refine zb ?_;refine blk_put (cs:=#[.int .i64 0,.slice none 0 0,.slice none 0 0]) ?_ 0 _ rfl;refine zb ?_;exact BK258.out) Tryd.underlying31 rfl (by kernel_rfl)) rfl ?_
    exact ⟨_,_,zf_,zi_,zi_,zcb_⟩
   ·replace c10:=Bool.eq_false_iff.mpr c10
    subst c10;have H1:(if 0<(t259.length:Int) then ((impl_decimal.f kj2 (rdOf ByteArray.empty t259 0)).bind fun bt264=>(if bt264.2=true then (if 1≤(wrap64 ((t259.length:Int) - 1)) then (if (wrap64 ((t259.length:Int) - 1))≤(t259.length:Int) then ((some ((t259.take ((wrap64 ((t259.length:Int) - 1)):Int).toNat).drop 1:List ByteArray)).bind fun y267=>(impl_ParseCircuit.l0 kj2 t259 y267 (y267.length:Int) 0 bt264.1 ([]:List (S47)))) else (none)) else (none)) else (some (0,([]:List (S47)),([]:List Int),false)))) else (none))=some (r1,r2,r3,r4):=by rw [if_neg (show ¬ (false=true) by decide)] at H;exact H
    clear H;have H:=H1;clear H1
    by_cases c12:0<(t259.length:Int)
    ·rw [if_pos c12] at H
     have c12b0:=decide_eq_true c12;have c12b1:decide (0<t259.length)=true:=decide_eq_true (by omega);clear c12;replace H:=oB.mp H;obtain ⟨⟨t264,t265⟩,A130,H⟩:=H;replace H:(if t265=true then (if 1≤(wrap64 ((t259.length:Int) - 1)) then (if (wrap64 ((t259.length:Int) - 1))≤(t259.length:Int) then ((some ((t259.take ((wrap64 ((t259.length:Int) - 1)):Int).toNat).drop 1:List ByteArray)).bind fun y267=>(impl_ParseCircuit.l0 kj2 t259 y267 (y267.length:Int) 0 t264 ([]:List (S47)))) else (none)) else (none)) else (some (0,([]:List (S47)),([]:List Int),false)))=some (r1,r2,r3,r4):=H;have A13:=aM A130;clear A130
     by_cases c14:t265=true
     ·subst c14
      have H1:(if 1≤(wrap64 ((t259.length:Int) - 1)) then (if (wrap64 ((t259.length:Int) - 1))≤(t259.length:Int) then ((some ((t259.take ((wrap64 ((t259.length:Int) - 1)):Int).toNat).drop 1:List ByteArray)).bind fun y267=>(impl_ParseCircuit.l0 kj2 t259 y267 (y267.length:Int) 0 t264 ([]:List (S47)))) else (none)) else (none))=some (r1,r2,r3,r4):=by rw [if_pos rfl] at H;exact H
      clear H;have H:=H1;clear H1
      by_cases c15:1≤(wrap64 ((t259.length:Int) - 1))
      ·rw [if_pos c15] at H
       have c15b0:=eq_true c15;have c15b1:=decide_eq_true c15;clear c15
       by_cases c16:(wrap64 ((t259.length:Int) - 1))≤(t259.length:Int)
       ·rw [if_pos c16] at H
        have c16b0:=eq_true c16;have c16b1:=decide_eq_true c16;clear c16;obtain ⟨y267,hy267⟩:∃ y_:List ByteArray,y_=((t259.take ((wrap64 ((t259.length:Int) - 1)):Int).toNat).drop 1):=⟨_,rfl⟩;replace H:(impl_ParseCircuit.l0 kj2 t259 y267 (y267.length:Int) 0 t264 ([]:List (S47)))=some (r1,r2,r3,r4):=q3y_ hy267 H
        have Ny267:=aM hy267;clear hy267;have H':=aM H;clear H;obtain ⟨Ao17,co17,eo17⟩:=Kd.R_slice HO_4.out;subst eo17;have p263:0≤(0:Int):=(by omega);have q263:0<(t259.length:Int):=of_decide_eq_true za_;obtain ⟨ad263,e263,hx263_0⟩:=Kd.at_string (Kd.R_reads' HO_4.out).2.2 0 p263 q263
        cases e263
        have qi263:(0<t259.length)=True:=eq_true (by omega);(try rw [show ((0:Int)).toNat=0 from rfl] at hx263_0);(try rw [Addr.add_zero'] at hx263_0);replace p263:=eq_true p263;replace q263:=eq_true q263
        go_wp2_with (first | ((with_reducible refine gate_callee (f:=30) rfl ?_);refine goesL_ (some 39) rfl rfl Tryd.func30 (by kernel_rfl) rfl #[.string (rdOf ByteArray.empty t259 0)] rfl zd_ ?_;(with_reducible refine (impl_decimal.calls kj2 (rdOf ByteArray.empty t259 0) t264 true _ A13.out).mono ?_);rintro e w' ⟨rfl,⟨nd,rfl⟩⟩;refine ⟨_,rfl,?_⟩;(try (rw [drewN_self wc];generalize hq_:World.drewN wc _=wc;have n0_:Aside0 (Kd.R Kd.string 9 wc w.heap.size (fun _=>True) (.slice (some ad263) t259.length co17) t259):=⟨zdh_⟩;have n1_:Aside0 (wc.heap[gb258]?=some (.cells #[.int .i64 0,.slice none 0 0,.slice none 0 0] 31 (0,0))):=⟨by rw [← hq_];exact (zb BK258.out)⟩;have n2_:Aside0 (Below w.heap.size w wc):=⟨by rw [← hq_];exact zcb_⟩;clear HO_4 BK258 HB hq_;have HO_4:=n0_;have BK258:=n1_;have HB:=n2_;clear n0_ n1_ n2_;obtain ⟨hczq258_0,hfzq258_0⟩:=zk1 BK258.out;have hczq258_1:wc.cell? ⟨gb258,1,none⟩=some (.slice none 0 0):=(blk_cell BK258.out 1).trans rfl;have hfzq258_1:=blk_frozen BK258.out 1;have hczq258_2:wc.cell? ⟨gb258,2,none⟩=some (.slice none 0 0):=(blk_cell BK258.out 2).trans rfl;have hfzq258_2:=blk_frozen BK258.out 2)))|((with_reducible refine gate_dst (N:=7) rfl ?_);(try (refine gate_guard (by rfl) ?_;dsimp only));refine box_event ?hg (N:=7) ?hd (cs:=#[.int .i64 0,.slice none 0 0,.slice none 0 0]) (t:=31) ?hr ?_;(case hd=>rfl);(case hg=>rfl);(case hr=>exact ze_);intro gb266 hg w18 hbox hb;have n_:=z (Kd.R_below (zr HO_4.out) hb)<|z (blk_below (zb BK258.out) hb)<|z (below_step zcb_ hb)<|z (hbox)<|z ((by rw [hg];exact (below_size zcb_):w.heap.size≤gb266))<|z ((by rw [hg];exact (below_size zcb_):w.heap.size≤gb266))<|z ((by rw [hg];exact Nat.ne_of_lt (blk_lt (zb BK258.out)):gb258≠gb266))<|z1 ((by rw [hg];exact Nat.ne_of_gt (blk_lt (zb BK258.out)):gb266≠gb258));clear HO_4 BK258 HB;obtain ⟨HO_4,BK258,HB,BK266,GW266,GE266,NB258_266,NB266_258⟩:=n_;clear hb hbox hg;have hnb19:=NB266_258.out;have hnc19:=NB258_266.out;obtain ⟨hcz20_0,hcz20_1,hcz20_2,hfz20_0,hfz20_1,hfz20_2⟩:=zk3 BK266.out)|((with_reducible refine gate_store (t:=31) (p:=7) rfl ?_);refine store_event (t:=31) (p:=7) (v:=?vo_w21) (w1:=(((w18.setCell ⟨gb266,0,none⟩ (.int .i64 t264)).setCell ⟨gb266,1,none⟩ (.slice none 0 0)).setCell ⟨gb266,2,none⟩ (.slice none 0 0))) ?hg ?ho ?hn ?hr ?_;(case ho=>rfl);(case hg=>rfl);(case hn=>rfl);(case hr=>exact ze_);intro w21 hw;have n0_:Aside0 (Kd.R Kd.string 9 w21 w.heap.size (fun _=>True) (.slice (some ad263) t259.length co17) t259):=⟨(by rw [hw];exact (by refine zr ?_;exact Kd.R_mono (Kd.R_far (p:=⟨gb266,2,none⟩) (Kd.R_far (p:=⟨gb266,1,none⟩) (Kd.R_far (p:=⟨gb266,0,none⟩) (Kd.R_types HO_4.out BK266.out (by decide)) (fun _ hk=>hk.2) (.int .i64 t264)) (fun _ hk=>hk.2) (.slice none 0 0)) (fun _ hk=>hk.2) (.slice none 0 0)) (fun _ hk=>trivial)))⟩;have n1_:Aside0 (w21.heap[gb258]?=some (.cells #[.int .i64 0,.slice none 0 0,.slice none 0 0] 31 (0,0))):=⟨(by rw [hw];exact (by refine zb ?_;refine blk_far ?_ NB258_266.out _;refine zb ?_;refine blk_far ?_ NB258_266.out _;refine zb ?_;refine blk_far ?_ NB258_266.out _;refine zb ?_;exact BK258.out))⟩;have n2_:Aside0 (w21.heap[gb266]?=some (.cells #[.int .i64 t264,.slice none 0 0,.slice none 0 0] 31 (0,0))):=⟨(by rw [hw];exact (by refine zb ?_;refine blk_put (cs:=#[.int .i64 t264,.slice none 0 0,.slice none 0 0]) ?_ 2 _ rfl;refine zb ?_;refine blk_put (cs:=#[.int .i64 t264,.slice none 0 0,.slice none 0 0]) ?_ 1 _ rfl;refine zb ?_;refine blk_put (cs:=#[.int .i64 0,.slice none 0 0,.slice none 0 0]) ?_ 0 _ rfl;refine zb ?_;exact BK266.out))⟩;have n3_:Aside0 (Below w.heap.size w w21):=⟨(by rw [hw];exact zj_)⟩;clear hw HO_4 BK258 BK266 HB;have HO_4:=n0_;have BK258:=n1_;have BK266:=n2_;have HB:=n3_;clear n0_ n1_ n2_ n3_;have q22:((wrap64 ((t259.length:Int) - 1)):Int)≤((t259.length:Int):Int):=of_decide_eq_true za_;obtain ⟨i022,hi022,_,hsz22,_⟩:=info_parts info9;have hroom22:t259.length≤co17:=(Kd.R_reads' HO_4.out).2.1;have hC22:Kd.C Kd.string _ (some ad263) t259.length t259:=(Kd.R_reads' HO_4.out).2.2;have ql22:(1:Int)≤((wrap64 ((t259.length:Int) - 1)):Int):=of_decide_eq_true za_;have hcut22:=cut_mid (P:=Tryd.prog) 52 9 .i64 .i64 Tryd.underlying52 hi022 1 hsz22 (some ad263) t259.length co17 1 (wrap64 ((t259.length:Int) - 1)) (by omega) ql22 q22 hroom22;have hr22:=Kd.C_mid (lo:=(1:Int).toNat) (hi:=((wrap64 ((t259.length:Int) - 1)):Int).toNat) (c:=co17) hC22 (by omega) (by omega) hroom22;obtain ⟨A22,hA22⟩:∃ A1,A1=(if co17=(1:Int).toNat then (some ad263) else ((some ad263):Option Addr).map (·.add ((1:Int).toNat * 1))):=⟨_,rfl⟩;obtain ⟨c22,hc22⟩:∃ c1,c1=co17 - (1:Int).toNat:=⟨_,rfl⟩;have hy22:y267.length=((wrap64 ((t259.length:Int) - 1)):Int).toNat - (1:Int).toNat:=(by rw [Ny267.out,lD,lT] <;> omega);rw [show ((t259).take ((wrap64 ((t259.length:Int) - 1)):Int).toNat).drop (1:Int).toNat=y267 from Ny267.out.symm] at hr22;replace hr22:Kd.C Kd.string _ A22 y267.length y267:=(by rw [hA22];exact hr22);rw [← hy22,← hA22,← hc22] at hcut22;have HR270:=aM hr22;have HC270:=aM (show y267.length≤c22 from by rw [hy22,hc22];exact Nat.sub_le_sub_right (Nat.le_trans (by omega) hroom22) _);clear hr22 hC22 hroom22 hi022 hsz22 hc22;have KY22:=aM hy22;have KA22:=aM hA22;clear hy22 hA22;have KL22:=aM (show ((wrap64 ((t259.length:Int) - 1)):Int).toNat≤t259.length from by omega);have KM22:=aM (show 1≤((wrap64 ((t259.length:Int) - 1)):Int).toNat from by omega);replace q22:=eq_true q22))
        go_loopg [53] kj2 (fun kq v53 w' => ∃ (x53_2:Int) (x259000_2:Int) (x267001_2:List (S47)) (u267001:Value),v53 = .int .i64 x53_2∧Aside0 (impl_ParseCircuit.l0 kq t259 y267 (y267.length:Int) x53_2 t264 x267001_2=some (r1,r2,r3,r4))∧Aside0 (kq≤kj2)∧Aside0 (Kd.R Kd.string 9 w' w.heap.size (fun _=>True) (.slice (some ad263) t259.length co17) t259)∧Aside0 (Kd.R k47 47 w' w.heap.size (fun _=>True) u267001 x267001_2)∧Aside0 (w'.heap[gb258]?=some (.cells #[.int .i64 x259000_2,(.slice none 0 0),(.slice none 0 0)] 31 (0,0)))∧Aside0 (w'.heap[gb266]?=some (.cells #[.int .i64 t264,u267001,(.slice none 0 0)] 31 (0,0)))∧Aside0 (Kd.C Kd.string w' A22 y267.length y267)∧Aside0 (Below w.heap.size w w'))
        case atStart=>exact ⟨(0),(0),(([]:List (S47))),(.slice none 0 0),zc_,H',⟨Nat.le_refl _⟩,⟨zr HO_4.out⟩,⟨zi_⟩,⟨zb BK258.out⟩,⟨zb BK266.out⟩,⟨zdb_⟩,⟨zj_⟩⟩
        case round =>
         clear H';(try clear c1);(try clear c12b0);(try clear c12b1);(try clear c15b0);(try clear c15b1);(try clear c16b0);(try clear c16b1);(try clear c22);(try clear q22);(try clear hcz20_0);(try clear hcz20_1);(try clear hcz20_2);(try clear hfz20_0);(try clear hfz20_1);(try clear hfz20_2);(try clear hx263_0);(try clear p263);(try clear q263);obtain ⟨x53_2,x259000_2,x267001_2,u267001,rfl,HA,HK2,HO_4,HO_267001,BK258,BK266,HR270,HB⟩:=hrel
         cases gk with
         | zero=>exact absurd HA.out (by simp [impl_ParseCircuit.l0])
         | succ k2 =>
          have H:=HA.out;clear HA
          simp only [impl_ParseCircuit.l0] at H
          by_cases c23:x53_2<(y267.length:Int)
          ·rw [if_pos c23] at H
           have c23b0:=decide_eq_true c23;clear c23
           by_cases c24:0≤x53_2
           ·rw [if_pos c24] at H
            have c24b0:=decide_eq_true c24;clear c24
            by_cases c25:x53_2<(y267.length:Int)
            ·rw [if_pos c25] at H
             have c25b0:=decide_eq_true c25;clear c25;replace H:=oB.mp H;obtain ⟨⟨t272,t273,t274,t275⟩,A260,H⟩:=H;replace H:(if t275=true then (if x267001_2.length<5864062014805 then (impl_ParseCircuit.l0 k2 t259 y267 (y267.length:Int) (wrap64 (x53_2+1)) t264 (x267001_2 ++ [(⟨t272,t273,t274⟩:S47)])) else (none)) else (some (0,([]:List (S47)),([]:List Int),false)))=some (r1,r2,r3,r4):=H;have A26:=aM A260;clear A260
             by_cases c27:t275=true
             ·subst c27
              have H1:(if x267001_2.length<5864062014805 then (impl_ParseCircuit.l0 k2 t259 y267 (y267.length:Int) (wrap64 (x53_2+1)) t264 (x267001_2 ++ [(⟨t272,t273,t274⟩:S47)])) else (none))=some (r1,r2,r3,r4):=by rw [if_pos rfl] at H;exact H
              clear H;have H:=H1;clear H1
              by_cases c28:x267001_2.length<5864062014805
              ·rw [if_pos c28] at H
               have LMc28:=aM c28;clear c28;obtain ⟨y277,hy277⟩:∃ y_:List (S47),y_=(x267001_2 ++ [(⟨t272,t273,t274⟩:S47)]):=⟨_,rfl⟩;replace H:(impl_ParseCircuit.l0 k2 t259 y267 (y267.length:Int) (wrap64 (x53_2+1)) t264 y277)=some (r1,r2,r3,r4):=q3y_ hy277 H
               have Ny277:=aM hy277;clear hy277;have H':=aM H;clear H;have p271:0≤(x53_2:Int):=of_decide_eq_true za_;have q271:x53_2<(y267.length:Int):=of_decide_eq_true za_;obtain ⟨ad271,e271,hx271_0⟩:=Kd.at_string HR270.out x53_2 p271 q271
               cases e271
               (try (replace hx271_0:=q3h_ HB.out hx271_0));replace p271:=eq_true p271;replace q271:=eq_true q271
               go_wp2_with (first | ((with_reducible refine gate_callee (f:=31) rfl ?_);refine goesL_ (some 59) rfl rfl Tryd.func31 (by kernel_rfl) rfl #[.string (rdOf ByteArray.empty y267 x53_2)] rfl zd_ ?_;(with_reducible refine (impl_readGate.calls k2 (rdOf ByteArray.empty y267 x53_2) t272 t273 t274 true _ A26.out ?side1).mono ?_);(case side1=>exact GW_below hG_.out zj_);rintro e w29 ⟨rfl,hb⟩;refine ⟨_,rfl,?_⟩;have n_:=z (Kd.R_below (zr HO_4.out) hb)<|z (Kd.R_below (zr HO_267001.out) hb)<|z (blk_below (zb BK258.out) hb)<|z (blk_below (zb BK266.out) hb)<|z (Kd.C_below zdb_ hb)<|z1 (below_step zj_ hb);clear HO_4 HO_267001 BK258 BK266 HR270 HB;obtain ⟨HO_4,HO_267001,BK258,BK266,HR270,HB⟩:=n_;clear hb)|((with_reducible refine gate_dst (N:=10) rfl ?_);(try (refine gate_guard (by rfl) ?_;dsimp only));refine box_event ?hg (N:=10) ?hd (cs:=#[.int .i64 0,.int .i64 0,.int .i64 0]) (t:=47) ?hr ?_;(case hd=>rfl);(case hg=>rfl);(case hr=>exact ze_);intro gb276 hg w30 hbox hb;have n_:=z (Kd.R_below (zr HO_4.out) hb)<|z (Kd.R_below (Kd.R_elderB (zr HO_267001.out) gb276 (Nat.le_of_eq hg.symm)) hb)<|z (blk_below (zb BK258.out) hb)<|z (blk_below (zb BK266.out) hb)<|z (Kd.C_below zdb_ hb)<|z (below_step zj_ hb)<|z (hbox)<|z ((by rw [hg];exact (below_size zj_):w.heap.size≤gb276))<|z ((by rw [hg];exact (below_size zj_):w.heap.size≤gb276))<|z ((by rw [hg];exact Nat.ne_of_lt (blk_lt (zb BK258.out)):gb258≠gb276))<|z ((by rw [hg];exact Nat.ne_of_gt (blk_lt (zb BK258.out)):gb276≠gb258))<|z ((by rw [hg];exact Nat.ne_of_lt (blk_lt (zb BK266.out)):gb266≠gb276))<|z1 ((by rw [hg];exact Nat.ne_of_gt (blk_lt (zb BK266.out)):gb276≠gb266));clear HO_4 HO_267001 BK258 BK266 HR270 HB;obtain ⟨HO_4,HO_267001,BK258,BK266,HR270,HB,BK276,GW276,GE276,NB258_276,NB276_258,NB266_276,NB276_266⟩:=n_;clear hb hbox hg;have hnb31:=NB276_258.out;have hnc31:=NB258_276.out;have hnb32:=NB276_266.out;have hnc32:=NB266_276.out;obtain ⟨hcz33_0,hcz33_1,hcz33_2,hfz33_0,hfz33_1,hfz33_2⟩:=zk3 BK276.out;have hnb34:=NB266_258.out;have hnc34:=NB258_266.out;obtain ⟨hcz35_0,hcz35_1,hcz35_2,hfz35_0,hfz35_1,hfz35_2⟩:=zk3 BK266.out)|((with_reducible refine gate_builtin (b := .append) (xs:=#[.tmp 66,.tmp 68]) rfl ?_);(try (refine gate_guard (by rfl) ?_;dsimp only));at_builtin;refine Kd.R_append k47 (w0:=w) w.heap.size rfl (.tmp 66) (.tmp 68) 29 47 (.agg #[(.int .i64 0),(.int .i64 0),(.int .i64 0)]) 24 rfl Tryd.underlying29 info47 rfl (by decide) (by omega) u267001 x267001_2 (⟨t272,t273,t274⟩:S47) [.int .i64 t272,.int .i64 t273,.int .i64 t274] (fun k_=>k_≠gb276) (fun _=>False) rfl ze_ ?aP (fun _ hk=>hk.elim) ?aF ?aO ?aB ?aS ?aL ?_;(case aP=>exact k47_mkM _ _ _ (⟨t272,t273,t274⟩:S47));(case aB=>exact zeg_);(case aF=>exact (fun k_ hk=>Kd.freshB (g:=gb276) (o := .cells #[.int .i64 t272,.int .i64 t273,.int .i64 t274] 47 (0,0)) (by refine zb ?_;refine blk_put (cs:=#[.int .i64 t272,.int .i64 t273,.int .i64 0]) ?_ 2 _ rfl;refine zb ?_;refine blk_put (cs:=#[.int .i64 t272,.int .i64 0,.int .i64 0]) ?_ 1 _ rfl;refine zb ?_;refine blk_put (cs:=#[.int .i64 0,.int .i64 0,.int .i64 0]) ?_ 0 _ rfl;refine zb ?_;exact BK276.out) k_ hk));(case aO=>exact (by refine zr ?_;exact Kd.R_mono (Kd.R_far (p:=⟨gb276,2,none⟩) (Kd.R_far (p:=⟨gb276,1,none⟩) (Kd.R_far (p:=⟨gb276,0,none⟩) (Kd.R_mono HO_267001.out (fun k_ hk=>(⟨hk,hk.2⟩:_∧k_≠gb276))) (fun _ hk=>hk.2) (.int .i64 t272)) (fun _ hk=>hk.2) (.int .i64 t273)) (fun _ hk=>hk.2) (.int .i64 t274)) (fun _ hk=>hk.1.2)));(case aS=>exact (below_size zeg_));(case aL=>have:=LMc28.out;omega);intro v278 w36 ho hb hg hat;rw [← Ny277.out] at ho;have n0_:=aM (Kd.R_over' (by refine zr ?_;exact (Kd.R_mono (Kd.R_far (p:=⟨gb276,2,none⟩) (Kd.R_far (p:=⟨gb276,1,none⟩) (Kd.R_far (p:=⟨gb276,0,none⟩) (Kd.R_types HO_4.out BK276.out (by decide)) (fun _ hk=>hk.2) (.int .i64 t272)) (fun _ hk=>hk.2) (.int .i64 t273)) (fun _ hk=>hk.2) (.int .i64 t274)) (fun _ h_=>h_.1))) (Kd.R_typed (by refine zr ?_;exact (Kd.R_mono (Kd.R_far (p:=⟨gb276,2,none⟩) (Kd.R_far (p:=⟨gb276,1,none⟩) (Kd.R_far (p:=⟨gb276,0,none⟩) (Kd.R_mono HO_267001.out (fun k_ hk=>(⟨hk,hk.2⟩:_∧k_≠gb276))) (fun _ hk=>hk.2) (.int .i64 t272)) (fun _ hk=>hk.2) (.int .i64 t273)) (fun _ hk=>hk.2) (.int .i64 t274)) (fun _ h_=>h_.1)))) (by decide) hg);have n1_:=aM (blk_grown (g:=gb258) (o := .cells #[.int .i64 x259000_2,.slice none 0 0,.slice none 0 0] 31 (0,0)) (by refine zb ?_;refine blk_far ?_ NB258_276.out _;refine zb ?_;refine blk_far ?_ NB258_276.out _;refine zb ?_;refine blk_far ?_ NB258_276.out _;refine zb ?_;exact BK258.out) hg (Kd.R_ne HO_267001.out BK258.out (by decide)));have n2_:=aM (blk_grown (g:=gb266) (o := .cells #[.int .i64 t264,u267001,.slice none 0 0] 31 (0,0)) (by refine zb ?_;refine blk_far ?_ NB266_276.out _;refine zb ?_;refine blk_far ?_ NB266_276.out _;refine zb ?_;refine blk_far ?_ NB266_276.out _;refine zb ?_;exact BK266.out) hg (Kd.R_ne HO_267001.out BK266.out (by decide)));have n3_:=aM (blk_grown (g:=gb276) (o := .cells #[.int .i64 t272,.int .i64 t273,.int .i64 t274] 47 (0,0)) (by refine zb ?_;refine blk_put (cs:=#[.int .i64 t272,.int .i64 t273,.int .i64 0]) ?_ 2 _ rfl;refine zb ?_;refine blk_put (cs:=#[.int .i64 t272,.int .i64 0,.int .i64 0]) ?_ 1 _ rfl;refine zb ?_;refine blk_put (cs:=#[.int .i64 0,.int .i64 0,.int .i64 0]) ?_ 0 _ rfl;refine zb ?_;exact BK276.out) hg (Kd.R_away HO_267001.out (fun _ hk=>hk.2)));have n4_:=aM (hb);have n5_:=aM ((show Kd.C Kd.string w36 (some ad271) y267.length y267 from by have h_:=Kd.C_mid (lo:=(1:Int).toNat) (hi:=((wrap64 ((t259.length:Int) - 1)):Int).toNat) (c:=co17) ((Kd.R_reads' n0_.out).2.2) KM22.out KL22.out ((Kd.R_reads' n0_.out).2.1);rw [show ((t259).take ((wrap64 ((t259.length:Int) - 1)):Int).toNat).drop (1:Int).toNat=y267 from Ny267.out.symm] at h_;rw [KA22.out];exact h_));have n6_:=aM (ho);clear HO_4 BK258 BK266 BK276 HB HR270 HO_267001;have HO_4:=n0_;have BK258:=n1_;have BK266:=n2_;have BK276:=n3_;have HB:=n4_;have HR270:=n5_;have HO279:=n6_;clear n0_ n1_ n2_ n3_ n4_ n5_ n6_ ho hb hg hat;obtain ⟨Ao37,co37,eo37⟩:=Kd.R_slice HO279.out;subst eo37;obtain ⟨hcz38_0,hcz38_1,hcz38_2,hfz38_0,hfz38_1,hfz38_2⟩:=zk3 BK266.out))
               go_roundg k2
               case measure=>have:=HJ2.out;have:=HK2.out;omega
               case rel=>exact ⟨(wrap64 (x53_2+1)),(x259000_2),(y277),(.slice Ao37 y277.length co37),zc_,H',⟨by have:=HJ2.out;have:=HK2.out;omega⟩,⟨by refine zr ?_;exact Kd.R_mono (Kd.R_far (p:=⟨gb266,1,none⟩) (Kd.R_types HO_4.out BK266.out (by decide)) (fun _ hk=>hk.2) (.slice Ao37 y277.length co37)) (fun _ hk=>trivial)⟩,⟨by refine zr ?_;exact Kd.R_mono (Kd.R_far (p:=⟨gb266,1,none⟩) (Kd.R_types HO279.out BK266.out (by decide)) (fun _ hk=>hk.2) (.slice Ao37 y277.length co37)) (fun _ hk=>trivial)⟩,⟨by refine zb ?_;refine blk_far ?_ NB258_266.out _;refine zb ?_;exact BK258.out⟩,⟨by refine zb ?_;refine blk_put (cs:=#[.int .i64 t264,u267001,.slice none 0 0]) ?_ 1 _ rfl;refine zb ?_;exact BK266.out⟩,⟨by have h0_:Kd.R Kd.string 9 (w36.setCell ⟨gb266,1,none⟩ (.slice Ao37 y277.length co37)) w.heap.size _ _ t259:=(by refine zr ?_;exact (Kd.R_mono (Kd.R_far (p:=⟨gb266,1,none⟩) (Kd.R_types HO_4.out BK266.out (by decide)) (fun _ hk=>hk.2) (.slice Ao37 y277.length co37)) (fun _ h_=>h_.1)));have h_:=Kd.C_mid (lo:=(1:Int).toNat) (hi:=((wrap64 ((t259.length:Int) - 1)):Int).toNat) (c:=co17) ((Kd.R_reads' h0_).2.2) KM22.out KL22.out ((Kd.R_reads' h0_).2.1);rw [show ((t259).take ((wrap64 ((t259.length:Int) - 1)):Int).toNat).drop (1:Int).toNat=y267 from Ny267.out.symm] at h_;rw [KA22.out];exact h_⟩,⟨zeg_⟩⟩
              ·rw [if_neg c28] at H
               exact q3n_ H
             ·replace c27:=Bool.eq_false_iff.mpr c27
              subst c27;have H1:(some (0,([]:List (S47)),([]:List Int),false))=some (r1,r2,r3,r4):=by rw [if_neg (show ¬ (false=true) by decide)] at H;exact H
              clear H;have H:=H1;clear H1
              simp only [Option.some.injEq,Prod.mk.injEq] at H
              obtain ⟨rfl,rfl,rfl,rfl⟩:=H;have p271:0≤(x53_2:Int):=of_decide_eq_true za_;have q271:x53_2<(y267.length:Int):=of_decide_eq_true za_;obtain ⟨ad271,e271,hx271_0⟩:=Kd.at_string HR270.out x53_2 p271 q271
              cases e271
              (try (replace hx271_0:=q3h_ HB.out hx271_0));replace p271:=eq_true p271;replace q271:=eq_true q271
              go_wp2_with (first | ((with_reducible refine gate_callee (f:=31) rfl ?_);refine goesL_ (some 59) rfl rfl Tryd.func31 (by kernel_rfl) rfl #[.string (rdOf ByteArray.empty y267 x53_2)] rfl zd_ ?_;(with_reducible refine (impl_readGate.calls k2 (rdOf ByteArray.empty y267 x53_2) t272 t273 t274 false _ A26.out ?side1).mono ?_);(case side1=>exact GW_below hG_.out zj_);rintro e w39 ⟨rfl,hb⟩;refine ⟨_,rfl,?_⟩;have n_:=z (Kd.R_below (zr HO_4.out) hb)<|z (Kd.R_below (zr HO_267001.out) hb)<|z (blk_below (zb BK258.out) hb)<|z (blk_below (zb BK266.out) hb)<|z (Kd.C_below zdb_ hb)<|z1 (below_step zj_ hb);clear HO_4 HO_267001 BK258 BK266 HR270 HB;obtain ⟨HO_4,HO_267001,BK258,BK266,HR270,HB⟩:=n_;clear hb)|((with_reducible refine gate_dst (N:=10) rfl ?_);(try (refine gate_guard (by rfl) ?_;dsimp only));refine box_event ?hg (N:=10) ?hd (cs:=#[.int .i64 0,.int .i64 0,.int .i64 0]) (t:=47) ?hr ?_;(case hd=>rfl);(case hg=>rfl);(case hr=>exact ze_);intro gb276 hg w40 hbox hb;have n_:=z (Kd.R_below (zr HO_4.out) hb)<|z (Kd.R_below (Kd.R_elderB (zr HO_267001.out) gb276 (Nat.le_of_eq hg.symm)) hb)<|z (blk_below (zb BK258.out) hb)<|z (blk_below (zb BK266.out) hb)<|z (Kd.C_below zdb_ hb)<|z (below_step zj_ hb)<|z (hbox)<|z ((by rw [hg];exact (below_size zj_):w.heap.size≤gb276))<|z ((by rw [hg];exact (below_size zj_):w.heap.size≤gb276))<|z ((by rw [hg];exact Nat.ne_of_lt (blk_lt (zb BK258.out)):gb258≠gb276))<|z ((by rw [hg];exact Nat.ne_of_gt (blk_lt (zb BK258.out)):gb276≠gb258))<|z ((by rw [hg];exact Nat.ne_of_lt (blk_lt (zb BK266.out)):gb266≠gb276))<|z1 ((by rw [hg];exact Nat.ne_of_gt (blk_lt (zb BK266.out)):gb276≠gb266));clear HO_4 HO_267001 BK258 BK266 HR270 HB;obtain ⟨HO_4,HO_267001,BK258,BK266,HR270,HB,BK276,GW276,GE276,NB258_276,NB276_258,NB266_276,NB276_266⟩:=n_;clear hb hbox hg;have hnb41:=NB276_258.out;have hnc41:=NB258_276.out;have hnb42:=NB276_266.out;have hnc42:=NB266_276.out;obtain ⟨hcz43_0,hcz43_1,hcz43_2,hfz43_0,hfz43_1,hfz43_2⟩:=zk3 BK276.out;have hnb44:=NB258_266.out;have hnc44:=NB266_258.out;obtain ⟨hcz45_0,hcz45_1,hcz45_2,hfz45_0,hfz45_1,hfz45_2⟩:=zk3 BK258.out))
              refine bodyPost_ret (results_ct rfl _ _ gb258 31 #[.int .i64 0,.slice none 0 0,.slice none 0 0] (0,0) _ rfl (by refine zb ?_;refine blk_put (cs:=#[.int .i64 0,.slice none 0 0,.slice none 0 0]) ?_ 2 _ rfl;refine zb ?_;refine blk_put (cs:=#[.int .i64 0,.slice none 0 0,.slice none 0 0]) ?_ 1 _ rfl;refine zb ?_;refine blk_put (cs:=#[.int .i64 x259000_2,.slice none 0 0,.slice none 0 0]) ?_ 0 _ rfl;refine zb ?_;refine blk_far ?_ NB258_276.out _;refine zb ?_;refine blk_far ?_ NB258_276.out _;refine zb ?_;refine blk_far ?_ NB258_276.out _;refine zb ?_;exact BK258.out) Tryd.underlying31 rfl (by kernel_rfl)) rfl ?_
              exact ⟨_,_,zf_,zi_,zi_,zeg_⟩
            ·rw [if_neg c25] at H
             exact q3n_ H
           ·rw [if_neg c24] at H
            exact q3n_ H
          ·rw [if_neg c23] at H
           have c23b0:=decide_eq_false c23;clear c23;obtain ⟨ji46,hji46⟩:∃ j_:Int,(wrap64 ((t259.length:Int) - 1))=j_:=⟨_,rfl⟩;replace H:(if 0≤(ji46) then (if (ji46)<(t259.length:Int) then ((strings_Split.f k2 (rdOf ByteArray.empty t259 (ji46)) (⟨#[32]⟩:ByteArray)).bind fun t281=>(if 0<(t281.length:Int) then (if (rdOf ByteArray.empty t281 0).toList=([111,117,116]:List UInt8) then (if 1≤(t281.length:Int) then ((some (t281.drop (1:Int).toNat:List ByteArray)).bind fun y285=>(impl_ParseCircuit.l1 k2 y285 (y285.length:Int) 0 t264 x267001_2 ([]:List Int))) else (none)) else (some (0,([]:List (S47)),([]:List Int),false))) else (none))) else (none)) else (none))=some (r1,r2,r3,r4):=by first | (rw [hji46] at H;exact H)|(simp only [hji46] at H ⊢;exact H)
           (try rw [hji46] at c15b0);(try rw [hji46] at c15b1);(try rw [hji46] at c16b0);(try rw [hji46] at c16b1);have hji46w:(IntKind.i64.wrap ((t259.length:Int) - 1))=ji46:=(i64_w _).trans hji46
           by_cases c47:0≤(ji46)
           ·rw [if_pos c47] at H
            have c47b0:=decide_eq_true c47;clear c47
            by_cases c48:(ji46)<(t259.length:Int)
            ·rw [if_pos c48] at H
             have c48b0:=decide_eq_true c48;clear c48;replace H:=oB.mp H;obtain ⟨t281,A490,H⟩:=H;replace H:(if 0<(t281.length:Int) then (if (rdOf ByteArray.empty t281 0).toList=([111,117,116]:List UInt8) then (if 1≤(t281.length:Int) then ((some (t281.drop (1:Int).toNat:List ByteArray)).bind fun y285=>(impl_ParseCircuit.l1 k2 y285 (y285.length:Int) 0 t264 x267001_2 ([]:List Int))) else (none)) else (some (0,([]:List (S47)),([]:List Int),false))) else (none))=some (r1,r2,r3,r4):=H;have A49:=aM A490;clear A490
             by_cases c50:0<(t281.length:Int)
             ·rw [if_pos c50] at H
              have c50b0:=decide_eq_true c50;have c50b1:decide (0<t281.length)=true:=decide_eq_true (by omega);clear c50
              by_cases c51:(rdOf ByteArray.empty t281 0).toList=([111,117,116]:List UInt8)
              ·rw [if_pos c51] at H
               have c51b0:=beq_iff_eq.mpr c51;have c51b1:=bne_eq_false_iff_eq.mpr c51;clear c51
               by_cases c52:1≤(t281.length:Int)
               ·rw [if_pos c52] at H
                have c52b0:=eq_true c52;have c52b1:=decide_eq_true c52;clear c52;obtain ⟨y285,hy285⟩:∃ y_:List ByteArray,y_=(t281.drop (1:Int).toNat):=⟨_,rfl⟩;replace H:(impl_ParseCircuit.l1 k2 y285 (y285.length:Int) 0 t264 x267001_2 ([]:List Int))=some (r1,r2,r3,r4):=q3y_ hy285 H
                have Ny285:=aM hy285;clear hy285;have H':=aM H;clear H;have p280:0≤((ji46):Int):=of_decide_eq_true za_;have q280:(ji46)<(t259.length:Int):=of_decide_eq_true za_;obtain ⟨ad280,e280,hx280_0⟩:=Kd.at_string (Kd.R_reads' HO_4.out).2.2 (ji46) p280 q280;obtain rfl:ad263=ad280:=(by injection e280);replace p280:=eq_true p280;replace q280:=eq_true q280
                go_wp2_with (first | ((with_reducible refine gate_callee (f:=32) rfl ?_);refine goesL_ (some 78) rfl rfl Tryd.func32 (by kernel_rfl) rfl #[.string (rdOf ByteArray.empty t259 (ji46)),.string (⟨#[32]⟩:ByteArray)] rfl (by (try simp only [mT,mC,mN]);first | done | (simp only [hji46];rfl) | rfl | (simp only [lD,lT];rfl)) ?_;(with_reducible refine (strings_Split.calls k2 (rdOf ByteArray.empty t259 (ji46)) (⟨#[32]⟩:ByteArray) t281 _ A49.out).mono ?_);rintro e w53 ⟨v282,rfl,ho0,hb⟩;refine ⟨_,rfl,?_⟩;have n_:=z (Kd.R_elder' (zr HO_4.out) (Kd.R_base ho0) hb)<|z (Kd.R_below (zr HO_267001.out) hb)<|z (Kd.R_lower (Kd.R_new' ho0 (Kd.R_lt (zr HO_4.out))) (below_size zj_))<|z (blk_below (zb BK258.out) hb)<|z (blk_below (zb BK266.out) hb)<|z (Kd.C_below zdb_ hb)<|z1 (below_step zj_ hb);clear HO_4 HO_267001 BK258 BK266 HR270 HB;obtain ⟨HO_4,HO_267001,HO283,BK258,BK266,HR270,HB⟩:=n_;clear hb;(try clear ho0);obtain ⟨Ao54,co54,eo54⟩:=Kd.R_slice HO283.out;subst eo54;have p284:0≤(0:Int):=(by omega);have q284:0<(t281.length:Int):=of_decide_eq_true za_;obtain ⟨ad284,e284,hx284_0⟩:=Kd.at_string (Kd.R_reads' HO283.out).2.2 0 p284 q284;cases e284;have qi284:(0<t281.length)=True:=eq_true (by omega);(try rw [show ((0:Int)).toNat=0 from rfl] at hx284_0);(try rw [Addr.add_zero'] at hx284_0);replace p284:=eq_true p284;replace q284:=eq_true q284;have n_:=aM (Kd.R_mono (ok':=(fun k_=>some k_≠(.slice (some ad263) t259.length co17:Value).ownBlock)) HO283.out (fun k_ hk=>hk.2));clear HO283;have HO283:=n_;clear n_;have q55:(1:Int)≤((t281.length:Int):Int):=of_decide_eq_true za_;obtain ⟨i055,hi055,_,hsz55,_⟩:=info_parts info9;have hcut55:=cut_from (P:=Tryd.prog) 52 9 .i64 Tryd.underlying52 hi055 1 hsz55 (some ad284) t281.length co54 1 (by omega) q55;have hr55:=Kd.Q_drop (k:=(1:Int).toNat) (Kd.Q_of_R HO283.out) (by omega);obtain ⟨A55,hA55⟩:∃ A1,A1=(if co54=(1:Int).toNat then (some ad284) else ((some ad284):Option Addr).map (·.add ((1:Int).toNat * 1))):=⟨_,rfl⟩;obtain ⟨c55,hc55⟩:∃ c1,c1=co54 - (1:Int).toNat:=⟨_,rfl⟩;have hy55:y285.length=t281.length - (1:Int).toNat:=(by rw [Ny285.out,lD]);rw [← Ny285.out] at hr55;rw [← hy55,← hA55,← hc55] at hcut55;replace hr55:Kd.Q Kd.string 9 w53 w.heap.size (fun k_=>some k_≠(.slice (some ad263) t259.length co17:Value).ownBlock) (.slice A55 y285.length c55) y285:=(by rw [hA55,hc55,hy55];exact hr55);have HE55:Aside0 ((Value.slice A55 y285.length c55).ownBlock=(.slice (some ad284) t281.length co54:Value).ownBlock):=⟨by rw [hA55];split <;> (cases ((some ad284):Option Addr) <;> rfl)⟩;clear hy55 hi055 hsz55 HO283 hA55 hc55;have HO287:=aM hr55;clear hr55;replace q55:=eq_true q55;have n_:=aM (Kd.R_mono (ok':=fun k_=>(True∧some k_≠(.slice A55 y285.length c55:Value).ownBlock)) HO_4.out (fun k_ hk=>⟨trivial,(by rw [HE55.out];exact hk.2)⟩));clear HO_4;have HO_4:=n_;clear n_))
                go_loopg [87] k2 (fun kq v87 w' => ∃ (x87_3:Int) (x259000_3:Int) (x267002_3:List Int) (u267002:Value),v87 = .int .i64 x87_3∧Aside0 (impl_ParseCircuit.l1 kq y285 (y285.length:Int) x87_3 t264 x267001_2 x267002_3=some (r1,r2,r3,r4))∧Aside0 (kq≤k2)∧Aside0 (Kd.Q Kd.string 9 w' w.heap.size (fun _=>True) (.slice A55 y285.length c55) y285)∧Aside0 (Kd.R k47 47 w' w.heap.size (fun _=>True) u267001 x267001_2)∧Aside0 (Kd.R (Kd.int .i64) 3 w' w.heap.size (fun _=>True) u267002 x267002_3)∧Aside0 (w'.heap[gb258]?=some (.cells #[.int .i64 x259000_3,(.slice none 0 0),(.slice none 0 0)] 31 (0,0)))∧Aside0 (w'.heap[gb266]?=some (.cells #[.int .i64 t264,u267001,u267002] 31 (0,0)))∧Aside0 (Below w.heap.size w w'))
                case atStart=>exact ⟨(0),(x259000_2),(([]:List Int)),(.slice none 0 0),zc_,H',⟨Nat.le_refl _⟩,⟨by refine zq ?_;exact Kd.Q_mono HO287.out (fun _ hk=>trivial)⟩,⟨zr HO_267001.out⟩,⟨zi_⟩,⟨zb BK258.out⟩,⟨zb BK266.out⟩,⟨zj_⟩⟩
                case round =>
                 clear H';(try clear c1);(try clear c15b0);(try clear c15b1);(try clear c16b0);(try clear c16b1);(try clear c23b0);(try clear c47b0);(try clear c48b0);(try clear c50b0);(try clear c50b1);(try clear c51b0);(try clear c51b1);(try clear c52b0);(try clear c52b1);(try clear c55);(try clear q55);(try clear hx280_0);(try clear hx284_0);(try clear p280);(try clear p284);(try clear q280);(try clear q284);obtain ⟨x87_3,x259000_3,x267002_3,u267002,rfl,HA,HK3,HO_85,HO_267001,HO_267002,BK258,BK266,HB⟩:=hrel
                 cases gk with
                 | zero=>exact absurd HA.out (by simp [impl_ParseCircuit.l1])
                 | succ k3 =>
                  have H:=HA.out;clear HA
                  simp only [impl_ParseCircuit.l1] at H
                  by_cases c56:x87_3<(y285.length:Int)
                  ·rw [if_pos c56] at H
                   have c56b0:=decide_eq_true c56;clear c56
                   by_cases c57:0≤x87_3
                   ·rw [if_pos c57] at H
                    have c57b0:=decide_eq_true c57;clear c57
                    by_cases c58:x87_3<(y285.length:Int)
                    ·rw [if_pos c58] at H
                     have c58b0:=decide_eq_true c58;clear c58;replace H:=oB.mp H;obtain ⟨⟨t289,t290⟩,A590,H⟩:=H;replace H:(if t290=true then (if x267002_3.length<17592186044416 then (impl_ParseCircuit.l1 k3 y285 (y285.length:Int) (wrap64 (x87_3+1)) t264 x267001_2 (x267002_3 ++ [t289])) else (none)) else (some (0,([]:List (S47)),([]:List Int),false)))=some (r1,r2,r3,r4):=H;have A59:=aM A590;clear A590
                     by_cases c60:t290=true
                     ·subst c60
                      have H1:(if x267002_3.length<17592186044416 then (impl_ParseCircuit.l1 k3 y285 (y285.length:Int) (wrap64 (x87_3+1)) t264 x267001_2 (x267002_3 ++ [t289])) else (none))=some (r1,r2,r3,r4):=by rw [if_pos rfl] at H;exact H
                      clear H;have H:=H1;clear H1
                      by_cases c61:x267002_3.length<17592186044416
                      ·rw [if_pos c61] at H
                       have LMc61:=aM c61;clear c61;obtain ⟨y291,hy291⟩:∃ y_:List Int,y_=(x267002_3 ++ [t289]):=⟨_,rfl⟩;replace H:(impl_ParseCircuit.l1 k3 y285 (y285.length:Int) (wrap64 (x87_3+1)) t264 x267001_2 y291)=some (r1,r2,r3,r4):=q3y_ hy291 H
                       have Ny291:=aM hy291;clear hy291;have H':=aM H;clear H;have p288:0≤(x87_3:Int):=of_decide_eq_true za_;have q288:x87_3<(y285.length:Int):=of_decide_eq_true za_;obtain ⟨ad288,e288,hx288_0⟩:=Kd.at_string (Kd.Q_reads' HO_85.out).2.2 x87_3 p288 q288
                       cases e288
                       replace p288:=eq_true p288;replace q288:=eq_true q288
                       go_wp2_with (first | ((with_reducible refine gate_callee (f:=30) rfl ?_);refine goesL_ (some 93) rfl rfl Tryd.func30 (by kernel_rfl) rfl #[.string (rdOf ByteArray.empty y285 x87_3)] rfl zd_ ?_;(with_reducible refine (impl_decimal.calls k3 (rdOf ByteArray.empty y285 x87_3) t289 true _ A59.out).mono ?_);rintro e w' ⟨rfl,⟨nd,rfl⟩⟩;refine ⟨_,rfl,?_⟩;(try (rw [drewN_self wr];generalize hq_:World.drewN wr _=wr;have n0_:Aside0 (Kd.R k47 47 wr w.heap.size (fun _=>True) u267001 x267001_2):=⟨by rw [← hq_];exact (zr HO_267001.out)⟩;have n1_:Aside0 (Kd.R (Kd.int .i64) 3 wr w.heap.size (fun _=>True) u267002 x267002_3):=⟨by rw [← hq_];exact (zr HO_267002.out)⟩;have n2_:Aside0 (Kd.Q Kd.string 9 wr w.heap.size (fun _=>True) (.slice (some ad288) y285.length c55) y285):=⟨by rw [← hq_];exact (zq HO_85.out)⟩;have n3_:Aside0 (wr.heap[gb258]?=some (.cells #[.int .i64 x259000_3,.slice none 0 0,.slice none 0 0] 31 (0,0))):=⟨by rw [← hq_];exact (zb BK258.out)⟩;have n4_:Aside0 (wr.heap[gb266]?=some (.cells #[.int .i64 t264,u267001,u267002] 31 (0,0))):=⟨by rw [← hq_];exact (zb BK266.out)⟩;have n5_:Aside0 (Below w.heap.size w wr):=⟨by rw [← hq_];exact zj_⟩;clear HO_267001 HO_267002 HO_85 BK258 BK266 HB hq_;have HO_267001:=n0_;have HO_267002:=n1_;have HO_85:=n2_;have BK258:=n3_;have BK266:=n4_;have HB:=n5_;clear n0_ n1_ n2_ n3_ n4_ n5_;obtain ⟨hczq258_0,hfzq258_0⟩:=zk1 BK258.out;have hczq258_1:wr.cell? ⟨gb258,1,none⟩=some (.slice none 0 0):=(blk_cell BK258.out 1).trans rfl;have hfzq258_1:=blk_frozen BK258.out 1;have hczq258_2:wr.cell? ⟨gb258,2,none⟩=some (.slice none 0 0):=(blk_cell BK258.out 2).trans rfl;have hfzq258_2:=blk_frozen BK258.out 2;obtain ⟨hczq266_0,hfzq266_0⟩:=zk1 BK266.out;have hczq266_1:wr.cell? ⟨gb266,1,none⟩=some (u267001):=(blk_cell BK266.out 1).trans rfl;have hfzq266_1:=blk_frozen BK266.out 1;have hczq266_2:wr.cell? ⟨gb266,2,none⟩=some (u267002):=(blk_cell BK266.out 2).trans rfl;have hfzq266_2:=blk_frozen BK266.out 2));have hnb62:=NB266_258.out;have hnc62:=NB258_266.out;obtain ⟨hcz63_0,hcz63_1,hcz63_2,hfz63_0,hfz63_1,hfz63_2⟩:=zk3 BK266.out)|((with_reducible refine gate_builtin (b := .append) (xs:=#[.tmp 100,.tmp 102]) rfl ?_);(try (refine gate_guard (by rfl) ?_;dsimp only));at_builtin;refine Kd.R_append (Kd.int .i64) (w0:=w) w.heap.size rfl (.tmp 100) (.tmp 102) 23 3 (.int .i64 0) 8 rfl Tryd.underlying23 info3 rfl (by decide) (by omega) u267002 x267002_3 t289 [.int .i64 t289] (fun _=>True) (fun _=>False) rfl rfl ?aP (fun _ hk=>hk.elim) ?aF ?aO ?aB ?aS ?aL ?_;(case aP=>exact rfl);(case aB=>exact zj_);(case aF=>exact zdf_);(case aO=>exact (zr HO_267002.out));(case aS=>exact (below_size zj_));(case aL=>have:=LMc61.out;omega);intro v292 w64 ho hb hg hat;rw [← Ny291.out] at ho;have n_:=z (Kd.Q_over' (zq HO_85.out) (Kd.R_typed (zr HO_267002.out)) (by decide) hg)<|z (Kd.R_over' (zr HO_267001.out) (Kd.R_typed (zr HO_267002.out)) (by decide) hg)<|z (blk_grown (g:=gb258) (o := .cells #[.int .i64 x259000_3,.slice none 0 0,.slice none 0 0] 31 (0,0)) (zb BK258.out) hg (Kd.R_ne HO_267002.out BK258.out (by decide)))<|z (blk_grown (g:=gb266) (o := .cells #[.int .i64 t264,u267001,u267002] 31 (0,0)) (zb BK266.out) hg (Kd.R_ne HO_267002.out BK266.out (by decide)))<|z (hb)<|z1 (ho);clear HO_85 HO_267001 BK258 BK266 HB HO_267002;obtain ⟨HO_85,HO_267001,BK258,BK266,HB,HO293⟩:=n_;clear ho hb hg hat;obtain ⟨Ao65,co65,eo65⟩:=Kd.R_slice HO293.out;subst eo65;obtain ⟨hcz66_0,hcz66_1,hcz66_2,hfz66_0,hfz66_1,hfz66_2⟩:=zk3 BK266.out))
                       go_roundg k3
                       case measure=>have:=HJ2.out;have:=HK2.out;have:=HK3.out;omega
                       case rel=>exact ⟨(wrap64 (x87_3+1)),(x259000_3),(y291),(.slice Ao65 y291.length co65),zc_,H',⟨by have:=HJ2.out;have:=HK2.out;have:=HK3.out;omega⟩,⟨by refine zq ?_;exact Kd.Q_mono (Kd.Q_far (p:=⟨gb266,2,none⟩) (Kd.Q_types HO_85.out BK266.out (by decide)) (fun _ hk=>hk.2) (.slice Ao65 y291.length co65)) (fun _ hk=>trivial)⟩,⟨by refine zr ?_;exact Kd.R_mono (Kd.R_far (p:=⟨gb266,2,none⟩) (Kd.R_types HO_267001.out BK266.out (by decide)) (fun _ hk=>hk.2) (.slice Ao65 y291.length co65)) (fun _ hk=>trivial)⟩,⟨by refine zr ?_;exact Kd.R_mono (Kd.R_far (p:=⟨gb266,2,none⟩) (Kd.R_types HO293.out BK266.out (by decide)) (fun _ hk=>hk.2) (.slice Ao65 y291.length co65)) (fun _ hk=>trivial)⟩,⟨by refine zb ?_;refine blk_far ?_ NB258_266.out _;refine zb ?_;exact BK258.out⟩,⟨by refine zb ?_;refine blk_put (cs:=#[.int .i64 t264,u267001,u267002]) ?_ 2 _ rfl;refine zb ?_;exact BK266.out⟩,⟨zj_⟩⟩
                      ·rw [if_neg c61] at H
                       exact q3n_ H
                     ·replace c60:=Bool.eq_false_iff.mpr c60
                      subst c60;have H1:(some (0,([]:List (S47)),([]:List Int),false))=some (r1,r2,r3,r4):=by rw [if_neg (show ¬ (false=true) by decide)] at H;exact H
                      clear H;have H:=H1;clear H1
                      simp only [Option.some.injEq,Prod.mk.injEq] at H
                      obtain ⟨rfl,rfl,rfl,rfl⟩:=H;have p288:0≤(x87_3:Int):=of_decide_eq_true za_;have q288:x87_3<(y285.length:Int):=of_decide_eq_true za_;obtain ⟨ad288,e288,hx288_0⟩:=Kd.at_string (Kd.Q_reads' HO_85.out).2.2 x87_3 p288 q288
                      cases e288
                      replace p288:=eq_true p288;replace q288:=eq_true q288
                      go_wp2_with (first | ((with_reducible refine gate_callee (f:=30) rfl ?_);refine goesL_ (some 93) rfl rfl Tryd.func30 (by kernel_rfl) rfl #[.string (rdOf ByteArray.empty y285 x87_3)] rfl zd_ ?_;(with_reducible refine (impl_decimal.calls k3 (rdOf ByteArray.empty y285 x87_3) t289 false _ A59.out).mono ?_);rintro e w' ⟨rfl,⟨nd,rfl⟩⟩;refine ⟨_,rfl,?_⟩;(try (rw [drewN_self wr];generalize hq_:World.drewN wr _=wr;have n0_:Aside0 (Kd.R k47 47 wr w.heap.size (fun _=>True) u267001 x267001_2):=⟨by rw [← hq_];exact (zr HO_267001.out)⟩;have n1_:Aside0 (Kd.R (Kd.int .i64) 3 wr w.heap.size (fun _=>True) u267002 x267002_3):=⟨by rw [← hq_];exact (zr HO_267002.out)⟩;have n2_:Aside0 (Kd.Q Kd.string 9 wr w.heap.size (fun _=>True) (.slice (some ad288) y285.length c55) y285):=⟨by rw [← hq_];exact (zq HO_85.out)⟩;have n3_:Aside0 (wr.heap[gb258]?=some (.cells #[.int .i64 x259000_3,.slice none 0 0,.slice none 0 0] 31 (0,0))):=⟨by rw [← hq_];exact (zb BK258.out)⟩;have n4_:Aside0 (wr.heap[gb266]?=some (.cells #[.int .i64 t264,u267001,u267002] 31 (0,0))):=⟨by rw [← hq_];exact (zb BK266.out)⟩;have n5_:Aside0 (Below w.heap.size w wr):=⟨by rw [← hq_];exact zj_⟩;clear HO_267001 HO_267002 HO_85 BK258 BK266 HB hq_;have HO_267001:=n0_;have HO_267002:=n1_;have HO_85:=n2_;have BK258:=n3_;have BK266:=n4_;have HB:=n5_;clear n0_ n1_ n2_ n3_ n4_ n5_;obtain ⟨hczq258_0,hfzq258_0⟩:=zk1 BK258.out;have hczq258_1:wr.cell? ⟨gb258,1,none⟩=some (.slice none 0 0):=(blk_cell BK258.out 1).trans rfl;have hfzq258_1:=blk_frozen BK258.out 1;have hczq258_2:wr.cell? ⟨gb258,2,none⟩=some (.slice none 0 0):=(blk_cell BK258.out 2).trans rfl;have hfzq258_2:=blk_frozen BK258.out 2;obtain ⟨hczq266_0,hfzq266_0⟩:=zk1 BK266.out;have hczq266_1:wr.cell? ⟨gb266,1,none⟩=some (u267001):=(blk_cell BK266.out 1).trans rfl;have hfzq266_1:=blk_frozen BK266.out 1;have hczq266_2:wr.cell? ⟨gb266,2,none⟩=some (u267002):=(blk_cell BK266.out 2).trans rfl;have hfzq266_2:=blk_frozen BK266.out 2));have hnb67:=NB258_266.out;have hnc67:=NB266_258.out;obtain ⟨hcz68_0,hcz68_1,hcz68_2,hfz68_0,hfz68_1,hfz68_2⟩:=zk3 BK258.out))
                      refine bodyPost_ret (results_ct rfl _ _ gb258 31 #[.int .i64 0,.slice none 0 0,.slice none 0 0] (0,0) _ rfl (by refine zb ?_;refine blk_put (cs:=#[.int .i64 0,.slice none 0 0,.slice none 0 0]) ?_ 2 _ rfl;refine zb ?_;refine blk_put (cs:=#[.int .i64 0,.slice none 0 0,.slice none 0 0]) ?_ 1 _ rfl;refine zb ?_;refine blk_put (cs:=#[.int .i64 x259000_3,.slice none 0 0,.slice none 0 0]) ?_ 0 _ rfl;refine zb ?_;exact BK258.out) Tryd.underlying31 rfl (by kernel_rfl)) rfl ?_
                      exact ⟨_,_,zeh_,zi_,zi_,zj_⟩
                    ·rw [if_neg c58] at H
                     exact q3n_ H
                   ·rw [if_neg c57] at H
                    exact q3n_ H
                  ·rw [if_neg c56] at H
                   have c56b0:=decide_eq_false c56;clear c56;replace H:=oB.mp H;obtain ⟨t294,A690,H⟩:=H;replace H:(if t294=true then (some (t264,x267001_2,x267002_3,true)) else (some (0,([]:List (S47)),([]:List Int),false)))=some (r1,r2,r3,r4):=H;have A69:=aM A690;clear A690
                   by_cases c70:t294=true
                   ·subst c70
                    have H1:(some (t264,x267001_2,x267002_3,true))=some (r1,r2,r3,r4):=by rw [if_pos rfl] at H;exact H
                    clear H;have H:=H1;clear H1
                    simp only [Option.some.injEq,Prod.mk.injEq] at H
                    obtain ⟨rfl,rfl,rfl,rfl⟩:=H;have hnb71:=NB266_258.out;have hnc71:=NB258_266.out;obtain ⟨hcz72_0,hcz72_1,hcz72_2,hfz72_0,hfz72_1,hfz72_2⟩:=zk3 BK266.out;obtain ⟨Ao73,co73,eo73⟩:=Kd.R_slice HO_267001.out;subst eo73;obtain ⟨Ao74,co74,eo74⟩:=Kd.R_slice HO_267002.out;subst eo74
                    go_wp2_with (first | ((with_reducible refine gate_callee (f:=20) rfl ?_);refine goesL_ (some 107) rfl rfl Tryd.func20 (by kernel_rfl) rfl #[.agg #[.int .i64 t264,.slice Ao73 x267001_2.length co73,.slice Ao74 x267002_3.length co74]] rfl zd_ ?_;(with_reducible refine (impl_IsCircuit.calls k3 t264 _ _ x267001_2 _ _ x267002_3 true _ ?side1 ?side2 ?side3 ?side4 A69.out).mono ?_);(case side1=>repeat (first | exact (Kd.R_reads' HO_267001.out).2.2 | (with_reducible refine cA ?_ _)|(with_reducible refine cN ?_ _)|(with_reducible refine cD ?_)));(case side2=>exact (Kd.R_reads' HO_267001.out).2.1);(case side3=>repeat (first | exact (Kd.R_reads' HO_267002.out).2.2 | (with_reducible refine cA ?_ _)|(with_reducible refine cN ?_ _)|(with_reducible refine cD ?_)));(case side4=>exact (Kd.R_reads' HO_267002.out).2.1);rintro e w75 ⟨rfl,hb⟩;refine ⟨_,rfl,?_⟩;have n_:=z (Kd.Q_below (zq HO_85.out) hb)<|z (Kd.R_below (zr HO_267001.out) hb)<|z (Kd.R_below (zr HO_267002.out) hb)<|z (blk_below (zb BK258.out) hb)<|z (blk_below (zb BK266.out) hb)<|z1 (below_step zj_ hb);clear HO_85 HO_267001 HO_267002 BK258 BK266 HB;obtain ⟨HO_85,HO_267001,HO_267002,BK258,BK266,HB⟩:=n_;clear hb;obtain ⟨hcz76_0,hcz76_1,hcz76_2,hfz76_0,hfz76_1,hfz76_2⟩:=zk3 BK266.out;obtain ⟨hcz77_0,hcz77_1,hcz77_2,hfz77_0,hfz77_1,hfz77_2⟩:=zk3 BK258.out))
                    refine bodyPost_ret (results_ct rfl _ _ gb258 31 #[.int .i64 t264,.slice Ao73 x267001_2.length co73,.slice Ao74 x267002_3.length co74] (0,0) _ rfl (by refine zb ?_;refine blk_put (cs:=#[.int .i64 t264,.slice Ao73 x267001_2.length co73,.slice none 0 0]) ?_ 2 _ rfl;refine zb ?_;refine blk_put (cs:=#[.int .i64 t264,.slice none 0 0,.slice none 0 0]) ?_ 1 _ rfl;refine zb ?_;refine blk_put (cs:=#[.int .i64 x259000_3,.slice none 0 0,.slice none 0 0]) ?_ 0 _ rfl;refine zb ?_;exact BK258.out) Tryd.underlying31 rfl (by kernel_rfl)) rfl ?_
                    exact ⟨_,_,zeh_,by refine zr ?_;exact Kd.R_mono (Kd.R_far (p:=⟨gb258,2,none⟩) (Kd.R_far (p:=⟨gb258,1,none⟩) (Kd.R_far (p:=⟨gb258,0,none⟩) (Kd.R_types HO_267001.out BK258.out (by decide)) (fun _ hk=>hk.2) (.int .i64 t264)) (fun _ hk=>hk.2) (.slice Ao73 x267001_2.length co73)) (fun _ hk=>hk.2) (.slice Ao74 x267002_3.length co74)) (fun _ hk=>trivial),by refine zr ?_;exact Kd.R_mono (Kd.R_far (p:=⟨gb258,2,none⟩) (Kd.R_far (p:=⟨gb258,1,none⟩) (Kd.R_far (p:=⟨gb258,0,none⟩) (Kd.R_types HO_267002.out BK258.out (by decide)) (fun _ hk=>hk.2) (.int .i64 t264)) (fun _ hk=>hk.2) (.slice Ao73 x267001_2.length co73)) (fun _ hk=>hk.2) (.slice Ao74 x267002_3.length co74)) (fun _ hk=>trivial),zj_⟩
                   ·replace c70:=Bool.eq_false_iff.mpr c70
                    subst c70;have H1:(some (0,([]:List (S47)),([]:List Int),false))=some (r1,r2,r3,r4):=by rw [if_neg (show ¬ (false=true) by decide)] at H;exact H
                    clear H;have H:=H1;clear H1
                    simp only [Option.some.injEq,Prod.mk.injEq] at H
                    obtain ⟨rfl,rfl,rfl,rfl⟩:=H;have hnb78:=NB266_258.out;have hnc78:=NB258_266.out;obtain ⟨hcz79_0,hcz79_1,hcz79_2,hfz79_0,hfz79_1,hfz79_2⟩:=zk3 BK266.out;obtain ⟨Ao80,co80,eo80⟩:=Kd.R_slice HO_267001.out;subst eo80;obtain ⟨Ao81,co81,eo81⟩:=Kd.R_slice HO_267002.out;subst eo81
                    go_wp2_with (first | ((with_reducible refine gate_callee (f:=20) rfl ?_);refine goesL_ (some 107) rfl rfl Tryd.func20 (by kernel_rfl) rfl #[.agg #[.int .i64 t264,.slice Ao80 x267001_2.length co80,.slice Ao81 x267002_3.length co81]] rfl zd_ ?_;(with_reducible refine (impl_IsCircuit.calls k3 t264 _ _ x267001_2 _ _ x267002_3 false _ ?side1 ?side2 ?side3 ?side4 A69.out).mono ?_);(case side1=>repeat (first | exact (Kd.R_reads' HO_267001.out).2.2 | (with_reducible refine cA ?_ _)|(with_reducible refine cN ?_ _)|(with_reducible refine cD ?_)));(case side2=>exact (Kd.R_reads' HO_267001.out).2.1);(case side3=>repeat (first | exact (Kd.R_reads' HO_267002.out).2.2 | (with_reducible refine cA ?_ _)|(with_reducible refine cN ?_ _)|(with_reducible refine cD ?_)));(case side4=>exact (Kd.R_reads' HO_267002.out).2.1);rintro e w82 ⟨rfl,hb⟩;refine ⟨_,rfl,?_⟩;have n_:=z (Kd.Q_below (zq HO_85.out) hb)<|z (Kd.R_below (zr HO_267001.out) hb)<|z (Kd.R_below (zr HO_267002.out) hb)<|z (blk_below (zb BK258.out) hb)<|z (blk_below (zb BK266.out) hb)<|z1 (below_step zj_ hb);clear HO_85 HO_267001 HO_267002 BK258 BK266 HB;obtain ⟨HO_85,HO_267001,HO_267002,BK258,BK266,HB⟩:=n_;clear hb;obtain ⟨hcz83_0,hcz83_1,hcz83_2,hfz83_0,hfz83_1,hfz83_2⟩:=zk3 BK258.out))
                    refine bodyPost_ret (results_ct rfl _ _ gb258 31 #[.int .i64 0,.slice none 0 0,.slice none 0 0] (0,0) _ rfl (by refine zb ?_;refine blk_put (cs:=#[.int .i64 0,.slice none 0 0,.slice none 0 0]) ?_ 2 _ rfl;refine zb ?_;refine blk_put (cs:=#[.int .i64 0,.slice none 0 0,.slice none 0 0]) ?_ 1 _ rfl;refine zb ?_;refine blk_put (cs:=#[.int .i64 x259000_3,.slice none 0 0,.slice none 0 0]) ?_ 0 _ rfl;refine zb ?_;exact BK258.out) Tryd.underlying31 rfl (by kernel_rfl)) rfl ?_
                    exact ⟨_,_,zeh_,zi_,zi_,zj_⟩
               ·rw [if_neg c52] at H
                exact q3n_ H
              ·rw [if_neg c51] at H
               have c51b0:=beq_eq_false_iff_ne.mpr c51;have c51b1:=bne_iff_ne.mpr c51
               simp only [Option.some.injEq,Prod.mk.injEq] at H
               obtain ⟨rfl,rfl,rfl,rfl⟩:=H;have p280:0≤((ji46):Int):=of_decide_eq_true za_;have q280:(ji46)<(t259.length:Int):=of_decide_eq_true za_;obtain ⟨ad280,e280,hx280_0⟩:=Kd.at_string (Kd.R_reads' HO_4.out).2.2 (ji46) p280 q280;obtain rfl:ad263=ad280:=(by injection e280);replace p280:=eq_true p280;replace q280:=eq_true q280
               go_wp2_with (first | ((with_reducible refine gate_callee (f:=32) rfl ?_);refine goesL_ (some 78) rfl rfl Tryd.func32 (by kernel_rfl) rfl #[.string (rdOf ByteArray.empty t259 (ji46)),.string (⟨#[32]⟩:ByteArray)] rfl (by (try simp only [mT,mC,mN]);first | done | (simp only [hji46];rfl) | rfl | (simp only [lD,lT];rfl)) ?_;(with_reducible refine (strings_Split.calls k2 (rdOf ByteArray.empty t259 (ji46)) (⟨#[32]⟩:ByteArray) t281 _ A49.out).mono ?_);rintro e w84 ⟨v282,rfl,ho0,hb⟩;refine ⟨_,rfl,?_⟩;have n_:=z (Kd.R_elder' (zr HO_4.out) (Kd.R_base ho0) hb)<|z (Kd.R_below (zr HO_267001.out) hb)<|z (Kd.R_lower (Kd.R_new' ho0 (Kd.R_lt (zr HO_4.out))) (below_size zj_))<|z (blk_below (zb BK258.out) hb)<|z (blk_below (zb BK266.out) hb)<|z (Kd.C_below zdb_ hb)<|z1 (below_step zj_ hb);clear HO_4 HO_267001 BK258 BK266 HR270 HB;obtain ⟨HO_4,HO_267001,HO283,BK258,BK266,HR270,HB⟩:=n_;clear hb;(try clear ho0);obtain ⟨Ao85,co85,eo85⟩:=Kd.R_slice HO283.out;subst eo85;have p284:0≤(0:Int):=(by omega);have q284:0<(t281.length:Int):=of_decide_eq_true za_;obtain ⟨ad284,e284,hx284_0⟩:=Kd.at_string (Kd.R_reads' HO283.out).2.2 0 p284 q284;cases e284;have qi284:(0<t281.length)=True:=eq_true (by omega);(try rw [show ((0:Int)).toNat=0 from rfl] at hx284_0);(try rw [Addr.add_zero'] at hx284_0);replace p284:=eq_true p284;replace q284:=eq_true q284;have hnb86:=NB258_266.out;have hnc86:=NB266_258.out;obtain ⟨hcz87_0,hcz87_1,hcz87_2,hfz87_0,hfz87_1,hfz87_2⟩:=zk3 BK258.out))
               refine bodyPost_ret (results_ct rfl _ _ gb258 31 #[.int .i64 0,.slice none 0 0,.slice none 0 0] (0,0) _ rfl (by refine zb ?_;refine blk_put (cs:=#[.int .i64 0,.slice none 0 0,.slice none 0 0]) ?_ 2 _ rfl;refine zb ?_;refine blk_put (cs:=#[.int .i64 0,.slice none 0 0,.slice none 0 0]) ?_ 1 _ rfl;refine zb ?_;refine blk_put (cs:=#[.int .i64 x259000_2,.slice none 0 0,.slice none 0 0]) ?_ 0 _ rfl;refine zb ?_;exact BK258.out) Tryd.underlying31 rfl (by kernel_rfl)) rfl ?_
               exact ⟨_,_,zeh_,zi_,zi_,zj_⟩
             ·rw [if_neg c50] at H
              exact q3n_ H
            ·rw [if_neg c48] at H
             exact q3n_ H
           ·rw [if_neg c47] at H
            exact q3n_ H
       ·rw [if_neg c16] at H
        exact q3n_ H
      ·rw [if_neg c15] at H
       exact q3n_ H
     ·replace c14:=Bool.eq_false_iff.mpr c14
      subst c14;have H1:(some (0,([]:List (S47)),([]:List Int),false))=some (r1,r2,r3,r4):=by rw [if_neg (show ¬ (false=true) by decide)] at H;exact H
      clear H;have H:=H1;clear H1
      simp only [Option.some.injEq,Prod.mk.injEq] at H
      obtain ⟨rfl,rfl,rfl,rfl⟩:=H;obtain ⟨Ao88,co88,eo88⟩:=Kd.R_slice HO_4.out;subst eo88;have p263:0≤(0:Int):=(by omega);have q263:0<(t259.length:Int):=of_decide_eq_true za_;obtain ⟨ad263,e263,hx263_0⟩:=Kd.at_string (Kd.R_reads' HO_4.out).2.2 0 p263 q263
      cases e263
      have qi263:(0<t259.length)=True:=eq_true (by omega);(try rw [show ((0:Int)).toNat=0 from rfl] at hx263_0);(try rw [Addr.add_zero'] at hx263_0);replace p263:=eq_true p263;replace q263:=eq_true q263
      go_wp2_with (first | ((with_reducible refine gate_callee (f:=30) rfl ?_);refine goesL_ (some 39) rfl rfl Tryd.func30 (by kernel_rfl) rfl #[.string (rdOf ByteArray.empty t259 0)] rfl zd_ ?_;(with_reducible refine (impl_decimal.calls kj2 (rdOf ByteArray.empty t259 0) t264 false _ A13.out).mono ?_);rintro e w' ⟨rfl,⟨nd,rfl⟩⟩;refine ⟨_,rfl,?_⟩;(try (rw [drewN_self wc];generalize hq_:World.drewN wc _=wc;have n0_:Aside0 (Kd.R Kd.string 9 wc w.heap.size (fun _=>True) (.slice (some ad263) t259.length co88) t259):=⟨zdh_⟩;have n1_:Aside0 (wc.heap[gb258]?=some (.cells #[.int .i64 0,.slice none 0 0,.slice none 0 0] 31 (0,0))):=⟨by rw [← hq_];exact (zb BK258.out)⟩;have n2_:Aside0 (Below w.heap.size w wc):=⟨by rw [← hq_];exact zcb_⟩;clear HO_4 BK258 HB hq_;have HO_4:=n0_;have BK258:=n1_;have HB:=n2_;clear n0_ n1_ n2_;obtain ⟨hczq258_0,hfzq258_0⟩:=zk1 BK258.out;have hczq258_1:wc.cell? ⟨gb258,1,none⟩=some (.slice none 0 0):=(blk_cell BK258.out 1).trans rfl;have hfzq258_1:=blk_frozen BK258.out 1;have hczq258_2:wc.cell? ⟨gb258,2,none⟩=some (.slice none 0 0):=(blk_cell BK258.out 2).trans rfl;have hfzq258_2:=blk_frozen BK258.out 2));obtain ⟨hcz89_0,hcz89_1,hcz89_2,hfz89_0,hfz89_1,hfz89_2⟩:=zk3 BK258.out))
      refine bodyPost_ret (results_ct rfl _ _ gb258 31 #[.int .i64 0,.slice none 0 0,.slice none 0 0] (0,0) _ rfl (by refine zb ?_;refine blk_put (cs:=#[.int .i64 0,.slice none 0 0,.slice none 0 0]) ?_ 2 _ rfl;refine zb ?_;refine blk_put (cs:=#[.int .i64 0,.slice none 0 0,.slice none 0 0]) ?_ 1 _ rfl;refine zb ?_;refine blk_put (cs:=#[.int .i64 0,.slice none 0 0,.slice none 0 0]) ?_ 0 _ rfl;refine zb ?_;exact BK258.out) Tryd.underlying31 rfl (by kernel_rfl)) rfl ?_
      exact ⟨_,_,zf_,zi_,zi_,zcb_⟩
    ·rw [if_neg c12] at H
     exact q3n_ H
def laws_markGateS.l0:Nat→List (S47)→Int→Int→Option (Int×(List (S47)))
 | 0,_,_,_=>none
 | k+1,x0,x1,x5=>if x5<(x0.length:Int) then (if 0≤x5 then ((some (x0.set (x5:Int).toNat (⟨x1,(rd_T47 x0 x5).f1,(rd_T47 x0 x5).f2⟩:S47):List (S47))).bind fun y295=>((some (y295.set (x5:Int).toNat (⟨(rd_T47 y295 x5).f0,wrap64 (x1+1),(rd_T47 y295 x5).f2⟩:S47):List (S47))).bind fun y296=>(laws_markGateS.l0 k (y296.set (x5:Int).toNat (⟨(rd_T47 y296 x5).f0,(rd_T47 y296 x5).f1,wrap64 ((wrap64 (x1+1))+1)⟩:S47)) (wrap64 ((wrap64 ((wrap64 (x1+1))+1))+1)) (wrap64 (x5+1))))) else (none)) else (some (x1,x0))
def laws_markGateS.f (k:Nat) (l0:List (S47)) (a1:Int):Option (Int×(List (S47))):=laws_markGateS.l0 k l0 a1 0
theorem laws_markGateS.mono_l:∀ k,(∀ y0 y1 y2,LeO (laws_markGateS.l0 k y0 y1 y2) (laws_markGateS.l0 (k+1) y0 y1 y2))
 | 0=>fun _ _ _ r h=>by simp [laws_markGateS.l0] at h
 | k+1=>by
  have ih0:=laws_markGateS.mono_l k
  ·intro y0 y1 y2
   unfold laws_markGateS.l0
   repeat' first
   | (with_reducible exact ih0 _ _ _)
   | (with_reducible exact LeO.refl _)
   | (with_reducible exact LeO.none _)
   | (with_reducible refine LeO.ite ?_ ?_)
   | (with_reducible refine LeO.bind ?_ (fun _=>?_))
   | exact ih0 _ _ _
   | exact LeO.none _
   | refine LeO.ite ?_ ?_
   | refine LeO.bind ?_ (fun _=>?_)
theorem laws_markGateS.mono:∀ a0 a1 k,LeO (laws_markGateS.f k a0 a1) (laws_markGateS.f (k+1) a0 a1):=by
 intro a0 a1 k
 have ih0:=laws_markGateS.mono_l k
 unfold laws_markGateS.f
 repeat' first
   | (with_reducible exact ih0 _ _ _)
   | (with_reducible exact LeO.refl _)
   | (with_reducible exact LeO.none _)
   | (with_reducible refine LeO.ite ?_ ?_)
   | (with_reducible refine LeO.bind ?_ (fun _=>?_))
   | exact ih0 _ _ _
   | exact LeO.none _
   | refine LeO.ite ?_ ?_
   | refine LeO.bind ?_ (fun _=>?_)
theorem laws_markGateS.calls (k:Nat) (P0_:Nat→Prop) (u9000_:Value) (l0:List (S47)) (a1:Int) (r1:Int) (r2:List (S47)) (w0 w:World) (hB:Below w0.heap.size w0 w) (ho0:Kd.R k47 47 w w0.heap.size P0_ u9000_ l0) (h:laws_markGateS.f k l0 a1=some (r1,r2)) :
  Calls Tryd.prog 33 #[u9000_,.int .i64 a1] w fun e w'=>e = .returned (.int .i64 r1)∧Kd.R k47 47 w' w0.heap.size (fun k_=>(P0_ k_∨w.heap.size≤k_)) u9000_ r2∧Below w0.heap.size w0 w'∧Kept w w' (fun k_=>P0_ k_):=by
 have HO0:=aM (show Kd.R k47 47 w w0.heap.size (fun k_=>(P0_ k_∨w.heap.size≤k_)) u9000_ l0 from Kd.R_mono ho0 (fun k_ hk=>(.inl hk)))
 have HK:=aM (Kept.refl w (fun k_=>P0_ k_))
 have HW0:=aM hB.size
 have HB:=aM hB
 clear hB
 have H:(laws_markGateS.l0 k l0 a1 0)=some (r1,r2):=h
 clear h
 have H':=aM H
 clear H
 go_enter Tryd.func33,Tryd.ntmps33
 go_wp2
 go_loopg [1,5] k (fun kq v1 v5 w' => ∃ (x0_1:List (S47)) (x1_1:Int) (x5_1:Int),v1 = .int .i64 x1_1∧v5 = .int .i64 x5_1∧Aside0 (laws_markGateS.l0 kq x0_1 x1_1 x5_1=some (r1,r2))∧Aside0 (kq≤k)∧Aside0 (Kd.R k47 47 w' w0.heap.size (fun k_=>(P0_ k_∨w.heap.size≤k_)) u9000_ x0_1)∧Aside0 (Kept w w' (fun k_=>P0_ k_))∧Aside0 (Below w0.heap.size w0 w'))
 case atStart=>exact ⟨(l0),(a1),(0),zc_,zc_,H',⟨Nat.le_refl _⟩,⟨zr HO0.out⟩,⟨zcc_⟩,⟨zb_⟩⟩
 case round =>
  clear H';obtain ⟨x0_1,x1_1,x5_1,rfl,rfl,HA,HK1,HO_0,HK,HB⟩:=hrel
  cases gk with
  | zero=>exact absurd HA.out (by simp [laws_markGateS.l0])
  | succ k1 =>
   have H:=HA.out;clear HA
   simp only [laws_markGateS.l0] at H
   by_cases c3:x5_1<(x0_1.length:Int)
   ·rw [if_pos c3] at H
    have c3b0:=decide_eq_true c3;clear c3
    by_cases c4:0≤x5_1
    ·rw [if_pos c4] at H
     have c4b0:=decide_eq_true c4;clear c4;obtain ⟨y295,hy295⟩:∃ y_:List (S47),y_=(x0_1.set (x5_1:Int).toNat (⟨x1_1,(rd_T47 x0_1 x5_1).f1,(rd_T47 x0_1 x5_1).f2⟩:S47)):=⟨_,rfl⟩;replace H:((some (y295.set (x5_1:Int).toNat (⟨(rd_T47 y295 x5_1).f0,wrap64 (x1_1+1),(rd_T47 y295 x5_1).f2⟩:S47):List (S47))).bind fun y296=>(laws_markGateS.l0 k1 (y296.set (x5_1:Int).toNat (⟨(rd_T47 y296 x5_1).f0,(rd_T47 y296 x5_1).f1,wrap64 ((wrap64 (x1_1+1))+1)⟩:S47)) (wrap64 ((wrap64 ((wrap64 (x1_1+1))+1))+1)) (wrap64 (x5_1+1))))=some (r1,r2):=q3y_ hy295 H
     have Ny295:=aM hy295;clear hy295;obtain ⟨y296,hy296⟩:∃ y_:List (S47),y_=(y295.set (x5_1:Int).toNat (⟨(rd_T47 y295 x5_1).f0,wrap64 (x1_1+1),(rd_T47 y295 x5_1).f2⟩:S47)):=⟨_,rfl⟩;replace H:(laws_markGateS.l0 k1 (y296.set (x5_1:Int).toNat (⟨(rd_T47 y296 x5_1).f0,(rd_T47 y296 x5_1).f1,wrap64 ((wrap64 (x1_1+1))+1)⟩:S47)) (wrap64 ((wrap64 ((wrap64 (x1_1+1))+1))+1)) (wrap64 (x5_1+1)))=some (r1,r2):=q3y_ hy296 H
     have Ny296:=aM hy296;clear hy296;obtain ⟨y297,hy297⟩:∃ y_:List (S47),y_=(y296.set (x5_1:Int).toNat (⟨(rd_T47 y296 x5_1).f0,(rd_T47 y296 x5_1).f1,wrap64 ((wrap64 (x1_1+1))+1)⟩:S47)):=⟨_,rfl⟩;replace H:(laws_markGateS.l0 k1 y297 (wrap64 ((wrap64 ((wrap64 (x1_1+1))+1))+1)) (wrap64 (x5_1+1)))=some (r1,r2):=q3y_ hy297 H
     have Ny297:=aM hy297;clear hy297;have H':=aM H;clear H;obtain ⟨Ao8,co8,eo8⟩:=Kd.R_slice HO_0.out;subst eo8;have p5:0≤(x5_1:Int):=of_decide_eq_true za_;have q5:(x5_1:Int)<((x0_1.length:Int):Int):=of_decide_eq_true za_;obtain ⟨go5,co5,eo5,gb5,gl5,cl5,HG5⟩:=Kd.R_form HO_0.out (by omega);(first | cases eo5 | (injection eo5 with ea_ en_ ec_;(first | subst ea_ | (injection ea_ with ea_;subst ea_));subst ec_;clear en_));have GB5:=aM gb5;have GG5:=aM HG5;clear gb5 gl5 HG5;have HMgo5:=aM (show (P0_ go5∨w.heap.size≤go5) from (HO_0.out.1 _ rfl));obtain ⟨ce5,hcl5,hM5,hcc5,hfr5⟩:=Kd.R_elem HO_0.out z47 (x5_1:Int) p5 q5;obtain rfl:=k47_openM hM5;have hx5_0:wr.cell? ⟨go5,(x5_1:Int).toNat * 3,none⟩=some (.int .i64 ((rd_T47 x0_1 x5_1).f0)):=hcc5 0 _ rfl;have hx5_1:wr.cell? ⟨go5,(x5_1:Int).toNat * 3+1,none⟩=some (.int .i64 ((rd_T47 x0_1 x5_1).f1)):=hcc5 1 _ rfl;have hx5_2:wr.cell? ⟨go5,(x5_1:Int).toNat * 3+2,none⟩=some (.int .i64 ((rd_T47 x0_1 x5_1).f2)):=hcc5 2 _ rfl;have hf5_0:wr.frozen? ⟨go5,(x5_1:Int).toNat * 3,none⟩=false:=hfr5 0;have hf5_1:wr.frozen? ⟨go5,(x5_1:Int).toNat * 3+1,none⟩=false:=hfr5 1;have hf5_2:wr.frozen? ⟨go5,(x5_1:Int).toNat * 3+2,none⟩=false:=hfr5 2;clear hcl5 hcc5 hfr5;(try clear hM5);replace p5:=eq_true p5;replace q5:=eq_true q5;have HX9:=aM (show Kd.R k47 47 wr w0.heap.size (fun k_=>(P0_ k_∨w.heap.size≤k_)) (.slice (some ⟨go5,0,none⟩) x0_1.length co8) x0_1 from (zr HO_0.out));obtain ⟨ce9,hcl9,hM9,hcc9,hfr9⟩:=Kd.R_elem HX9.out z47 (x5_1:Int) (of_decide_eq_true za_) (by have h_:(x5_1:Int)<((x0_1.length:Int):Int):=of_decide_eq_true za_;first | exact h_ | (have e_:=(Kd.R_reads' HO_0.out).1;omega) | simpa using h_);obtain rfl:=k47_openM hM9;have HP9:=Kd.R_seg HX9.out (x5_1:Int) (of_decide_eq_true za_) (by have h_:(x5_1:Int)<((x0_1.length:Int):Int):=of_decide_eq_true za_;first | exact h_ | (have e_:=(Kd.R_reads' HO_0.out).1;omega) | simpa using h_) (seg:=[.int .i64 x1_1]) (j:=0) hcl9 hcc9 (show 1≤3 from by decide) (x':=(⟨x1_1,(rd_T47 x0_1 x5_1).f1,(rd_T47 x0_1 x5_1).f2⟩:S47)) (k47_mkM _ _ _ (⟨x1_1,(rd_T47 x0_1 x5_1).f1,(rd_T47 x0_1 x5_1).f2⟩:S47) ) (fun _ hk=>hk);have hx9_0:=hcc9 0 _ rfl;(try simp only [show (k47).sz=3 from rfl,Nat.mul_one,Nat.add_zero] at hx9_0);have hf9_0:=hfr9 0;(try simp only [show (k47).sz=3 from rfl,Nat.mul_one,Nat.add_zero] at hf9_0);clear hcl9 hcc9 hfr9;(try clear hM9)
     go_wp2_with (first | ((with_reducible refine gate_store (t:=3) (p:=16) rfl ?_);refine store_event (t:=3) (p:=16) (v:=?vo_w10) (w1:=(wr.setCell ⟨go5,(x5_1:Int).toNat * 3,none⟩ (.int .i64 x1_1))) ?hg ?ho ?hn ?hr ?_;(case ho=>rfl);(case hg=>rfl);(case hn=>rfl);(case hr=>exact ze_);intro w10 hw;have hg:wr.grownBy w10 (some go5):=(by rw [hw];exact HP9.2);have hp_:Kd.R k47 47 w10 w0.heap.size (fun k_=>(P0_ k_∨w.heap.size≤k_)) (.slice (some ⟨go5,0,none⟩) x0_1.length co8) y295:=(by rw [hw,Ny295.out];exact HP9.1);clear HP9;have n_:=z (hp_)<|z ((by rw [hw];exact below_set (HB.out) GB5.out:Below w0.heap.size w0 w10))<|z1 (Kept.of_grown (S:=(fun k_=>P0_ k_)) hg zcc_ (fun k_ e_=>(HO_0.out.1 k_ e_)));clear HO_0 HB HK;obtain ⟨HO_0,HB,HK⟩:=n_;clear hg hw hp_;have p6:0≤(x5_1:Int):=of_decide_eq_true za_;have q6:(x5_1:Int)<((x0_1.length:Int):Int):=of_decide_eq_true za_;obtain ⟨ce6,hcl6,hM6,hcc6,hfr6⟩:=Kd.R_elem HO_0.out z47 (x5_1:Int) p6 q6;obtain rfl:=k47_openM hM6;have hx6_0:w10.cell? ⟨go5,(x5_1:Int).toNat * 3,none⟩=some (.int .i64 ((rd_T47 y295 x5_1).f0)):=hcc6 0 _ rfl;have hx6_1:w10.cell? ⟨go5,(x5_1:Int).toNat * 3+1,none⟩=some (.int .i64 ((rd_T47 y295 x5_1).f1)):=hcc6 1 _ rfl;have hx6_2:w10.cell? ⟨go5,(x5_1:Int).toNat * 3+2,none⟩=some (.int .i64 ((rd_T47 y295 x5_1).f2)):=hcc6 2 _ rfl;have hf6_0:w10.frozen? ⟨go5,(x5_1:Int).toNat * 3,none⟩=false:=hfr6 0;have hf6_1:w10.frozen? ⟨go5,(x5_1:Int).toNat * 3+1,none⟩=false:=hfr6 1;have hf6_2:w10.frozen? ⟨go5,(x5_1:Int).toNat * 3+2,none⟩=false:=hfr6 2;clear hcl6 hcc6 hfr6;(try clear hM6);replace p6:=eq_true p6;replace q6:=eq_true q6;have HX11:=aM (show Kd.R k47 47 w10 w0.heap.size (fun k_=>(P0_ k_∨w.heap.size≤k_)) (.slice (some ⟨go5,0,none⟩) x0_1.length co8) y295 from (zr HO_0.out));obtain ⟨ce11,hcl11,hM11,hcc11,hfr11⟩:=Kd.R_elem HX11.out z47 (x5_1:Int) (of_decide_eq_true za_) (by have h_:(x5_1:Int)<((x0_1.length:Int):Int):=of_decide_eq_true za_;first | exact h_ | (have e_:=(Kd.R_reads' HO_0.out).1;omega) | simpa using h_);obtain rfl:=k47_openM hM11;have HP11:=Kd.R_seg HX11.out (x5_1:Int) (of_decide_eq_true za_) (by have h_:(x5_1:Int)<((x0_1.length:Int):Int):=of_decide_eq_true za_;first | exact h_ | (have e_:=(Kd.R_reads' HO_0.out).1;omega) | simpa using h_) (seg:=[.int .i64 (wrap64 (x1_1+1))]) (j:=1) hcl11 hcc11 (show 2≤3 from by decide) (x':=(⟨(rd_T47 y295 x5_1).f0,wrap64 (x1_1+1),(rd_T47 y295 x5_1).f2⟩:S47)) (k47_mkM _ _ _ (⟨(rd_T47 y295 x5_1).f0,wrap64 (x1_1+1),(rd_T47 y295 x5_1).f2⟩:S47) ) (fun _ hk=>hk);have hx11_1:=hcc11 1 _ rfl;(try simp only [show (k47).sz=3 from rfl,Nat.mul_one,Nat.add_zero] at hx11_1);have hf11_1:=hfr11 1;(try simp only [show (k47).sz=3 from rfl,Nat.mul_one,Nat.add_zero] at hf11_1);clear hcl11 hcc11 hfr11;(try clear hM11))|((with_reducible refine gate_store (t:=3) (p:=23) rfl ?_);refine store_event (t:=3) (p:=23) (v:=?vo_w12) (w1:=(w10.setCell ⟨go5,(x5_1:Int).toNat * 3+1,none⟩ (.int .i64 (wrap64 (x1_1+1))))) ?hg ?ho ?hn ?hr ?_;(case ho=>rfl);(case hg=>rfl);(case hn=>rfl);(case hr=>exact ze_);intro w12 hw;have hg:w10.grownBy w12 (some go5):=(by rw [hw];exact HP11.2);have hp_:Kd.R k47 47 w12 w0.heap.size (fun k_=>(P0_ k_∨w.heap.size≤k_)) (.slice (some ⟨go5,0,none⟩) x0_1.length co8) y296:=(by rw [hw,Ny296.out];exact HP11.1);clear HP11;have n_:=z (hp_)<|z ((by rw [hw];exact below_set (HB.out) GB5.out:Below w0.heap.size w0 w12))<|z1 (Kept.of_grown (S:=(fun k_=>P0_ k_)) hg zcc_ (fun k_ e_=>(HO_0.out.1 k_ e_)));clear HO_0 HB HK;obtain ⟨HO_0,HB,HK⟩:=n_;clear hg hw hp_;have p7:0≤(x5_1:Int):=of_decide_eq_true za_;have q7:(x5_1:Int)<((x0_1.length:Int):Int):=of_decide_eq_true za_;obtain ⟨ce7,hcl7,hM7,hcc7,hfr7⟩:=Kd.R_elem HO_0.out z47 (x5_1:Int) p7 q7;obtain rfl:=k47_openM hM7;have hx7_0:w12.cell? ⟨go5,(x5_1:Int).toNat * 3,none⟩=some (.int .i64 ((rd_T47 y296 x5_1).f0)):=hcc7 0 _ rfl;have hx7_1:w12.cell? ⟨go5,(x5_1:Int).toNat * 3+1,none⟩=some (.int .i64 ((rd_T47 y296 x5_1).f1)):=hcc7 1 _ rfl;have hx7_2:w12.cell? ⟨go5,(x5_1:Int).toNat * 3+2,none⟩=some (.int .i64 ((rd_T47 y296 x5_1).f2)):=hcc7 2 _ rfl;have hf7_0:w12.frozen? ⟨go5,(x5_1:Int).toNat * 3,none⟩=false:=hfr7 0;have hf7_1:w12.frozen? ⟨go5,(x5_1:Int).toNat * 3+1,none⟩=false:=hfr7 1;have hf7_2:w12.frozen? ⟨go5,(x5_1:Int).toNat * 3+2,none⟩=false:=hfr7 2;clear hcl7 hcc7 hfr7;(try clear hM7);replace p7:=eq_true p7;replace q7:=eq_true q7;have HX13:=aM (show Kd.R k47 47 w12 w0.heap.size (fun k_=>(P0_ k_∨w.heap.size≤k_)) (.slice (some ⟨go5,0,none⟩) x0_1.length co8) y296 from (zr HO_0.out));obtain ⟨ce13,hcl13,hM13,hcc13,hfr13⟩:=Kd.R_elem HX13.out z47 (x5_1:Int) (of_decide_eq_true za_) (by have h_:(x5_1:Int)<((x0_1.length:Int):Int):=of_decide_eq_true za_;first | exact h_ | (have e_:=(Kd.R_reads' HO_0.out).1;omega) | simpa using h_);obtain rfl:=k47_openM hM13;have HP13:=Kd.R_seg HX13.out (x5_1:Int) (of_decide_eq_true za_) (by have h_:(x5_1:Int)<((x0_1.length:Int):Int):=of_decide_eq_true za_;first | exact h_ | (have e_:=(Kd.R_reads' HO_0.out).1;omega) | simpa using h_) (seg:=[.int .i64 (wrap64 ((wrap64 (x1_1+1))+1))]) (j:=2) hcl13 hcc13 (show 3≤3 from by decide) (x':=(⟨(rd_T47 y296 x5_1).f0,(rd_T47 y296 x5_1).f1,wrap64 ((wrap64 (x1_1+1))+1)⟩:S47)) (k47_mkM _ _ _ (⟨(rd_T47 y296 x5_1).f0,(rd_T47 y296 x5_1).f1,wrap64 ((wrap64 (x1_1+1))+1)⟩:S47) ) (fun _ hk=>hk);have hx13_2:=hcc13 2 _ rfl;(try simp only [show (k47).sz=3 from rfl,Nat.mul_one,Nat.add_zero] at hx13_2);have hf13_2:=hfr13 2;(try simp only [show (k47).sz=3 from rfl,Nat.mul_one,Nat.add_zero] at hf13_2);clear hcl13 hcc13 hfr13;(try clear hM13))|((with_reducible refine gate_store (t:=3) (p:=30) rfl ?_);refine store_event (t:=3) (p:=30) (v:=?vo_w14) (w1:=(w12.setCell ⟨go5,(x5_1:Int).toNat * 3+2,none⟩ (.int .i64 (wrap64 ((wrap64 (x1_1+1))+1))))) ?hg ?ho ?hn ?hr ?_;(case ho=>rfl);(case hg=>rfl);(case hn=>rfl);(case hr=>exact ze_);intro w14 hw;have hg:w12.grownBy w14 (some go5):=(by rw [hw];exact HP13.2);have hp_:Kd.R k47 47 w14 w0.heap.size (fun k_=>(P0_ k_∨w.heap.size≤k_)) (.slice (some ⟨go5,0,none⟩) x0_1.length co8) y297:=(by rw [hw,Ny297.out];exact HP13.1);clear HP13;have n_:=z (hp_)<|z ((by rw [hw];exact below_set (HB.out) GB5.out:Below w0.heap.size w0 w14))<|z1 (Kept.of_grown (S:=(fun k_=>P0_ k_)) hg zcc_ (fun k_ e_=>(HO_0.out.1 k_ e_)));clear HO_0 HB HK;obtain ⟨HO_0,HB,HK⟩:=n_;clear hg hw hp_))
     go_roundg k1
     case measure=>have:=HK1.out;omega
     case rel=>exact ⟨(y297),(wrap64 ((wrap64 ((wrap64 (x1_1+1))+1))+1)),(wrap64 (x5_1+1)),zc_,zc_,H',⟨zbd_⟩,⟨zr HO_0.out⟩,⟨zcc_⟩,⟨zb_⟩⟩
    ·rw [if_neg c4] at H
     exact q3n_ H
   ·rw [if_neg c3] at H
    have c3b0:=decide_eq_false c3;clear c3
    simp only [Option.some.injEq,Prod.mk.injEq] at H
    obtain ⟨rfl,rfl⟩:=H;obtain ⟨Ao15,co15,eo15⟩:=Kd.R_slice HO_0.out;subst eo15
    go_wp2
    go_ret
    exact ⟨zf_,by refine zr ?_;exact HO_0.out,zb_,zcc_⟩
end Go.Proofs.YtanpidphaanjiaaDoor.QFnExactParseCircuit
