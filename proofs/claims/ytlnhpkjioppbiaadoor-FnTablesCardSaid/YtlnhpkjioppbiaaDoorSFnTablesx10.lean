/- Functions of FnTables, each as a Lean function, with the proof that the Go code comes to its answers. -/
import Derived.Test.YtlnhpkjioppbiaaDoorSFnTablesx0
import Derived.Test.YtlnhpkjioppbiaaDoorSFnTablesx3
import Derived.Test.YtlnhpkjioppbiaaDoorSFnTablesx8
import Derived.Test.YtlnhpkjioppbiaaDoorSFnTablesx1
import Derived.Test.YtlnhpkjioppbiaaDoorSFnTablesx6
namespace Go.Proofs.YtlnhpkjioppbiaaDoor.QFnTables
open Go.RowKit Go.Proofs.YtlnhpkjioppbiaaDoorW.PrintWords Go.Proofs.YtlnhpkjioppbiaaDoorW.PrintLast Go.Proofs.YtlnhpkjioppbiaaDoorW.PrintMore
open Go.Proofs.YtlnhpkjioppbiaaDoorW.PrintWords renaming pw_below_drewN→pN,below_drew1→p1,below_alloc→pA
open Go.Proofs.YtlnhpkjioppbiaaDoorW.PrintWords.Kd renaming R_alloc→kA,R_drewN→kN,R_drew→kD,Q_alloc→qA,Q_drewN→qN,Q_drew→qD,C_alloc→cA,C_drewN→cN,C_drew→cD
open Go.Proofs.YtlnhpkjioppbiaaDoorW.PrintWords.Aside0 renaming mk→aM
open List renaming setIfInBounds_toArray→sI,set_cons_zero→s0,set_cons_succ→sS,map_toArray→mT,length_take→lT,length_drop→lD,map_cons→mC,map_nil→mN
open Option renaming bind_eq_some_iff→oB,bind_some→oS
attribute [local go_sem] max2_int min2_int max_two min_two max_three min_three max_four min_four
set_option maxHeartbeats 8000000
set_option maxRecDepth 100000
set_option linter.unusedVariables false
set_option linter.unusedSimpArgs false
mutual
def spec_CombineTables.j0:Nat→Int→Bool→Int→List Int→Int→List Int→Option (Int×List Int×Bool)
 | 0,_,_,_,_,_,_=>none
 | k+1,x0,x30,x317000,x317001,x318000,x318001=>if x30=true then (some (0,([]:List Int),false)) else (spec_CombineTables.l0 k x0 x317001 (x317001.length:Int) 0 x318000 x318001 x317000 ([]:List Int))
def spec_CombineTables.l0:Nat→Int→List Int→Int→Int→Int→List Int→Int→List Int→Option (Int×List Int×Bool)
 | 0,_,_,_,_,_,_,_,_=>none
 | k+1,x0,x36,x37,x38,x318000,x318001,x323000,x323001=>if x38<x37 then (if 0≤x38 then (if x38<(x36.length:Int) then (if x38<(x318001.length:Int) then ((spec_ttCombine.f x0 (rd x36 x38) (rd x318001 x38)).bind fun t325=>(if x323001.length<17592186044416 then (spec_CombineTables.l0 k x0 x36 x37 (wrap64 (x38+1)) x318000 x318001 x323000 (x323001 ++ [t325])) else (none))) else (none)) else (none)) else (none)) else (some (x323000,x323001,true))
end
def spec_CombineTables.f (k:Nat) (a0:Int) (a1_0:Int) (l1_1:List Int) (a2_0:Int) (l2_1:List Int):Option (Int×List Int×Bool):=(spec_l1In.f a0 1 4).bind fun t319=>(if t319=true then ((spec_ttGood.f k a1_0 l1_1).bind fun t320=>(if t320=true then ((spec_ttGood.f k a2_0 l2_1).bind fun t321=>(if t321=true then (spec_CombineTables.j0 k a0 (a1_0 != a2_0) a1_0 l1_1 a2_0 l2_1) else (spec_CombineTables.j0 k a0 true a1_0 l1_1 a2_0 l2_1))) else (spec_CombineTables.j0 k a0 true a1_0 l1_1 a2_0 l2_1))) else (spec_CombineTables.j0 k a0 true a1_0 l1_1 a2_0 l2_1))
def spec_CombineTables.T7:Bool×List (List Nat×List Nat):=(true,[([],[]),([0],[0]),([],[]),([],[]),([],[]),([4],[4]),([],[]),([5,6],[5,6]),([7],[7]),([2,3,8],[2,3,8]),([9],[9]),([1,10,9],[1,10]),([0,1,2,3,4,5,6,7,8,9,10,11],[]),([12,11,11,0,1,2,3,4,5,6,7,8,9,10,11],[11,12])])
def spec_CombineTables.B7:List Nat:=[0,1,0,0,0,16,0,112,240,508,1020,2047,4095,8191]
theorem spec_CombineTables.tab7:rtab .any (opsOf Tryd.f39 7)=spec_CombineTables.T7:=by kernel_rfl
theorem spec_CombineTables.bits7:waitsOk spec_CombineTables.T7.2 spec_CombineTables.B7=true:=by kernel_rfl
theorem spec_CombineTables.calls (k:Nat) (a0:Int) (a1_0:Int) (A1_1:Option Addr) (c1_1:Nat) (l1_1:List Int) (a2_0:Int) (A2_1:Option Addr) (c2_1:Nat) (l2_1:List Int) (r1:Int) (r2:List Int) (r3:Bool) (w:World) (hr1_1:Kd.C (Kd.int .i64) w A1_1 l1_1.length l1_1) (hc1_1:l1_1.length≤c1_1) (hr2_1:Kd.C (Kd.int .i64) w A2_1 l2_1.length l2_1) (hc2_1:l2_1.length≤c2_1) (h:spec_CombineTables.f k a0 a1_0 l1_1 a2_0 l2_1=some (r1,r2,r3)) :
  Calls Tryd.prog 39 #[.int .i64 a0,.agg #[.int .i64 a1_0,.slice A1_1 l1_1.length c1_1],.agg #[.int .i64 a2_0,.slice A2_1 l2_1.length c2_1]] w fun e w' => ∃ v1_:Value,e = .returned (.tuple #[.agg #[.int .i64 r1,v1_],.bool r3])∧Kd.R (Kd.int .i64) 3 w' w.heap.size (fun _=>True) v1_ r2∧Below w.heap.size w w':=by
 have hu26:=Tryd.underlying26
 have HR1_1:=aM hr1_1
 have HC1_1:=aM hc1_1
 clear hr1_1 hc1_1
 have HR2_1:=aM hr2_1
 have HC2_1:=aM hc2_1
 clear hr2_1 hc2_1
 have HB:=aM (Below.refl w.heap.size w)
 have H:((spec_l1In.f a0 1 4).bind fun t319=>(if t319=true then ((spec_ttGood.f k a1_0 l1_1).bind fun t320=>(if t320=true then ((spec_ttGood.f k a2_0 l2_1).bind fun t321=>(if t321=true then (spec_CombineTables.j0 k a0 (a1_0 != a2_0) a1_0 l1_1 a2_0 l2_1) else (spec_CombineTables.j0 k a0 true a1_0 l1_1 a2_0 l2_1))) else (spec_CombineTables.j0 k a0 true a1_0 l1_1 a2_0 l2_1))) else (spec_CombineTables.j0 k a0 true a1_0 l1_1 a2_0 l2_1)))=some (r1,r2,r3):=h
 clear h
 have HC4:=aM H
 clear H
 go_enter Tryd.func39,Tryd.ntmps39
 go_upto_region 1 with (first | ((with_reducible refine gate_dst (N:=4) rfl ?_);refine box_event ?hg (N:=4) ?hd (cs:=#[.int .i64 a1_0,.slice A1_1 l1_1.length c1_1]) (t:=26) ?hr ?_;(case hd=>rfl);(case hg=>rfl);(case hr=>exact zb_);intro gb316 hg w5 hbox hb;have n_:=z (below_step za_ hb)<|z (hbox)<|z ((by rw [hg];exact (below_size za_):w.heap.size≤gb316))<|z1 ((by rw [hg];exact (below_size za_):w.heap.size≤gb316));clear HB;obtain ⟨HB,BK316,GW316,GE316⟩:=n_;clear hb hbox hg)|((with_reducible refine gate_dst (N:=5) rfl ?_);refine box_event ?hg (N:=5) ?hd (cs:=#[.int .i64 a2_0,.slice A2_1 l2_1.length c2_1]) (t:=26) ?hr ?_;(case hd=>rfl);(case hg=>rfl);(case hr=>exact zb_);intro gb317 hg w6 hbox hb;have n_:=z (blk_below (zb BK316.out) hb)<|z (below_step zbbd_ hb)<|z (hbox)<|z ((by rw [hg];exact (below_size zbbd_):w.heap.size≤gb317))<|z ((by rw [hg];exact (below_size zbbd_):w.heap.size≤gb317))<|z ((by rw [hg];exact Nat.ne_of_lt (blk_lt (zb BK316.out)):gb316≠gb317))<|z1 ((by rw [hg];exact Nat.ne_of_gt (blk_lt (zb BK316.out)):gb317≠gb316));clear BK316 HB;obtain ⟨BK316,HB,BK317,GW317,GE317,NB316_317,NB317_316⟩:=n_;clear hb hbox hg)|((with_reducible refine gate_dst (N:=6) rfl ?_);refine box_event ?hg (N:=6) ?hd (cs:=#[.int .i64 0,.slice none 0 0]) (t:=26) ?hr ?_;(case hd=>rfl);(case hg=>rfl);(case hr=>exact zb_);intro gb318 hg w7 hbox hb;have n_:=z (blk_below (zb BK316.out) hb)<|z (blk_below (zb BK317.out) hb)<|z (below_step zbbe_ hb)<|z (hbox)<|z ((by rw [hg];exact (below_size zbbe_):w.heap.size≤gb318))<|z ((by rw [hg];exact (below_size zbbe_):w.heap.size≤gb318))<|z ((by rw [hg];exact Nat.ne_of_lt (blk_lt (zb BK316.out)):gb316≠gb318))<|z ((by rw [hg];exact Nat.ne_of_gt (blk_lt (zb BK316.out)):gb318≠gb316))<|z ((by rw [hg];exact Nat.ne_of_lt (blk_lt (zb BK317.out)):gb317≠gb318))<|z1 ((by rw [hg];exact Nat.ne_of_gt (blk_lt (zb BK317.out)):gb318≠gb317));clear BK316 BK317 HB;obtain ⟨BK316,BK317,HB,BK318,GW318,GE318,NB316_318,NB318_316,NB317_318,NB318_317⟩:=n_;clear hb hbox hg))
 (try simp only [Act.put,sI,s0,sS])
 go_cut [30] (fun v30 wc => ∃ (kq:Nat) (x30_3:Bool),v30 = .bool x30_3∧Aside0 (spec_CombineTables.j0 kq a0 x30_3 a1_0 l1_1 a2_0 l2_1=some (r1,r2,r3))∧Aside0 (kq≤k)∧Aside0 (wc.heap[gb316]?=some (.cells #[.int .i64 a1_0,(.slice A1_1 l1_1.length c1_1)] 26 (0,0)))∧Aside0 (wc.heap[gb317]?=some (.cells #[.int .i64 a2_0,(.slice A2_1 l2_1.length c2_1)] 26 (0,0)))∧Aside0 (wc.heap[gb318]?=some (.cells #[.int .i64 0,(.slice none 0 0)] 26 (0,0)))∧Aside0 (Below w.heap.size w wc))
 case first =>
  have H:=HC4.out;clear HC4;replace H:=oB.mp H;obtain ⟨t319,A80,H⟩:=H;replace H:(if t319=true then ((spec_ttGood.f k a1_0 l1_1).bind fun t320=>(if t320=true then ((spec_ttGood.f k a2_0 l2_1).bind fun t321=>(if t321=true then (spec_CombineTables.j0 k a0 (a1_0 != a2_0) a1_0 l1_1 a2_0 l2_1) else (spec_CombineTables.j0 k a0 true a1_0 l1_1 a2_0 l2_1))) else (spec_CombineTables.j0 k a0 true a1_0 l1_1 a2_0 l2_1))) else (spec_CombineTables.j0 k a0 true a1_0 l1_1 a2_0 l2_1))=some (r1,r2,r3):=H;have A8:=aM A80;clear A80
  by_cases c9:t319=true
  ·subst c9
   have H1:((spec_ttGood.f k a1_0 l1_1).bind fun t320=>(if t320=true then ((spec_ttGood.f k a2_0 l2_1).bind fun t321=>(if t321=true then (spec_CombineTables.j0 k a0 (a1_0 != a2_0) a1_0 l1_1 a2_0 l2_1) else (spec_CombineTables.j0 k a0 true a1_0 l1_1 a2_0 l2_1))) else (spec_CombineTables.j0 k a0 true a1_0 l1_1 a2_0 l2_1)))=some (r1,r2,r3):=by rw [if_pos rfl] at H;exact H
   clear H;have H:=H1;clear H1;replace H:=oB.mp H;obtain ⟨t320,A100,H⟩:=H;replace H:(if t320=true then ((spec_ttGood.f k a2_0 l2_1).bind fun t321=>(if t321=true then (spec_CombineTables.j0 k a0 (a1_0 != a2_0) a1_0 l1_1 a2_0 l2_1) else (spec_CombineTables.j0 k a0 true a1_0 l1_1 a2_0 l2_1))) else (spec_CombineTables.j0 k a0 true a1_0 l1_1 a2_0 l2_1))=some (r1,r2,r3):=H;have A10:=aM A100;clear A100
   by_cases c11:t320=true
   ·subst c11
    have H1:((spec_ttGood.f k a2_0 l2_1).bind fun t321=>(if t321=true then (spec_CombineTables.j0 k a0 (a1_0 != a2_0) a1_0 l1_1 a2_0 l2_1) else (spec_CombineTables.j0 k a0 true a1_0 l1_1 a2_0 l2_1)))=some (r1,r2,r3):=by rw [if_pos rfl] at H;exact H
    clear H;have H:=H1;clear H1;replace H:=oB.mp H;obtain ⟨t321,A120,H⟩:=H;replace H:(if t321=true then (spec_CombineTables.j0 k a0 (a1_0 != a2_0) a1_0 l1_1 a2_0 l2_1) else (spec_CombineTables.j0 k a0 true a1_0 l1_1 a2_0 l2_1))=some (r1,r2,r3):=H;have A12:=aM A120;clear A120
    by_cases c13:t321=true
    ·subst c13
     have H1:(spec_CombineTables.j0 k a0 (a1_0 != a2_0) a1_0 l1_1 a2_0 l2_1)=some (r1,r2,r3):=by rw [if_pos rfl] at H;exact H
     clear H;have H:=H1;clear H1;have H':=aM H;clear H
     go_wp2_with (first | ((with_reducible refine gate_callee (f:=76) rfl ?_);refine goesL_ (some 12) rfl rfl Tryd.func76 (by kernel_rfl) rfl #[.int .i64 a0,.int .i64 1,.int .i64 4] rfl ze_ ?_;(with_reducible refine (spec_l1In.calls a0 1 4 true _ A8.out).mono ?_);rintro e w' ⟨rfl,⟨nd,rfl⟩⟩;refine ⟨_,rfl,?_⟩;have hnb14:=NB316_317.out;have hnc14:=NB317_316.out;have hnb15:=NB316_318.out;have hnc15:=NB318_316.out;obtain ⟨hcz16_0,hcz16_1,hfz16_0,hfz16_1⟩:=zk2 BK316.out)|(go_at_call 50;(with_reducible refine (spec_ttGood.calls k a1_0 _ _ l1_1 true _ ?side1 ?side2 A10.out).mono ?_);(case side1=>exact zbbf_);(case side2=>exact HC1_1.out);rintro e w17 ⟨rfl,hb⟩;have n_:=z (blk_below (zb BK316.out) hb)<|z (blk_below (zb BK317.out) hb)<|z (blk_below (zb BK318.out) hb)<|z1 (below_step zda_ hb);clear BK316 BK317 BK318 HB;obtain ⟨BK316,BK317,BK318,HB⟩:=n_;clear hb;have hnb18:=NB317_318.out;have hnc18:=NB318_317.out;obtain ⟨hcz19_0,hcz19_1,hfz19_0,hfz19_1⟩:=zk2 BK317.out)|(go_at_call 50;(with_reducible refine (spec_ttGood.calls k a2_0 _ _ l2_1 true _ ?side1 ?side2 A12.out).mono ?_);(case side1=>repeat (first | exact (Kd.C_below HR2_1.out HB.out)|(with_reducible refine cA ?_ _)|(with_reducible refine cN ?_ _)|(with_reducible refine cD ?_)));(case side2=>exact HC2_1.out);rintro e w20 ⟨rfl,hb⟩;have n_:=z (blk_below (zb BK316.out) hb)<|z (blk_below (zb BK317.out) hb)<|z (blk_below (zb BK318.out) hb)<|z1 (below_step zda_ hb);clear BK316 BK317 BK318 HB;obtain ⟨BK316,BK317,BK318,HB⟩:=n_;clear hb;obtain ⟨hcz21_0,hcz21_1,hfz21_0,hfz21_1⟩:=zk2 BK316.out;obtain ⟨hcz22_0,hcz22_1,hfz22_0,hfz22_1⟩:=zk2 BK317.out))
     go_meet
     case rel=>exact ⟨_,((a1_0 != a2_0)),zc_,H',⟨zce_⟩,⟨zb BK316.out⟩,⟨zb BK317.out⟩,⟨zb BK318.out⟩,⟨zda_⟩⟩
    ·replace c13:=Bool.eq_false_iff.mpr c13
     subst c13;have H1:(spec_CombineTables.j0 k a0 true a1_0 l1_1 a2_0 l2_1)=some (r1,r2,r3):=by rw [if_neg (show ¬ (false=true) by decide)] at H;exact H
     clear H;have H:=H1;clear H1;have H':=aM H;clear H
     go_wp2_with (first | ((with_reducible refine gate_callee (f:=76) rfl ?_);refine goesL_ (some 12) rfl rfl Tryd.func76 (by kernel_rfl) rfl #[.int .i64 a0,.int .i64 1,.int .i64 4] rfl ze_ ?_;(with_reducible refine (spec_l1In.calls a0 1 4 true _ A8.out).mono ?_);rintro e w' ⟨rfl,⟨nd,rfl⟩⟩;refine ⟨_,rfl,?_⟩;have hnb23:=NB316_317.out;have hnc23:=NB317_316.out;have hnb24:=NB316_318.out;have hnc24:=NB318_316.out;obtain ⟨hcz25_0,hcz25_1,hfz25_0,hfz25_1⟩:=zk2 BK316.out)|(go_at_call 50;(with_reducible refine (spec_ttGood.calls k a1_0 _ _ l1_1 true _ ?side1 ?side2 A10.out).mono ?_);(case side1=>exact zbbf_);(case side2=>exact HC1_1.out);rintro e w26 ⟨rfl,hb⟩;have n_:=z (blk_below (zb BK316.out) hb)<|z (blk_below (zb BK317.out) hb)<|z (blk_below (zb BK318.out) hb)<|z1 (below_step zda_ hb);clear BK316 BK317 BK318 HB;obtain ⟨BK316,BK317,BK318,HB⟩:=n_;clear hb;have hnb27:=NB317_318.out;have hnc27:=NB318_317.out;obtain ⟨hcz28_0,hcz28_1,hfz28_0,hfz28_1⟩:=zk2 BK317.out)|(go_at_call 50;(with_reducible refine (spec_ttGood.calls k a2_0 _ _ l2_1 false _ ?side1 ?side2 A12.out).mono ?_);(case side1=>repeat (first | exact (Kd.C_below HR2_1.out HB.out)|(with_reducible refine cA ?_ _)|(with_reducible refine cN ?_ _)|(with_reducible refine cD ?_)));(case side2=>exact HC2_1.out);rintro e w29 ⟨rfl,hb⟩;have n_:=z (blk_below (zb BK316.out) hb)<|z (blk_below (zb BK317.out) hb)<|z (blk_below (zb BK318.out) hb)<|z1 (below_step zda_ hb);clear BK316 BK317 BK318 HB;obtain ⟨BK316,BK317,BK318,HB⟩:=n_;clear hb))
     go_meet
     case rel=>exact ⟨_,(true),zc_,H',⟨zce_⟩,⟨zb BK316.out⟩,⟨zb BK317.out⟩,⟨zb BK318.out⟩,⟨zda_⟩⟩
   ·replace c11:=Bool.eq_false_iff.mpr c11
    subst c11;have H1:(spec_CombineTables.j0 k a0 true a1_0 l1_1 a2_0 l2_1)=some (r1,r2,r3):=by rw [if_neg (show ¬ (false=true) by decide)] at H;exact H
    clear H;have H:=H1;clear H1;have H':=aM H;clear H
    go_wp2_with (first | ((with_reducible refine gate_callee (f:=76) rfl ?_);refine goesL_ (some 12) rfl rfl Tryd.func76 (by kernel_rfl) rfl #[.int .i64 a0,.int .i64 1,.int .i64 4] rfl ze_ ?_;(with_reducible refine (spec_l1In.calls a0 1 4 true _ A8.out).mono ?_);rintro e w' ⟨rfl,⟨nd,rfl⟩⟩;refine ⟨_,rfl,?_⟩;have hnb30:=NB316_317.out;have hnc30:=NB317_316.out;have hnb31:=NB316_318.out;have hnc31:=NB318_316.out;obtain ⟨hcz32_0,hcz32_1,hfz32_0,hfz32_1⟩:=zk2 BK316.out)|(go_at_call 50;(with_reducible refine (spec_ttGood.calls k a1_0 _ _ l1_1 false _ ?side1 ?side2 A10.out).mono ?_);(case side1=>exact zbbf_);(case side2=>exact HC1_1.out);rintro e w33 ⟨rfl,hb⟩;have n_:=z (blk_below (zb BK316.out) hb)<|z (blk_below (zb BK317.out) hb)<|z (blk_below (zb BK318.out) hb)<|z1 (below_step zda_ hb);clear BK316 BK317 BK318 HB;obtain ⟨BK316,BK317,BK318,HB⟩:=n_;clear hb))
    go_meet
    case rel=>exact ⟨_,(true),zc_,H',⟨zce_⟩,⟨zb BK316.out⟩,⟨zb BK317.out⟩,⟨zb BK318.out⟩,⟨zda_⟩⟩
  ·replace c9:=Bool.eq_false_iff.mpr c9
   subst c9;have H1:(spec_CombineTables.j0 k a0 true a1_0 l1_1 a2_0 l2_1)=some (r1,r2,r3):=by rw [if_neg (show ¬ (false=true) by decide)] at H;exact H
   clear H;have H:=H1;clear H1;have H':=aM H;clear H
   go_wp2_with (first | ((with_reducible refine gate_callee (f:=76) rfl ?_);refine goesL_ (some 12) rfl rfl Tryd.func76 (by kernel_rfl) rfl #[.int .i64 a0,.int .i64 1,.int .i64 4] rfl ze_ ?_;(with_reducible refine (spec_l1In.calls a0 1 4 false _ A8.out).mono ?_);rintro e w' ⟨rfl,⟨nd,rfl⟩⟩;refine ⟨_,rfl,?_⟩))
   go_meet
   case rel=>exact ⟨_,(true),zc_,H',⟨zce_⟩,⟨zb BK316.out⟩,⟨zb BK317.out⟩,⟨zb BK318.out⟩,⟨zda_⟩⟩
 case rest =>
  clear HC4;obtain ⟨kq,x30_3,rfl,HA,HJ3,BK316,BK317,BK318,HB⟩:=hcut
  cases kq with
  | zero=>exact absurd HA.out (by simp [spec_CombineTables.j0])
  | succ kj3 =>
   have H:=HA.out;clear HA
   simp only [spec_CombineTables.j0] at H
   by_cases c34:x30_3=true
   ·subst c34
    have H1:(some (0,([]:List Int),false))=some (r1,r2,r3):=by rw [if_pos rfl] at H;exact H
    clear H;have H:=H1;clear H1
    simp only [Option.some.injEq,Prod.mk.injEq] at H
    obtain ⟨rfl,rfl,rfl⟩:=H;have hnb35:=NB318_316.out;have hnc35:=NB316_318.out;have hnb36:=NB318_317.out;have hnc36:=NB317_318.out;obtain ⟨hcz37_0,hcz37_1,hfz37_0,hfz37_1⟩:=zk2 BK318.out
    go_wp2
    refine bodyPost_ret (results_ct rfl _ _ gb318 26 #[.int .i64 0,.slice none 0 0] (0,0) _ rfl (by refine zb ?_;refine blk_put (cs:=#[.int .i64 0,.slice none 0 0]) ?_ 1 _ rfl;refine zb ?_;refine blk_put (cs:=#[.int .i64 0,.slice none 0 0]) ?_ 0 _ rfl;refine zb ?_;exact BK318.out) Tryd.underlying26 rfl (by kernel_rfl)) rfl ?_
    exact ⟨_,zh_,zca_,zda_⟩
   ·replace c34:=Bool.eq_false_iff.mpr c34
    subst c34;have H1:(spec_CombineTables.l0 kj3 a0 l1_1 (l1_1.length:Int) 0 a2_0 l2_1 a1_0 ([]:List Int))=some (r1,r2,r3):=by rw [if_neg (show ¬ (false=true) by decide)] at H;exact H
    clear H;have H:=H1;clear H1;have H':=aM H;clear H;have hnb38:=NB316_317.out;have hnc38:=NB317_316.out;have hnb39:=NB316_318.out;have hnc39:=NB318_316.out;obtain ⟨hcz40_0,hcz40_1,hfz40_0,hfz40_1⟩:=zk2 BK316.out
    go_wp2_with (first | ((with_reducible refine gate_dst (N:=8) rfl ?_);refine box_event ?hg (N:=8) ?hd (cs:=#[.int .i64 0,.slice none 0 0]) (t:=26) ?hr ?_;(case hd=>rfl);(case hg=>rfl);(case hr=>exact zb_);intro gb322 hg w41 hbox hb;have n_:=z (blk_below (zb BK316.out) hb)<|z (blk_below (zb BK317.out) hb)<|z (blk_below (zb BK318.out) hb)<|z (below_step zda_ hb)<|z (hbox)<|z ((by rw [hg];exact (below_size zda_):w.heap.size≤gb322))<|z ((by rw [hg];exact (below_size zda_):w.heap.size≤gb322))<|z ((by rw [hg];exact Nat.ne_of_lt (blk_lt (zb BK316.out)):gb316≠gb322))<|z ((by rw [hg];exact Nat.ne_of_gt (blk_lt (zb BK316.out)):gb322≠gb316))<|z ((by rw [hg];exact Nat.ne_of_lt (blk_lt (zb BK317.out)):gb317≠gb322))<|z ((by rw [hg];exact Nat.ne_of_gt (blk_lt (zb BK317.out)):gb322≠gb317))<|z ((by rw [hg];exact Nat.ne_of_lt (blk_lt (zb BK318.out)):gb318≠gb322))<|z1 ((by rw [hg];exact Nat.ne_of_gt (blk_lt (zb BK318.out)):gb322≠gb318));clear BK316 BK317 BK318 HB;obtain ⟨BK316,BK317,BK318,HB,BK322,GW322,GE322,NB316_322,NB322_316,NB317_322,NB322_317,NB318_322,NB322_318⟩:=n_;clear hb hbox hg;have hnb42:=NB322_316.out;have hnc42:=NB316_322.out;have hnb43:=NB322_317.out;have hnc43:=NB317_322.out;have hnb44:=NB322_318.out;have hnc44:=NB318_322.out;obtain ⟨hcz45_0,hcz45_1,hfz45_0,hfz45_1⟩:=zk2 BK322.out;obtain ⟨hcz46_0,hcz46_1,hfz46_0,hfz46_1⟩:=zk2 BK316.out))
    go_loopg [38] kj3 (fun kq v38 w' => ∃ (x38_2:Int) (x323001_2:List Int) (u323001:Value),v38 = .int .i64 x38_2∧Aside0 (spec_CombineTables.l0 kq a0 l1_1 (l1_1.length:Int) x38_2 a2_0 l2_1 a1_0 x323001_2=some (r1,r2,r3))∧Aside0 (kq≤kj3)∧Aside0 (Kd.R (Kd.int .i64) 3 w' w.heap.size (fun _=>True) u323001 x323001_2)∧Aside0 (w'.heap[gb316]?=some (.cells #[.int .i64 a1_0,(.slice A1_1 l1_1.length c1_1)] 26 (0,0)))∧Aside0 (w'.heap[gb317]?=some (.cells #[.int .i64 a2_0,(.slice A2_1 l2_1.length c2_1)] 26 (0,0)))∧Aside0 (w'.heap[gb318]?=some (.cells #[.int .i64 0,(.slice none 0 0)] 26 (0,0)))∧Aside0 (w'.heap[gb322]?=some (.cells #[.int .i64 a1_0,u323001] 26 (0,0)))∧Aside0 (Below w.heap.size w w'))
    case atStart=>exact ⟨(0),(([]:List Int)),(.slice none 0 0),zc_,H',⟨Nat.le_refl _⟩,⟨zca_⟩,⟨by refine zb ?_;refine blk_far ?_ NB316_322.out _;refine zb ?_;refine blk_far ?_ NB316_322.out _;refine zb ?_;exact BK316.out⟩,⟨by refine zb ?_;refine blk_far ?_ NB317_322.out _;refine zb ?_;refine blk_far ?_ NB317_322.out _;refine zb ?_;exact BK317.out⟩,⟨by refine zb ?_;refine blk_far ?_ NB318_322.out _;refine zb ?_;refine blk_far ?_ NB318_322.out _;refine zb ?_;exact BK318.out⟩,⟨by refine zb ?_;refine blk_put (cs:=#[.int .i64 a1_0,.slice none 0 0]) ?_ 1 _ rfl;refine zb ?_;refine blk_put (cs:=#[.int .i64 0,.slice none 0 0]) ?_ 0 _ rfl;refine zb ?_;exact BK322.out⟩,⟨zhj_⟩⟩
    case round =>
     clear H';(try clear hcz40_0);(try clear hcz40_1);(try clear hcz45_0);(try clear hcz45_1);(try clear hcz46_0);(try clear hcz46_1);(try clear hfz40_0);(try clear hfz40_1);(try clear hfz45_0);(try clear hfz45_1);(try clear hfz46_0);(try clear hfz46_1);obtain ⟨x38_2,x323001_2,u323001,rfl,HA,HK2,HO_323001,BK316,BK317,BK318,BK322,HB⟩:=hrel
     cases gk with
     | zero=>exact absurd HA.out (by simp [spec_CombineTables.l0])
     | succ k2 =>
      have H:=HA.out;clear HA
      simp only [spec_CombineTables.l0] at H
      by_cases c47:x38_2<(l1_1.length:Int)
      ·rw [if_pos c47] at H
       have c47b0:=decide_eq_true c47;clear c47
       by_cases c48:0≤x38_2
       ·rw [if_pos c48] at H
        have c48b0:=decide_eq_true c48;clear c48
        by_cases c49:x38_2<(l1_1.length:Int)
        ·rw [if_pos c49] at H
         have c49b0:=decide_eq_true c49;clear c49
         by_cases c50:x38_2<(l2_1.length:Int)
         ·rw [if_pos c50] at H
          have c50b0:=decide_eq_true c50;clear c50;replace H:=oB.mp H;obtain ⟨t325,A510,H⟩:=H;replace H:(if x323001_2.length<17592186044416 then (spec_CombineTables.l0 k2 a0 l1_1 (l1_1.length:Int) (wrap64 (x38_2+1)) a2_0 l2_1 a1_0 (x323001_2 ++ [t325])) else (none))=some (r1,r2,r3):=H;have A51:=aM A510;clear A510
          by_cases c52:x323001_2.length<17592186044416
          ·rw [if_pos c52] at H
           have LMc52:=aM c52;clear c52;obtain ⟨y326,hy326⟩:∃ y_:List Int,y_=(x323001_2 ++ [t325]):=⟨_,rfl⟩;replace H:(spec_CombineTables.l0 k2 a0 l1_1 (l1_1.length:Int) (wrap64 (x38_2+1)) a2_0 l2_1 a1_0 y326)=some (r1,r2,r3):=q3y_ hy326 H
           have Ny326:=aM hy326;clear hy326;have H':=aM H;clear H;have p323:0≤(x38_2:Int):=of_decide_eq_true zd_;have q323:x38_2<(l1_1.length:Int):=of_decide_eq_true zd_;obtain ⟨ad323,e323,hx323_0⟩:=Kd.at_int HR1_1.out x38_2 p323 q323
           cases e323
           (try (replace hx323_0:=q3h_ HB.out hx323_0));replace p323:=eq_true p323;replace q323:=eq_true q323;(try go_wp2);have n_:=z (kD HO_323001.out)<|z (blk_drew BK316.out)<|z (blk_drew BK317.out)<|z (blk_drew BK318.out)<|z (blk_drew BK322.out)<|z1 (p1 HB.out)
           clear HO_323001 BK316 BK317 BK318 BK322 HB;obtain ⟨HO_323001,BK316,BK317,BK318,BK322,HB⟩:=n_;have p324:0≤(x38_2:Int):=of_decide_eq_true zd_;have q324:x38_2<(l2_1.length:Int):=of_decide_eq_true zd_;obtain ⟨ad324,e324,hx324_0⟩:=Kd.at_int HR2_1.out x38_2 p324 q324;have hw324_0:=hx324_0
           cases e324
           (try (replace hx324_0:=q3h_ HB.out hx324_0));replace p324:=eq_true p324;replace q324:=eq_true q324
           refine start_ (n:=14) (S:=fun w'=>w'.cell? ⟨gb322,0,none⟩=some (.int .i64 a1_0)∧w'.cell? ⟨gb322,1,none⟩=some (u323001)∧w'.cell? ⟨gb317,0,none⟩=some (.int .i64 a2_0)∧w'.cell? ⟨gb317,1,none⟩=some (.slice (some ad324) l2_1.length c2_1)∧w'.cell? (ad324.add (x38_2).toNat)=some (.int .i64 (rd l2_1 x38_2))) (ds:=[13]) #[fi,fi,fi,fi,fi,fi,fi,fi,fi,fi,fi,fi,fi,fi] (by kernel_rfl) rfl rfl ⟨(blk_cell BK322.out 0).trans rfl,(blk_cell BK322.out 1).trans rfl,(blk_cell BK317.out 0).trans rfl,(blk_cell BK317.out 1).trans rfl,((HB.out.cell (World.block_lt_of_cell? w _ hw324_0)).trans hw324_0)⟩ (fun hHeld=>?_);refine with_tabW spec_CombineTables.tab7 spec_CombineTables.bits7 (fun HT_ HW_=>?_)
           generalize wr.drew=w53 at HO_323001 BK316 BK317 BK318 BK322 HB hx324_0 hHeld ⊢;refine py_ 0 43 HT_.out ?_;refine py_ 2 45 HT_.out ?_;refine py_ 3 46 HT_.out ?_;refine py_ 4 47 HT_.out ?_;refine py_ 6 49 HT_.out ?_
           refine tw5_ 1 44 HT_.out HW_.out hHeld ?_
           refine tw5_ 5 48 HT_.out HW_.out hHeld ?_
           refine py_ 7 50 HT_.out ?_
           refine tw5_ 8 51 HT_.out HW_.out hHeld ?_
           refine one_ (i:=9) (N:=some 52) #[ti,ti,ti,ti,ti,ti,ti,ti,ti,ti,fi,fi,fi,fi] rfl rfl (one_of HT_.out (by kernel_rfl)) (by decide) (fun K hK=>?_)
           refine goes_ Tryd.func77 (by kernel_rfl) rfl #[.int .i64 a0,.int .i64 (rd l1_1 x38_2),.int .i64 (rd l2_1 x38_2)] (by rfl) rfl rfl ze_ ?_
           with_reducible refine (spec_ttCombine.calls a0 (rd l1_1 x38_2) (rd l2_1 x38_2) t325 _ A51.out).mono ?_
           rintro e w' ⟨rfl,⟨nd,rfl⟩⟩
           refine ⟨_,rfl,?_⟩
           refine hK.out _ _ ⟨(blk_cell BK322.out 0).trans rfl,(blk_cell BK322.out 1).trans rfl,(blk_cell BK317.out 0).trans rfl,(blk_cell BK317.out 1).trans rfl,((HB.out.cell (World.block_lt_of_cell? w _ hw324_0)).trans hw324_0)⟩ (fun hHeld=>?_)
           clear hK K
           refine nz_ 52 ?_
           refine one_ (i:=10) (N:=some 53) #[ti,ti,ti,ti,ti,ti,ti,ti,ti,ti,ti,fi,fi,fi] rfl rfl (one_of HT_.out (by kernel_rfl)) (by decide) (fun K hK=>?_)
           refine value_ (w1:=?_) (v:=?_) (by rfl) rfl ?_ ?_
           rotate_left 2
           ·go_simp
            constructor
            ·rfl
            ·rfl
           refine hK.out _ _ ⟨(blk_cell (blk_alloc BK322.out _) 0).trans rfl,(blk_cell (blk_alloc BK322.out _) 1).trans rfl,(blk_cell (blk_alloc BK317.out _) 0).trans rfl,(blk_cell (blk_alloc BK317.out _) 1).trans rfl,(World.cell?_alloc_lt _ _ _ (World.block_lt_of_cell? _ _ (((HB.out.cell (World.block_lt_of_cell? w _ hw324_0)).trans hw324_0)))).trans (((HB.out.cell (World.block_lt_of_cell? w _ hw324_0)).trans hw324_0))⟩ (fun hHeld=>?_)
           clear hK K
           refine nz_ 53 ?_
           refine one_ (i:=11) (N:=some 54) #[ti,ti,ti,ti,ti,ti,ti,ti,ti,ti,ti,ti,fi,fi] rfl rfl (one_of HT_.out (by kernel_rfl)) (by decide) (fun K hK=>?_)
           refine Kd.R_append_step (Kd.int .i64) (w0:=w) w.heap.size (by rfl) (.tmp 44) (.tmp 53) 24 3 (.int .i64 0) 8 rfl Tryd.underlying24 info3 rfl (by decide) (by omega) u323001 x323001_2 t325 [.int .i64 t325] (fun _=>True) (fun _=>False) rfl rfl ?aP (fun _ hk=>hk.elim) ?aF ?aO ?aB ?aS ?aL ?_
           (case aP=>exact rfl)
           (case aB=>exact zhj_)
           (case aF=>exact zdc_)
           (case aO=>exact (zr HO_323001.out))
           (case aS=>exact (below_size zhj_))
           (case aL=>have:=LMc52.out;omega)
           intro v327 w54 ho hb hg hat
           rw [← Ny326.out] at ho;have n_:=z (blk_grown (g:=gb316) (o := .cells #[.int .i64 a1_0,.slice (some ad323) l1_1.length c1_1] 26 (0,0)) (zb BK316.out) hg (Kd.R_ne HO_323001.out BK316.out (by decide)))<|z (blk_grown (g:=gb317) (o := .cells #[.int .i64 a2_0,.slice (some ad324) l2_1.length c2_1] 26 (0,0)) (zb BK317.out) hg (Kd.R_ne HO_323001.out BK317.out (by decide)))<|z (blk_grown (g:=gb318) (o := .cells #[.int .i64 0,.slice none 0 0] 26 (0,0)) (zb BK318.out) hg (Kd.R_ne HO_323001.out BK318.out (by decide)))<|z (blk_grown (g:=gb322) (o := .cells #[.int .i64 a1_0,u323001] 26 (0,0)) (zb BK322.out) hg (Kd.R_ne HO_323001.out BK322.out (by decide)))<|z (hb)<|z1 (ho)
           clear BK316 BK317 BK318 BK322 HB HO_323001;obtain ⟨BK316,BK317,BK318,BK322,HB,HO328⟩:=n_;clear ho hb hg hat;obtain ⟨Ao55,co55,eo55⟩:=Kd.R_slice HO328.out;(first | subst eo55 | (injection eo55 with f1_ f2_ f3_;have f4_:=f1_.symm;have f5_:=f3_.symm;clear f1_ f2_ f3_;subst f4_;subst f5_))
           refine hK.out _ _ ⟨(blk_cell BK322.out 0).trans rfl,(blk_cell BK322.out 1).trans rfl,(blk_cell BK317.out 0).trans rfl,(blk_cell BK317.out 1).trans rfl,((HB.out.cell (World.block_lt_of_cell? w _ hw324_0)).trans hw324_0)⟩ (fun hHeld=>?_)
           clear hK K
           refine nz_ 54 ?_
           refine py_ 12 55 HT_.out ?_
           refine last_ (i:=13) (N:=none) #[ti,ti,ti,ti,ti,ti,ti,ti,ti,ti,ti,ti,ti,ti] rfl rfl (one_of HT_.out (by kernel_rfl)) (by decide) (fun K hK=>?_)
           have hs56:w54.cell? ⟨gb322,1,none⟩=some (u323001):=(blk_cell BK322.out 1).trans rfl;have hfs56:=blk_frozen BK322.out 1;have hns56_0:=NB316_322.out;have hns56_1:=NB317_322.out;have hns56_2:=NB318_322.out;have hms56_0:=NB322_316.out;have hms56_1:=NB322_317.out;have hms56_2:=NB322_318.out
           refine skip_ (w1:=?_) (by rfl) rfl ?_ ?_
           rotate_left
           ·go_simp
            rfl
           refine hK.out _ _ ?_
           clear hK K
           refine done_ (done_of HT_.out (by kernel_rfl)) ?_
           (try go_wp2)
           go_roundg k2
           case measure=>have:=HJ3.out;have:=HK2.out;omega
           case rel=>exact ⟨(wrap64 (x38_2+1)),(y326),(.slice Ao55 y326.length co55),zc_,H',⟨by have:=HJ3.out;have:=HK2.out;omega⟩,⟨by refine zr ?_;exact Kd.R_mono (Kd.R_far (p:=⟨gb322,1,none⟩) (Kd.R_types HO328.out BK322.out (by decide)) (fun _ hk=>hk.2) (.slice Ao55 y326.length co55)) (fun _ hk=>trivial)⟩,⟨by refine zb ?_;refine blk_far ?_ NB316_322.out _;refine zb ?_;exact BK316.out⟩,⟨by refine zb ?_;refine blk_far ?_ NB317_322.out _;refine zb ?_;exact BK317.out⟩,⟨by refine zb ?_;refine blk_far ?_ NB318_322.out _;refine zb ?_;exact BK318.out⟩,⟨by refine zb ?_;refine blk_put (cs:=#[.int .i64 a1_0,u323001]) ?_ 1 _ rfl;refine zb ?_;exact BK322.out⟩,⟨zhj_⟩⟩
          ·rw [if_neg c52] at H
           exact q3n_ H
         ·rw [if_neg c50] at H
          exact q3n_ H
        ·rw [if_neg c49] at H
         exact q3n_ H
       ·rw [if_neg c48] at H
        exact q3n_ H
      ·rw [if_neg c47] at H
       have c47b0:=decide_eq_false c47;clear c47
       simp only [Option.some.injEq,Prod.mk.injEq] at H
       obtain ⟨rfl,rfl,rfl⟩:=H;have hnb57:=NB322_316.out;have hnc57:=NB316_322.out;have hnb58:=NB322_317.out;have hnc58:=NB317_322.out;have hnb59:=NB322_318.out;have hnc59:=NB318_322.out;obtain ⟨hcz60_0,hcz60_1,hfz60_0,hfz60_1⟩:=zk2 BK322.out;have hnb61:=NB318_316.out;have hnc61:=NB316_318.out;have hnb62:=NB318_317.out;have hnc62:=NB317_318.out;obtain ⟨hcz63_0,hcz63_1,hfz63_0,hfz63_1⟩:=zk2 BK318.out;obtain ⟨Ao64,co64,eo64⟩:=Kd.R_slice HO_323001.out;subst eo64
       go_wp2
       refine bodyPost_ret (results_ct rfl _ _ gb318 26 #[.int .i64 a1_0,.slice Ao64 x323001_2.length co64] (0,0) _ rfl (by refine zb ?_;refine blk_put (cs:=#[.int .i64 a1_0,.slice none 0 0]) ?_ 1 _ rfl;refine zb ?_;refine blk_put (cs:=#[.int .i64 0,.slice none 0 0]) ?_ 0 _ rfl;refine zb ?_;exact BK318.out) Tryd.underlying26 rfl (by kernel_rfl)) rfl ?_
       exact ⟨_,zh_,by refine zr ?_;exact Kd.R_mono (Kd.R_far (p:=⟨gb318,1,none⟩) (Kd.R_far (p:=⟨gb318,0,none⟩) (Kd.R_types HO_323001.out BK318.out (by decide)) (fun _ hk=>hk.2) (.int .i64 a1_0)) (fun _ hk=>hk.2) (.slice Ao64 x323001_2.length co64)) (fun _ hk=>trivial),zhj_⟩
mutual
def spec_l1Cur_spoilt.l0:Nat→ByteArray→ByteArray→Int→List Int→Int→Int→Option (ByteArray×Int×Int)
 | 0,_,_,_,_,_,_=>none
 | k+1,x1,x2,x7,x1000,x1001,x1002=>if x7>0 then (spec_l1Cur_spoilt.j1 k x1 x2 x7 (decide ((x1.size:Int)>0)) x1000 x1001 x1002) else (spec_l1Cur_spoilt.j1 k x1 x2 x7 false x1000 x1001 x1002)
def spec_l1Cur_spoilt.j1:Nat→ByteArray→ByteArray→Int→Bool→List Int→Int→Int→Option (ByteArray×Int×Int)
 | 0,_,_,_,_,_,_,_=>none
 | k+1,x1,x2,x7,x19,x1000,x1001,x1002=>if x19=true then ((spec_l1Cur_pick.f x1000 x1001 x1002 (x1.size:Int)).bind fun bt332=>((spec_l1Cur_pick.f x1000 bt332.2.1 bt332.2.2 (x2.size:Int)).bind fun bt335=>(if 0≤bt335.1 then (if bt335.1<(x2.size:Int) then ((some (([bt x2 bt335.1]:List Int):List Int)).bind fun y338=>((spec_l1Cur_pick.f x1000 bt335.2.1 bt335.2.2 3).bind fun bt341=>(if bt341.1=0 then (if 0≤bt332.1 then (if bt332.1≤(x1.size:Int) then (if (x1.extract 0 (bt332.1:Int).toNat).size+(strOfNums y338).size≤9223372036854775807 then (if ((x1.extract 0 (bt332.1:Int).toNat)++(strOfNums y338)).size+(x1.extract (bt332.1:Int).toNat x1.size).size≤9223372036854775807 then (spec_l1Cur_spoilt.l0 k (((x1.extract 0 (bt332.1:Int).toNat)++(strOfNums y338))++(x1.extract (bt332.1:Int).toNat x1.size)) x2 (wrap64 (x7 - 1)) x1000 bt341.2.1 bt341.2.2) else (none)) else (none)) else (none)) else (none)) else (if bt341.1=1 then (if 0≤bt332.1 then (if bt332.1≤(x1.size:Int) then (if (x1.extract 0 (bt332.1:Int).toNat).size+(strOfNums y338).size≤9223372036854775807 then (if 0≤(wrap64 (bt332.1+1)) then (if (wrap64 (bt332.1+1))≤(x1.size:Int) then (if ((x1.extract 0 (bt332.1:Int).toNat)++(strOfNums y338)).size+(x1.extract ((wrap64 (bt332.1+1)):Int).toNat x1.size).size≤9223372036854775807 then (spec_l1Cur_spoilt.l0 k (((x1.extract 0 (bt332.1:Int).toNat)++(strOfNums y338))++(x1.extract ((wrap64 (bt332.1+1)):Int).toNat x1.size)) x2 (wrap64 (x7 - 1)) x1000 bt341.2.1 bt341.2.2) else (none)) else (none)) else (none)) else (none)) else (none)) else (none)) else (if 0≤bt332.1 then (if bt332.1≤(x1.size:Int) then (if 0≤(wrap64 (bt332.1+1)) then (if (wrap64 (bt332.1+1))≤(x1.size:Int) then (if (x1.extract 0 (bt332.1:Int).toNat).size+(x1.extract ((wrap64 (bt332.1+1)):Int).toNat x1.size).size≤9223372036854775807 then (spec_l1Cur_spoilt.l0 k ((x1.extract 0 (bt332.1:Int).toNat)++(x1.extract ((wrap64 (bt332.1+1)):Int).toNat x1.size)) x2 (wrap64 (x7 - 1)) x1000 bt341.2.1 bt341.2.2) else (none)) else (none)) else (none)) else (none)) else (none)))))) else (none)) else (none)))) else (some (x1,x1001,x1002))
end
def spec_l1Cur_spoilt.f (k:Nat) (s0_0:List Int) (s0_1:Int) (s0_2:Int) (a1:ByteArray) (a2:ByteArray):Option (ByteArray×Int×Int):=(spec_l1Cur_pick.f s0_0 s0_1 s0_2 2).bind fun bt329=>(spec_l1Cur_spoilt.l0 k a1 a2 (wrap64 (1+bt329.1)) s0_0 bt329.2.1 bt329.2.2)
theorem spec_l1Cur_spoilt.calls (k:Nat) (g:Nat) (s0_0:List Int) (s0_1:Int) (s0_2:Int) (a1:ByteArray) (a2:ByteArray) (r1:ByteArray) (r2:Int) (r3:Int) (w0 w:World) (hI:IsS66 w0 w g s0_0 s0_1 s0_2) (hB:Below w0.heap.size w0 w) (h:spec_l1Cur_spoilt.f k s0_0 s0_1 s0_2 a1 a2=some (r1,r2,r3)) :
  Calls Tryd.prog 79 #[.pointer (some ⟨g,0,none⟩),.string a1,.string a2] w fun e w'=>e = .returned (.string r1)∧IsS66 w0 w' g s0_0 r2 r3∧Below w0.heap.size w0 w'∧KeepBut w w' g none:=by
 have HI0:=aM hI
 have HK:=aM (KeepBut.refl w g none)
 have HL:=aM hB.size
 clear hI
 have HW0:=aM hB.size
 have HB:=aM hB
 clear hB
 have H:((spec_l1Cur_pick.f s0_0 s0_1 s0_2 2).bind fun bt329=>(spec_l1Cur_spoilt.l0 k a1 a2 (wrap64 (1+bt329.1)) s0_0 bt329.2.1 bt329.2.2))=some (r1,r2,r3):=h
 clear h
 replace H:=oB.mp H
 obtain ⟨⟨t329,t330,t331⟩,A40,H⟩:=H
 replace H:(spec_l1Cur_spoilt.l0 k a1 a2 (wrap64 (1+t329)) s0_0 t330 t331)=some (r1,r2,r3):=H
 have A4:=aM A40
 clear A40
 have H':=aM H
 clear H
 go_enter Tryd.func79,Tryd.ntmps79
 go_wp2_with (first | (go_at_call 59;(with_reducible refine (spec_l1Cur_pick.calls g s0_0 s0_1 s0_2 2 t329 t330 t331 w0 _ ?side1 ?side2 A4.out).mono ?_);(case side1=>exact zf_);(case side2=>exact zi_);rintro e w5 ⟨rfl,hi,hb,hk⟩;have n_:=z (KeepBut.trans zg_ hk (.inl rfl))<|z (hb)<|z1 (hi);clear HK HB HI0;obtain ⟨HK,HB,HI0⟩:=n_;clear hb hk hi))
 repeat (go_quiet (first | (go_at_call 59;(with_reducible refine (spec_l1Cur_pick.calls g s0_0 s0_1 s0_2 2 t329 t330 t331 w0 _ ?side1 ?side2 A4.out).mono ?_);(case side1=>exact zf_);(case side2=>exact zi_);rintro e w5 ⟨rfl,hi,hb,hk⟩;have n_:=z (KeepBut.trans zg_ hk (.inl rfl))<|z (hb)<|z1 (hi);clear HK HB HI0;obtain ⟨HK,HB,HI0⟩:=n_;clear hb hk hi));try go_wp2_with (first | (go_at_call 59;(with_reducible refine (spec_l1Cur_pick.calls g s0_0 s0_1 s0_2 2 t329 t330 t331 w0 _ ?side1 ?side2 A4.out).mono ?_);(case side1=>exact zf_);(case side2=>exact zi_);rintro e w5 ⟨rfl,hi,hb,hk⟩;have n_:=z (KeepBut.trans zg_ hk (.inl rfl))<|z (hb)<|z1 (hi);clear HK HB HI0;obtain ⟨HK,HB,HI0⟩:=n_;clear hb hk hi)))
 go_loopg [1,7] k (fun kq v1 v7 w' => ∃ (x1_1:ByteArray) (x7_1:Int) (x1001_1:Int) (x1002_1:Int),v1 = .string x1_1∧v7 = .int .i64 x7_1∧Aside0 (spec_l1Cur_spoilt.l0 kq x1_1 a2 x7_1 s0_0 x1001_1 x1002_1=some (r1,r2,r3))∧Aside0 (kq≤k)∧Aside0 (IsS66 w0 w' g s0_0 x1001_1 x1002_1)∧Aside0 (KeepBut w w' g none)∧Aside0 (Below w0.heap.size w0 w'))
 case atStart=>exact ⟨(a1),(wrap64 (1+t329)),(t330),(t331),zc_,zc_,H',⟨Nat.le_refl _⟩,⟨zf_⟩,⟨zg_⟩,⟨zi_⟩⟩
 case round =>
  clear H';obtain ⟨x1_1,x7_1,x1001_1,x1002_1,rfl,rfl,HA,HK1,HI0,HK,HB⟩:=hrel
  cases gk with
  | zero=>exact absurd HA.out (by simp [spec_l1Cur_spoilt.l0])
  | succ k1 =>
   have H:=HA.out;clear HA
   simp only [spec_l1Cur_spoilt.l0] at H
   have HC6:=aM H;clear H
   go_upto_region 2 with (fail)
   repeat (go_quiet (fail);go_upto_region 2 with (fail))
   go_cut [19] (fun v19 wc => ∃ (kq:Nat) (x19_5:Bool),v19 = .bool x19_5∧Aside0 (spec_l1Cur_spoilt.j1 kq x1_1 a2 x7_1 x19_5 s0_0 x1001_1 x1002_1=some (r1,r2,r3))∧Aside0 (kq≤k1)∧Aside0 (IsS66 w0 wc g s0_0 x1001_1 x1002_1)∧Aside0 (KeepBut w wc g none)∧Aside0 (Below w0.heap.size w0 wc))
   case first =>
    have H:=HC6.out;clear HC6
    by_cases c7:x7_1>0
    ·rw [if_pos c7] at H
     have c7b0:decide (0<x7_1)=true:=decide_eq_true c7;clear c7;(first | rw [c7b0]|(simp only [i64_w,i32_w];rw [c7b0]) | skip);have H':=aM H;clear H
     go_wp2
     repeat (go_quiet (fail);try go_wp2)
     go_meet
     case rel=>exact ⟨_,(decide ((x1_1.size:Int)>0)),zc_,H',⟨zba_⟩,⟨zf_⟩,⟨zg_⟩,⟨zi_⟩⟩
    ·rw [if_neg c7] at H
     have c7b0:decide (0<x7_1)=false:=decide_eq_false c7;clear c7;(first | rw [c7b0]|(simp only [i64_w,i32_w];rw [c7b0]) | skip);have H':=aM H;clear H
     go_wp2
     repeat (go_quiet (fail);try go_wp2)
     go_meet
     case rel=>exact ⟨_,(false),zc_,H',⟨zba_⟩,⟨zf_⟩,⟨zg_⟩,⟨zi_⟩⟩
   case rest =>
    clear HC6;obtain ⟨kq,x19_5,rfl,HA,HJ5,HI0,HK,HB⟩:=hcut
    cases kq with
    | zero=>exact absurd HA.out (by simp [spec_l1Cur_spoilt.j1])
    | succ kj5 =>
     have H:=HA.out;clear HA
     simp only [spec_l1Cur_spoilt.j1] at H
     by_cases c8:x19_5=true
     ·subst c8
      have H1:((spec_l1Cur_pick.f s0_0 x1001_1 x1002_1 (x1_1.size:Int)).bind fun bt332=>((spec_l1Cur_pick.f s0_0 bt332.2.1 bt332.2.2 (a2.size:Int)).bind fun bt335=>(if 0≤bt335.1 then (if bt335.1<(a2.size:Int) then ((some (([bt a2 bt335.1]:List Int):List Int)).bind fun y338=>((spec_l1Cur_pick.f s0_0 bt335.2.1 bt335.2.2 3).bind fun bt341=>(if bt341.1=0 then (if 0≤bt332.1 then (if bt332.1≤(x1_1.size:Int) then (if (x1_1.extract 0 (bt332.1:Int).toNat).size+(strOfNums y338).size≤9223372036854775807 then (if ((x1_1.extract 0 (bt332.1:Int).toNat)++(strOfNums y338)).size+(x1_1.extract (bt332.1:Int).toNat x1_1.size).size≤9223372036854775807 then (spec_l1Cur_spoilt.l0 kj5 (((x1_1.extract 0 (bt332.1:Int).toNat)++(strOfNums y338))++(x1_1.extract (bt332.1:Int).toNat x1_1.size)) a2 (wrap64 (x7_1 - 1)) s0_0 bt341.2.1 bt341.2.2) else (none)) else (none)) else (none)) else (none)) else (if bt341.1=1 then (if 0≤bt332.1 then (if bt332.1≤(x1_1.size:Int) then (if (x1_1.extract 0 (bt332.1:Int).toNat).size+(strOfNums y338).size≤9223372036854775807 then (if 0≤(wrap64 (bt332.1+1)) then (if (wrap64 (bt332.1+1))≤(x1_1.size:Int) then (if ((x1_1.extract 0 (bt332.1:Int).toNat)++(strOfNums y338)).size+(x1_1.extract ((wrap64 (bt332.1+1)):Int).toNat x1_1.size).size≤9223372036854775807 then (spec_l1Cur_spoilt.l0 kj5 (((x1_1.extract 0 (bt332.1:Int).toNat)++(strOfNums y338))++(x1_1.extract ((wrap64 (bt332.1+1)):Int).toNat x1_1.size)) a2 (wrap64 (x7_1 - 1)) s0_0 bt341.2.1 bt341.2.2) else (none)) else (none)) else (none)) else (none)) else (none)) else (none)) else (if 0≤bt332.1 then (if bt332.1≤(x1_1.size:Int) then (if 0≤(wrap64 (bt332.1+1)) then (if (wrap64 (bt332.1+1))≤(x1_1.size:Int) then (if (x1_1.extract 0 (bt332.1:Int).toNat).size+(x1_1.extract ((wrap64 (bt332.1+1)):Int).toNat x1_1.size).size≤9223372036854775807 then (spec_l1Cur_spoilt.l0 kj5 ((x1_1.extract 0 (bt332.1:Int).toNat)++(x1_1.extract ((wrap64 (bt332.1+1)):Int).toNat x1_1.size)) a2 (wrap64 (x7_1 - 1)) s0_0 bt341.2.1 bt341.2.2) else (none)) else (none)) else (none)) else (none)) else (none)))))) else (none)) else (none))))=some (r1,r2,r3):=by rw [if_pos rfl] at H;exact H
      clear H;have H:=H1;clear H1;replace H:=oB.mp H;obtain ⟨⟨t332,t333,t334⟩,A90,H⟩:=H;replace H:((spec_l1Cur_pick.f s0_0 t333 t334 (a2.size:Int)).bind fun bt335=>(if 0≤bt335.1 then (if bt335.1<(a2.size:Int) then ((some (([bt a2 bt335.1]:List Int):List Int)).bind fun y338=>((spec_l1Cur_pick.f s0_0 bt335.2.1 bt335.2.2 3).bind fun bt341=>(if bt341.1=0 then (if 0≤t332 then (if t332≤(x1_1.size:Int) then (if (x1_1.extract 0 (t332:Int).toNat).size+(strOfNums y338).size≤9223372036854775807 then (if ((x1_1.extract 0 (t332:Int).toNat)++(strOfNums y338)).size+(x1_1.extract (t332:Int).toNat x1_1.size).size≤9223372036854775807 then (spec_l1Cur_spoilt.l0 kj5 (((x1_1.extract 0 (t332:Int).toNat)++(strOfNums y338))++(x1_1.extract (t332:Int).toNat x1_1.size)) a2 (wrap64 (x7_1 - 1)) s0_0 bt341.2.1 bt341.2.2) else (none)) else (none)) else (none)) else (none)) else (if bt341.1=1 then (if 0≤t332 then (if t332≤(x1_1.size:Int) then (if (x1_1.extract 0 (t332:Int).toNat).size+(strOfNums y338).size≤9223372036854775807 then (if 0≤(wrap64 (t332+1)) then (if (wrap64 (t332+1))≤(x1_1.size:Int) then (if ((x1_1.extract 0 (t332:Int).toNat)++(strOfNums y338)).size+(x1_1.extract ((wrap64 (t332+1)):Int).toNat x1_1.size).size≤9223372036854775807 then (spec_l1Cur_spoilt.l0 kj5 (((x1_1.extract 0 (t332:Int).toNat)++(strOfNums y338))++(x1_1.extract ((wrap64 (t332+1)):Int).toNat x1_1.size)) a2 (wrap64 (x7_1 - 1)) s0_0 bt341.2.1 bt341.2.2) else (none)) else (none)) else (none)) else (none)) else (none)) else (none)) else (if 0≤t332 then (if t332≤(x1_1.size:Int) then (if 0≤(wrap64 (t332+1)) then (if (wrap64 (t332+1))≤(x1_1.size:Int) then (if (x1_1.extract 0 (t332:Int).toNat).size+(x1_1.extract ((wrap64 (t332+1)):Int).toNat x1_1.size).size≤9223372036854775807 then (spec_l1Cur_spoilt.l0 kj5 ((x1_1.extract 0 (t332:Int).toNat)++(x1_1.extract ((wrap64 (t332+1)):Int).toNat x1_1.size)) a2 (wrap64 (x7_1 - 1)) s0_0 bt341.2.1 bt341.2.2) else (none)) else (none)) else (none)) else (none)) else (none)))))) else (none)) else (none)))=some (r1,r2,r3):=H;have A9:=aM A90;clear A90;replace H:=oB.mp H;obtain ⟨⟨t335,t336,t337⟩,A100,H⟩:=H;replace H:(if 0≤t335 then (if t335<(a2.size:Int) then ((some (([bt a2 t335]:List Int):List Int)).bind fun y338=>((spec_l1Cur_pick.f s0_0 t336 t337 3).bind fun bt341=>(if bt341.1=0 then (if 0≤t332 then (if t332≤(x1_1.size:Int) then (if (x1_1.extract 0 (t332:Int).toNat).size+(strOfNums y338).size≤9223372036854775807 then (if ((x1_1.extract 0 (t332:Int).toNat)++(strOfNums y338)).size+(x1_1.extract (t332:Int).toNat x1_1.size).size≤9223372036854775807 then (spec_l1Cur_spoilt.l0 kj5 (((x1_1.extract 0 (t332:Int).toNat)++(strOfNums y338))++(x1_1.extract (t332:Int).toNat x1_1.size)) a2 (wrap64 (x7_1 - 1)) s0_0 bt341.2.1 bt341.2.2) else (none)) else (none)) else (none)) else (none)) else (if bt341.1=1 then (if 0≤t332 then (if t332≤(x1_1.size:Int) then (if (x1_1.extract 0 (t332:Int).toNat).size+(strOfNums y338).size≤9223372036854775807 then (if 0≤(wrap64 (t332+1)) then (if (wrap64 (t332+1))≤(x1_1.size:Int) then (if ((x1_1.extract 0 (t332:Int).toNat)++(strOfNums y338)).size+(x1_1.extract ((wrap64 (t332+1)):Int).toNat x1_1.size).size≤9223372036854775807 then (spec_l1Cur_spoilt.l0 kj5 (((x1_1.extract 0 (t332:Int).toNat)++(strOfNums y338))++(x1_1.extract ((wrap64 (t332+1)):Int).toNat x1_1.size)) a2 (wrap64 (x7_1 - 1)) s0_0 bt341.2.1 bt341.2.2) else (none)) else (none)) else (none)) else (none)) else (none)) else (none)) else (if 0≤t332 then (if t332≤(x1_1.size:Int) then (if 0≤(wrap64 (t332+1)) then (if (wrap64 (t332+1))≤(x1_1.size:Int) then (if (x1_1.extract 0 (t332:Int).toNat).size+(x1_1.extract ((wrap64 (t332+1)):Int).toNat x1_1.size).size≤9223372036854775807 then (spec_l1Cur_spoilt.l0 kj5 ((x1_1.extract 0 (t332:Int).toNat)++(x1_1.extract ((wrap64 (t332+1)):Int).toNat x1_1.size)) a2 (wrap64 (x7_1 - 1)) s0_0 bt341.2.1 bt341.2.2) else (none)) else (none)) else (none)) else (none)) else (none)))))) else (none)) else (none))=some (r1,r2,r3):=H;have A10:=aM A100;clear A100
      by_cases c11:0≤t335
      ·rw [if_pos c11] at H
       have c11b0:=decide_eq_true c11;clear c11
       by_cases c12:t335<(a2.size:Int)
       ·rw [if_pos c12] at H
        have c12b0:=decide_eq_true c12;clear c12;obtain ⟨y338,hy338⟩:∃ y_:List Int,y_=(([bt a2 t335]:List Int)):=⟨_,rfl⟩;replace H:((spec_l1Cur_pick.f s0_0 t336 t337 3).bind fun bt341=>(if bt341.1=0 then (if 0≤t332 then (if t332≤(x1_1.size:Int) then (if (x1_1.extract 0 (t332:Int).toNat).size+(strOfNums y338).size≤9223372036854775807 then (if ((x1_1.extract 0 (t332:Int).toNat)++(strOfNums y338)).size+(x1_1.extract (t332:Int).toNat x1_1.size).size≤9223372036854775807 then (spec_l1Cur_spoilt.l0 kj5 (((x1_1.extract 0 (t332:Int).toNat)++(strOfNums y338))++(x1_1.extract (t332:Int).toNat x1_1.size)) a2 (wrap64 (x7_1 - 1)) s0_0 bt341.2.1 bt341.2.2) else (none)) else (none)) else (none)) else (none)) else (if bt341.1=1 then (if 0≤t332 then (if t332≤(x1_1.size:Int) then (if (x1_1.extract 0 (t332:Int).toNat).size+(strOfNums y338).size≤9223372036854775807 then (if 0≤(wrap64 (t332+1)) then (if (wrap64 (t332+1))≤(x1_1.size:Int) then (if ((x1_1.extract 0 (t332:Int).toNat)++(strOfNums y338)).size+(x1_1.extract ((wrap64 (t332+1)):Int).toNat x1_1.size).size≤9223372036854775807 then (spec_l1Cur_spoilt.l0 kj5 (((x1_1.extract 0 (t332:Int).toNat)++(strOfNums y338))++(x1_1.extract ((wrap64 (t332+1)):Int).toNat x1_1.size)) a2 (wrap64 (x7_1 - 1)) s0_0 bt341.2.1 bt341.2.2) else (none)) else (none)) else (none)) else (none)) else (none)) else (none)) else (if 0≤t332 then (if t332≤(x1_1.size:Int) then (if 0≤(wrap64 (t332+1)) then (if (wrap64 (t332+1))≤(x1_1.size:Int) then (if (x1_1.extract 0 (t332:Int).toNat).size+(x1_1.extract ((wrap64 (t332+1)):Int).toNat x1_1.size).size≤9223372036854775807 then (spec_l1Cur_spoilt.l0 kj5 ((x1_1.extract 0 (t332:Int).toNat)++(x1_1.extract ((wrap64 (t332+1)):Int).toNat x1_1.size)) a2 (wrap64 (x7_1 - 1)) s0_0 bt341.2.1 bt341.2.2) else (none)) else (none)) else (none)) else (none)) else (none)))))=some (r1,r2,r3):=q3y_ hy338 H
        have Ny338:=aM hy338;clear hy338;replace H:=oB.mp H;obtain ⟨⟨t341,t342,t343⟩,A140,H⟩:=H;replace H:(if t341=0 then (if 0≤t332 then (if t332≤(x1_1.size:Int) then (if (x1_1.extract 0 (t332:Int).toNat).size+(strOfNums y338).size≤9223372036854775807 then (if ((x1_1.extract 0 (t332:Int).toNat)++(strOfNums y338)).size+(x1_1.extract (t332:Int).toNat x1_1.size).size≤9223372036854775807 then (spec_l1Cur_spoilt.l0 kj5 (((x1_1.extract 0 (t332:Int).toNat)++(strOfNums y338))++(x1_1.extract (t332:Int).toNat x1_1.size)) a2 (wrap64 (x7_1 - 1)) s0_0 t342 t343) else (none)) else (none)) else (none)) else (none)) else (if t341=1 then (if 0≤t332 then (if t332≤(x1_1.size:Int) then (if (x1_1.extract 0 (t332:Int).toNat).size+(strOfNums y338).size≤9223372036854775807 then (if 0≤(wrap64 (t332+1)) then (if (wrap64 (t332+1))≤(x1_1.size:Int) then (if ((x1_1.extract 0 (t332:Int).toNat)++(strOfNums y338)).size+(x1_1.extract ((wrap64 (t332+1)):Int).toNat x1_1.size).size≤9223372036854775807 then (spec_l1Cur_spoilt.l0 kj5 (((x1_1.extract 0 (t332:Int).toNat)++(strOfNums y338))++(x1_1.extract ((wrap64 (t332+1)):Int).toNat x1_1.size)) a2 (wrap64 (x7_1 - 1)) s0_0 t342 t343) else (none)) else (none)) else (none)) else (none)) else (none)) else (none)) else (if 0≤t332 then (if t332≤(x1_1.size:Int) then (if 0≤(wrap64 (t332+1)) then (if (wrap64 (t332+1))≤(x1_1.size:Int) then (if (x1_1.extract 0 (t332:Int).toNat).size+(x1_1.extract ((wrap64 (t332+1)):Int).toNat x1_1.size).size≤9223372036854775807 then (spec_l1Cur_spoilt.l0 kj5 ((x1_1.extract 0 (t332:Int).toNat)++(x1_1.extract ((wrap64 (t332+1)):Int).toNat x1_1.size)) a2 (wrap64 (x7_1 - 1)) s0_0 t342 t343) else (none)) else (none)) else (none)) else (none)) else (none))))=some (r1,r2,r3):=H;have A14:=aM A140;clear A140
        by_cases c15:t341=0
        ·rw [if_pos c15] at H
         have c15b0:=beq_iff_eq.mpr c15;have c15b1:=bne_eq_false_iff_eq.mpr c15;clear c15
         by_cases c16:0≤t332
         ·rw [if_pos c16] at H
          have c16b0:=eq_true c16;have c16b1:=decide_eq_true c16;clear c16
          by_cases c17:t332≤(x1_1.size:Int)
          ·rw [if_pos c17] at H
           have c17b0:=eq_true c17;have c17b1:=decide_eq_true c17;clear c17
           by_cases c18:(x1_1.extract 0 (t332:Int).toNat).size+(strOfNums y338).size≤9223372036854775807
           ·rw [if_pos c18] at H
            have c18b0:=eq_true c18;have c18b1:=decide_eq_true c18;(try have c18b2:(9223372036854775807<(x1_1.extract 0 (t332:Int).toNat).size+(strOfNums y338).size)=False:=eq_false (Nat.not_lt.2 c18));have c19b0:=eq_true (of_decide_eq_true zd_:0≤t332);have c20b0:=eq_true (of_decide_eq_true zd_:t332≤(x1_1.size:Int))
            by_cases c21:((x1_1.extract 0 (t332:Int).toNat)++(strOfNums y338)).size+(x1_1.extract (t332:Int).toNat x1_1.size).size≤9223372036854775807
            ·rw [if_pos c21] at H
             have c21b0:=eq_true c21;have c21b1:=decide_eq_true c21;(try have c21b3:((x1_1.extract 0 (t332:Int).toNat).size+(strOfNums y338).size+(x1_1.extract (t332:Int).toNat x1_1.size).size≤9223372036854775807)=True:=eq_true (by have h_:=c21;(repeat rw [ByteArray.size_append] at h_);exact h_));(try have c21b4:(9223372036854775807<(x1_1.extract 0 (t332:Int).toNat).size+(strOfNums y338).size+(x1_1.extract (t332:Int).toNat x1_1.size).size)=False:=eq_false (by have h_:=c21;(repeat rw [ByteArray.size_append] at h_);exact Nat.not_lt.2 h_));(try have c21b2:(9223372036854775807<((x1_1.extract 0 (t332:Int).toNat)++(strOfNums y338)).size+(x1_1.extract (t332:Int).toNat x1_1.size).size)=False:=eq_false (Nat.not_lt.2 c21));have H':=aM H;clear H
             go_wp2_with (first | (go_at_call 59;(with_reducible refine (spec_l1Cur_pick.calls g s0_0 x1001_1 x1002_1 (x1_1.size:Int) t332 t333 t334 w0 _ ?side1 ?side2 A9.out).mono ?_);(case side1=>exact zf_);(case side2=>exact zi_);rintro e w22 ⟨rfl,hi,hb,hk⟩;have n_:=z (KeepBut.trans zg_ hk (.inl rfl))<|z (hb)<|z1 (hi);clear HK HB HI0;obtain ⟨HK,HB,HI0⟩:=n_;clear hb hk hi)|(go_at_call 59;(with_reducible refine (spec_l1Cur_pick.calls g s0_0 t333 t334 (a2.size:Int) t335 t336 t337 w0 _ ?side1 ?side2 A10.out).mono ?_);(case side1=>exact zf_);(case side2=>exact zi_);rintro e w23 ⟨rfl,hi,hb,hk⟩;have n_:=z (KeepBut.trans zg_ hk (.inl rfl))<|z (hb)<|z1 (hi);clear HK HB HI0;obtain ⟨HK,HB,HI0⟩:=n_;clear hb hk hi;have p13:0≤(t335:Int):=of_decide_eq_true zd_;have q13:t335<(a2.size:Int):=of_decide_eq_true zd_;have hx13:=bt_at a2 t335;replace p13:=eq_true p13;replace q13:=eq_true q13)|((with_reducible refine gate_dst (N:=32) rfl ?_);(try (refine gate_guard (by rfl) ?_;dsimp only));refine Kd.R_lit (Kd.int .u8) _ 5 ?hg (N:=32) ?hd (xs:=([bt a2 t335]:List Int)) (inner:=[.int .u8 (bt a2 t335)]) (ok:=fun _=>True) (okp:=fun _=>True) ?hr ?hp (fun _ hk=>hk) trivial (Below.refl _ _) (Nat.le_refl _) (by simp) ?_;(case hd=>rfl);(case hg=>rfl);(case hr=>exact zb_);(case hp=>exact zec_);intro v339 w24 ho25 hb hg_ hnew_;clear hg_ hnew_;(first | rw [← Ny338.out] at ho25 | (simp only [Int.reduceToNat] at ho25;rw [← Ny338.out] at ho25));have n_:=z (Kd.R_lower ho25 (keep_size (w:=w) (g:=g) (row:=none) zg_))<|z (IsS66.below zf_ hb)<|z (KeepBut.trans zg_ (KeepBut.of_below hb g none) (.inl rfl))<|z1 (below_step zi_ hb);clear HI0 HK HB;obtain ⟨HO340,HI0,HK,HB⟩:=n_;clear hb ho25;have hcv26:=own_string (P:=Tryd.prog) Tryd.underlying22 Tryd.underlying5 Tryd.underlying9 (Kd.own_of_R HO340.out))|(go_at_call 59;(with_reducible refine (spec_l1Cur_pick.calls g s0_0 t336 t337 3 t341 t342 t343 w0 _ ?side1 ?side2 A14.out).mono ?_);(case side1=>exact zf_);(case side2=>exact zi_);rintro e w27 ⟨rfl,hi,hb,hk⟩;have n_:=z (Kd.R_mono (Kd.R_keep (IsS66.apart (show IsS66 w0 _ g s0_0 t336 t337 from zf_) (zr HO340.out) (by decide)) hk (fun _ h=>h.2)) (fun _ h=>h.1))<|z (KeepBut.trans zg_ hk (.inl rfl))<|z (hb)<|z1 (hi);clear HO340 HK HB HI0;obtain ⟨HO340,HK,HB,HI0⟩:=n_;clear hb hk hi))
             repeat (go_quiet (first | (go_at_call 59;(with_reducible refine (spec_l1Cur_pick.calls g s0_0 x1001_1 x1002_1 (x1_1.size:Int) t332 t333 t334 w0 _ ?side1 ?side2 A9.out).mono ?_);(case side1=>exact zf_);(case side2=>exact zi_);rintro e w22 ⟨rfl,hi,hb,hk⟩;have n_:=z (KeepBut.trans zg_ hk (.inl rfl))<|z (hb)<|z1 (hi);clear HK HB HI0;obtain ⟨HK,HB,HI0⟩:=n_;clear hb hk hi)|(go_at_call 59;(with_reducible refine (spec_l1Cur_pick.calls g s0_0 t333 t334 (a2.size:Int) t335 t336 t337 w0 _ ?side1 ?side2 A10.out).mono ?_);(case side1=>exact zf_);(case side2=>exact zi_);rintro e w23 ⟨rfl,hi,hb,hk⟩;have n_:=z (KeepBut.trans zg_ hk (.inl rfl))<|z (hb)<|z1 (hi);clear HK HB HI0;obtain ⟨HK,HB,HI0⟩:=n_;clear hb hk hi;have p13:0≤(t335:Int):=of_decide_eq_true zd_;have q13:t335<(a2.size:Int):=of_decide_eq_true zd_;have hx13:=bt_at a2 t335;replace p13:=eq_true p13;replace q13:=eq_true q13)|((with_reducible refine gate_dst (N:=32) rfl ?_);(try (refine gate_guard (by rfl) ?_;dsimp only));refine Kd.R_lit (Kd.int .u8) _ 5 ?hg (N:=32) ?hd (xs:=([bt a2 t335]:List Int)) (inner:=[.int .u8 (bt a2 t335)]) (ok:=fun _=>True) (okp:=fun _=>True) ?hr ?hp (fun _ hk=>hk) trivial (Below.refl _ _) (Nat.le_refl _) (by simp) ?_;(case hd=>rfl);(case hg=>rfl);(case hr=>exact zb_);(case hp=>exact zec_);intro v339 w24 ho25 hb hg_ hnew_;clear hg_ hnew_;(first | rw [← Ny338.out] at ho25 | (simp only [Int.reduceToNat] at ho25;rw [← Ny338.out] at ho25));have n_:=z (Kd.R_lower ho25 (keep_size (w:=w) (g:=g) (row:=none) zg_))<|z (IsS66.below zf_ hb)<|z (KeepBut.trans zg_ (KeepBut.of_below hb g none) (.inl rfl))<|z1 (below_step zi_ hb);clear HI0 HK HB;obtain ⟨HO340,HI0,HK,HB⟩:=n_;clear hb ho25;have hcv26:=own_string (P:=Tryd.prog) Tryd.underlying22 Tryd.underlying5 Tryd.underlying9 (Kd.own_of_R HO340.out))|(go_at_call 59;(with_reducible refine (spec_l1Cur_pick.calls g s0_0 t336 t337 3 t341 t342 t343 w0 _ ?side1 ?side2 A14.out).mono ?_);(case side1=>exact zf_);(case side2=>exact zi_);rintro e w27 ⟨rfl,hi,hb,hk⟩;have n_:=z (Kd.R_mono (Kd.R_keep (IsS66.apart (show IsS66 w0 _ g s0_0 t336 t337 from zf_) (zr HO340.out) (by decide)) hk (fun _ h=>h.2)) (fun _ h=>h.1))<|z (KeepBut.trans zg_ hk (.inl rfl))<|z (hb)<|z1 (hi);clear HO340 HK HB HI0;obtain ⟨HO340,HK,HB,HI0⟩:=n_;clear hb hk hi));try go_wp2_with (first | (go_at_call 59;(with_reducible refine (spec_l1Cur_pick.calls g s0_0 x1001_1 x1002_1 (x1_1.size:Int) t332 t333 t334 w0 _ ?side1 ?side2 A9.out).mono ?_);(case side1=>exact zf_);(case side2=>exact zi_);rintro e w22 ⟨rfl,hi,hb,hk⟩;have n_:=z (KeepBut.trans zg_ hk (.inl rfl))<|z (hb)<|z1 (hi);clear HK HB HI0;obtain ⟨HK,HB,HI0⟩:=n_;clear hb hk hi)|(go_at_call 59;(with_reducible refine (spec_l1Cur_pick.calls g s0_0 t333 t334 (a2.size:Int) t335 t336 t337 w0 _ ?side1 ?side2 A10.out).mono ?_);(case side1=>exact zf_);(case side2=>exact zi_);rintro e w23 ⟨rfl,hi,hb,hk⟩;have n_:=z (KeepBut.trans zg_ hk (.inl rfl))<|z (hb)<|z1 (hi);clear HK HB HI0;obtain ⟨HK,HB,HI0⟩:=n_;clear hb hk hi;have p13:0≤(t335:Int):=of_decide_eq_true zd_;have q13:t335<(a2.size:Int):=of_decide_eq_true zd_;have hx13:=bt_at a2 t335;replace p13:=eq_true p13;replace q13:=eq_true q13)|((with_reducible refine gate_dst (N:=32) rfl ?_);(try (refine gate_guard (by rfl) ?_;dsimp only));refine Kd.R_lit (Kd.int .u8) _ 5 ?hg (N:=32) ?hd (xs:=([bt a2 t335]:List Int)) (inner:=[.int .u8 (bt a2 t335)]) (ok:=fun _=>True) (okp:=fun _=>True) ?hr ?hp (fun _ hk=>hk) trivial (Below.refl _ _) (Nat.le_refl _) (by simp) ?_;(case hd=>rfl);(case hg=>rfl);(case hr=>exact zb_);(case hp=>exact zec_);intro v339 w24 ho25 hb hg_ hnew_;clear hg_ hnew_;(first | rw [← Ny338.out] at ho25 | (simp only [Int.reduceToNat] at ho25;rw [← Ny338.out] at ho25));have n_:=z (Kd.R_lower ho25 (keep_size (w:=w) (g:=g) (row:=none) zg_))<|z (IsS66.below zf_ hb)<|z (KeepBut.trans zg_ (KeepBut.of_below hb g none) (.inl rfl))<|z1 (below_step zi_ hb);clear HI0 HK HB;obtain ⟨HO340,HI0,HK,HB⟩:=n_;clear hb ho25;have hcv26:=own_string (P:=Tryd.prog) Tryd.underlying22 Tryd.underlying5 Tryd.underlying9 (Kd.own_of_R HO340.out))|(go_at_call 59;(with_reducible refine (spec_l1Cur_pick.calls g s0_0 t336 t337 3 t341 t342 t343 w0 _ ?side1 ?side2 A14.out).mono ?_);(case side1=>exact zf_);(case side2=>exact zi_);rintro e w27 ⟨rfl,hi,hb,hk⟩;have n_:=z (Kd.R_mono (Kd.R_keep (IsS66.apart (show IsS66 w0 _ g s0_0 t336 t337 from zf_) (zr HO340.out) (by decide)) hk (fun _ h=>h.2)) (fun _ h=>h.1))<|z (KeepBut.trans zg_ hk (.inl rfl))<|z (hb)<|z1 (hi);clear HO340 HK HB HI0;obtain ⟨HO340,HK,HB,HI0⟩:=n_;clear hb hk hi)))
             go_roundg kj5
             case measure=>have:=HK1.out;have:=HJ5.out;omega
             case rel=>exact ⟨(((x1_1.extract 0 (t332:Int).toNat)++(strOfNums y338))++(x1_1.extract (t332:Int).toNat x1_1.size)),(wrap64 (x7_1 - 1)),(t342),(t343),zc_,zc_,H',⟨by have:=HK1.out;have:=HJ5.out;omega⟩,⟨zf_⟩,⟨zg_⟩,⟨zi_⟩⟩
            ·rw [if_neg c21] at H
             exact q3n_ H
           ·rw [if_neg c18] at H
            exact q3n_ H
          ·rw [if_neg c17] at H
           exact q3n_ H
         ·rw [if_neg c16] at H
          exact q3n_ H
        ·rw [if_neg c15] at H
         have c15b0:=beq_eq_false_iff_ne.mpr c15;have c15b1:=bne_iff_ne.mpr c15
         by_cases c28:t341=1
         ·rw [if_pos c28] at H
          have c28b0:=beq_iff_eq.mpr c28;have c28b1:=bne_eq_false_iff_eq.mpr c28;clear c28
          by_cases c29:0≤t332
          ·rw [if_pos c29] at H
           have c29b0:=eq_true c29;have c29b1:=decide_eq_true c29;clear c29
           by_cases c30:t332≤(x1_1.size:Int)
           ·rw [if_pos c30] at H
            have c30b0:=eq_true c30;have c30b1:=decide_eq_true c30;clear c30
            by_cases c31:(x1_1.extract 0 (t332:Int).toNat).size+(strOfNums y338).size≤9223372036854775807
            ·rw [if_pos c31] at H
             have c31b0:=eq_true c31;have c31b1:=decide_eq_true c31;(try have c31b2:(9223372036854775807<(x1_1.extract 0 (t332:Int).toNat).size+(strOfNums y338).size)=False:=eq_false (Nat.not_lt.2 c31));obtain ⟨ji32,hji32⟩:∃ j_:Int,(wrap64 (t332+1))=j_:=⟨_,rfl⟩;replace H:(if 0≤(ji32) then (if (ji32)≤(x1_1.size:Int) then (if ((x1_1.extract 0 (t332:Int).toNat)++(strOfNums y338)).size+(x1_1.extract ((ji32):Int).toNat x1_1.size).size≤9223372036854775807 then (spec_l1Cur_spoilt.l0 kj5 (((x1_1.extract 0 (t332:Int).toNat)++(strOfNums y338))++(x1_1.extract ((ji32):Int).toNat x1_1.size)) a2 (wrap64 (x7_1 - 1)) s0_0 t342 t343) else (none)) else (none)) else (none))=some (r1,r2,r3):=by first | (rw [hji32] at H;exact H)|(simp only [hji32] at H ⊢;exact H)
             (try rw [hji32] at A9);(try rw [hji32] at A10);(try rw [hji32] at A14);have hji32w:(IntKind.i64.wrap (t332+1))=ji32:=(i64_w _).trans hji32
             by_cases c33:0≤(ji32)
             ·rw [if_pos c33] at H
              have c33b0:=eq_true c33;have c33b1:=decide_eq_true c33;clear c33
              by_cases c34:(ji32)≤(x1_1.size:Int)
              ·rw [if_pos c34] at H
               have c34b0:=eq_true c34;have c34b1:=decide_eq_true c34;clear c34
               by_cases c35:((x1_1.extract 0 (t332:Int).toNat)++(strOfNums y338)).size+(x1_1.extract ((ji32):Int).toNat x1_1.size).size≤9223372036854775807
               ·rw [if_pos c35] at H
                have c35b0:=eq_true c35;have c35b1:=decide_eq_true c35;(try have c35b3:((x1_1.extract 0 (t332:Int).toNat).size+(strOfNums y338).size+(x1_1.extract ((ji32):Int).toNat x1_1.size).size≤9223372036854775807)=True:=eq_true (by have h_:=c35;(repeat rw [ByteArray.size_append] at h_);exact h_));(try have c35b4:(9223372036854775807<(x1_1.extract 0 (t332:Int).toNat).size+(strOfNums y338).size+(x1_1.extract ((ji32):Int).toNat x1_1.size).size)=False:=eq_false (by have h_:=c35;(repeat rw [ByteArray.size_append] at h_);exact Nat.not_lt.2 h_));(try have c35b2:(9223372036854775807<((x1_1.extract 0 (t332:Int).toNat)++(strOfNums y338)).size+(x1_1.extract ((ji32):Int).toNat x1_1.size).size)=False:=eq_false (Nat.not_lt.2 c35));have H':=aM H;clear H
                go_wp2_with (first | (go_at_call 59;(with_reducible refine (spec_l1Cur_pick.calls g s0_0 x1001_1 x1002_1 (x1_1.size:Int) t332 t333 t334 w0 _ ?side1 ?side2 A9.out).mono ?_);(case side1=>exact zf_);(case side2=>exact zi_);rintro e w36 ⟨rfl,hi,hb,hk⟩;have n_:=z (KeepBut.trans zg_ hk (.inl rfl))<|z (hb)<|z1 (hi);clear HK HB HI0;obtain ⟨HK,HB,HI0⟩:=n_;clear hb hk hi)|(go_at_call 59;(with_reducible refine (spec_l1Cur_pick.calls g s0_0 t333 t334 (a2.size:Int) t335 t336 t337 w0 _ ?side1 ?side2 A10.out).mono ?_);(case side1=>exact zf_);(case side2=>exact zi_);rintro e w37 ⟨rfl,hi,hb,hk⟩;have n_:=z (KeepBut.trans zg_ hk (.inl rfl))<|z (hb)<|z1 (hi);clear HK HB HI0;obtain ⟨HK,HB,HI0⟩:=n_;clear hb hk hi;have p13:0≤(t335:Int):=of_decide_eq_true zd_;have q13:t335<(a2.size:Int):=of_decide_eq_true zd_;have hx13:=bt_at a2 t335;replace p13:=eq_true p13;replace q13:=eq_true q13)|((with_reducible refine gate_dst (N:=32) rfl ?_);(try (refine gate_guard (by rfl) ?_;dsimp only));refine Kd.R_lit (Kd.int .u8) _ 5 ?hg (N:=32) ?hd (xs:=([bt a2 t335]:List Int)) (inner:=[.int .u8 (bt a2 t335)]) (ok:=fun _=>True) (okp:=fun _=>True) ?hr ?hp (fun _ hk=>hk) trivial (Below.refl _ _) (Nat.le_refl _) (by simp) ?_;(case hd=>rfl);(case hg=>rfl);(case hr=>exact zb_);(case hp=>exact zec_);intro v339 w38 ho39 hb hg_ hnew_;clear hg_ hnew_;(first | rw [← Ny338.out] at ho39 | (simp only [Int.reduceToNat] at ho39;rw [← Ny338.out] at ho39));have n_:=z (Kd.R_lower ho39 (keep_size (w:=w) (g:=g) (row:=none) zg_))<|z (IsS66.below zf_ hb)<|z (KeepBut.trans zg_ (KeepBut.of_below hb g none) (.inl rfl))<|z1 (below_step zi_ hb);clear HI0 HK HB;obtain ⟨HO340,HI0,HK,HB⟩:=n_;clear hb ho39;have hcv40:=own_string (P:=Tryd.prog) Tryd.underlying22 Tryd.underlying5 Tryd.underlying9 (Kd.own_of_R HO340.out))|(go_at_call 59;(with_reducible refine (spec_l1Cur_pick.calls g s0_0 t336 t337 3 t341 t342 t343 w0 _ ?side1 ?side2 A14.out).mono ?_);(case side1=>exact zf_);(case side2=>exact zi_);rintro e w41 ⟨rfl,hi,hb,hk⟩;have n_:=z (Kd.R_mono (Kd.R_keep (IsS66.apart (show IsS66 w0 _ g s0_0 t336 t337 from zf_) (zr HO340.out) (by decide)) hk (fun _ h=>h.2)) (fun _ h=>h.1))<|z (KeepBut.trans zg_ hk (.inl rfl))<|z (hb)<|z1 (hi);clear HO340 HK HB HI0;obtain ⟨HO340,HK,HB,HI0⟩:=n_;clear hb hk hi))
                repeat (go_quiet (first | (go_at_call 59;(with_reducible refine (spec_l1Cur_pick.calls g s0_0 x1001_1 x1002_1 (x1_1.size:Int) t332 t333 t334 w0 _ ?side1 ?side2 A9.out).mono ?_);(case side1=>exact zf_);(case side2=>exact zi_);rintro e w36 ⟨rfl,hi,hb,hk⟩;have n_:=z (KeepBut.trans zg_ hk (.inl rfl))<|z (hb)<|z1 (hi);clear HK HB HI0;obtain ⟨HK,HB,HI0⟩:=n_;clear hb hk hi)|(go_at_call 59;(with_reducible refine (spec_l1Cur_pick.calls g s0_0 t333 t334 (a2.size:Int) t335 t336 t337 w0 _ ?side1 ?side2 A10.out).mono ?_);(case side1=>exact zf_);(case side2=>exact zi_);rintro e w37 ⟨rfl,hi,hb,hk⟩;have n_:=z (KeepBut.trans zg_ hk (.inl rfl))<|z (hb)<|z1 (hi);clear HK HB HI0;obtain ⟨HK,HB,HI0⟩:=n_;clear hb hk hi;have p13:0≤(t335:Int):=of_decide_eq_true zd_;have q13:t335<(a2.size:Int):=of_decide_eq_true zd_;have hx13:=bt_at a2 t335;replace p13:=eq_true p13;replace q13:=eq_true q13)|((with_reducible refine gate_dst (N:=32) rfl ?_);(try (refine gate_guard (by rfl) ?_;dsimp only));refine Kd.R_lit (Kd.int .u8) _ 5 ?hg (N:=32) ?hd (xs:=([bt a2 t335]:List Int)) (inner:=[.int .u8 (bt a2 t335)]) (ok:=fun _=>True) (okp:=fun _=>True) ?hr ?hp (fun _ hk=>hk) trivial (Below.refl _ _) (Nat.le_refl _) (by simp) ?_;(case hd=>rfl);(case hg=>rfl);(case hr=>exact zb_);(case hp=>exact zec_);intro v339 w38 ho39 hb hg_ hnew_;clear hg_ hnew_;(first | rw [← Ny338.out] at ho39 | (simp only [Int.reduceToNat] at ho39;rw [← Ny338.out] at ho39));have n_:=z (Kd.R_lower ho39 (keep_size (w:=w) (g:=g) (row:=none) zg_))<|z (IsS66.below zf_ hb)<|z (KeepBut.trans zg_ (KeepBut.of_below hb g none) (.inl rfl))<|z1 (below_step zi_ hb);clear HI0 HK HB;obtain ⟨HO340,HI0,HK,HB⟩:=n_;clear hb ho39;have hcv40:=own_string (P:=Tryd.prog) Tryd.underlying22 Tryd.underlying5 Tryd.underlying9 (Kd.own_of_R HO340.out))|(go_at_call 59;(with_reducible refine (spec_l1Cur_pick.calls g s0_0 t336 t337 3 t341 t342 t343 w0 _ ?side1 ?side2 A14.out).mono ?_);(case side1=>exact zf_);(case side2=>exact zi_);rintro e w41 ⟨rfl,hi,hb,hk⟩;have n_:=z (Kd.R_mono (Kd.R_keep (IsS66.apart (show IsS66 w0 _ g s0_0 t336 t337 from zf_) (zr HO340.out) (by decide)) hk (fun _ h=>h.2)) (fun _ h=>h.1))<|z (KeepBut.trans zg_ hk (.inl rfl))<|z (hb)<|z1 (hi);clear HO340 HK HB HI0;obtain ⟨HO340,HK,HB,HI0⟩:=n_;clear hb hk hi));try go_wp2_with (first | (go_at_call 59;(with_reducible refine (spec_l1Cur_pick.calls g s0_0 x1001_1 x1002_1 (x1_1.size:Int) t332 t333 t334 w0 _ ?side1 ?side2 A9.out).mono ?_);(case side1=>exact zf_);(case side2=>exact zi_);rintro e w36 ⟨rfl,hi,hb,hk⟩;have n_:=z (KeepBut.trans zg_ hk (.inl rfl))<|z (hb)<|z1 (hi);clear HK HB HI0;obtain ⟨HK,HB,HI0⟩:=n_;clear hb hk hi)|(go_at_call 59;(with_reducible refine (spec_l1Cur_pick.calls g s0_0 t333 t334 (a2.size:Int) t335 t336 t337 w0 _ ?side1 ?side2 A10.out).mono ?_);(case side1=>exact zf_);(case side2=>exact zi_);rintro e w37 ⟨rfl,hi,hb,hk⟩;have n_:=z (KeepBut.trans zg_ hk (.inl rfl))<|z (hb)<|z1 (hi);clear HK HB HI0;obtain ⟨HK,HB,HI0⟩:=n_;clear hb hk hi;have p13:0≤(t335:Int):=of_decide_eq_true zd_;have q13:t335<(a2.size:Int):=of_decide_eq_true zd_;have hx13:=bt_at a2 t335;replace p13:=eq_true p13;replace q13:=eq_true q13)|((with_reducible refine gate_dst (N:=32) rfl ?_);(try (refine gate_guard (by rfl) ?_;dsimp only));refine Kd.R_lit (Kd.int .u8) _ 5 ?hg (N:=32) ?hd (xs:=([bt a2 t335]:List Int)) (inner:=[.int .u8 (bt a2 t335)]) (ok:=fun _=>True) (okp:=fun _=>True) ?hr ?hp (fun _ hk=>hk) trivial (Below.refl _ _) (Nat.le_refl _) (by simp) ?_;(case hd=>rfl);(case hg=>rfl);(case hr=>exact zb_);(case hp=>exact zec_);intro v339 w38 ho39 hb hg_ hnew_;clear hg_ hnew_;(first | rw [← Ny338.out] at ho39 | (simp only [Int.reduceToNat] at ho39;rw [← Ny338.out] at ho39));have n_:=z (Kd.R_lower ho39 (keep_size (w:=w) (g:=g) (row:=none) zg_))<|z (IsS66.below zf_ hb)<|z (KeepBut.trans zg_ (KeepBut.of_below hb g none) (.inl rfl))<|z1 (below_step zi_ hb);clear HI0 HK HB;obtain ⟨HO340,HI0,HK,HB⟩:=n_;clear hb ho39;have hcv40:=own_string (P:=Tryd.prog) Tryd.underlying22 Tryd.underlying5 Tryd.underlying9 (Kd.own_of_R HO340.out))|(go_at_call 59;(with_reducible refine (spec_l1Cur_pick.calls g s0_0 t336 t337 3 t341 t342 t343 w0 _ ?side1 ?side2 A14.out).mono ?_);(case side1=>exact zf_);(case side2=>exact zi_);rintro e w41 ⟨rfl,hi,hb,hk⟩;have n_:=z (Kd.R_mono (Kd.R_keep (IsS66.apart (show IsS66 w0 _ g s0_0 t336 t337 from zf_) (zr HO340.out) (by decide)) hk (fun _ h=>h.2)) (fun _ h=>h.1))<|z (KeepBut.trans zg_ hk (.inl rfl))<|z (hb)<|z1 (hi);clear HO340 HK HB HI0;obtain ⟨HO340,HK,HB,HI0⟩:=n_;clear hb hk hi)))
                go_roundg kj5
                case measure=>have:=HK1.out;have:=HJ5.out;omega
                case rel=>exact ⟨(((x1_1.extract 0 (t332:Int).toNat)++(strOfNums y338))++(x1_1.extract ((ji32):Int).toNat x1_1.size)),(wrap64 (x7_1 - 1)),(t342),(t343),(by first | rfl | (simp;done)|(simp only [← hji32] <;> (first | rfl | simp))|(simp [*];done)),zc_,H',⟨by have:=HK1.out;have:=HJ5.out;omega⟩,⟨zf_⟩,⟨zg_⟩,⟨zi_⟩⟩
               ·rw [if_neg c35] at H
                exact q3n_ H
              ·rw [if_neg c34] at H
               exact q3n_ H
             ·rw [if_neg c33] at H
              exact q3n_ H
            ·rw [if_neg c31] at H
             exact q3n_ H
           ·rw [if_neg c30] at H
            exact q3n_ H
          ·rw [if_neg c29] at H
           exact q3n_ H
         ·rw [if_neg c28] at H
          have c28b0:=beq_eq_false_iff_ne.mpr c28;have c28b1:=bne_iff_ne.mpr c28
          by_cases c42:0≤t332
          ·rw [if_pos c42] at H
           have c42b0:=eq_true c42;have c42b1:=decide_eq_true c42;clear c42
           by_cases c43:t332≤(x1_1.size:Int)
           ·rw [if_pos c43] at H
            have c43b0:=eq_true c43;have c43b1:=decide_eq_true c43;clear c43;obtain ⟨ji44,hji44⟩:∃ j_:Int,(wrap64 (t332+1))=j_:=⟨_,rfl⟩;replace H:(if 0≤(ji44) then (if (ji44)≤(x1_1.size:Int) then (if (x1_1.extract 0 (t332:Int).toNat).size+(x1_1.extract ((ji44):Int).toNat x1_1.size).size≤9223372036854775807 then (spec_l1Cur_spoilt.l0 kj5 ((x1_1.extract 0 (t332:Int).toNat)++(x1_1.extract ((ji44):Int).toNat x1_1.size)) a2 (wrap64 (x7_1 - 1)) s0_0 t342 t343) else (none)) else (none)) else (none))=some (r1,r2,r3):=by first | (rw [hji44] at H;exact H)|(simp only [hji44] at H ⊢;exact H)
            (try rw [hji44] at A9);(try rw [hji44] at A10);(try rw [hji44] at A14);have hji44w:(IntKind.i64.wrap (t332+1))=ji44:=(i64_w _).trans hji44
            by_cases c45:0≤(ji44)
            ·rw [if_pos c45] at H
             have c45b0:=eq_true c45;have c45b1:=decide_eq_true c45;clear c45
             by_cases c46:(ji44)≤(x1_1.size:Int)
             ·rw [if_pos c46] at H
              have c46b0:=eq_true c46;have c46b1:=decide_eq_true c46;clear c46
              by_cases c47:(x1_1.extract 0 (t332:Int).toNat).size+(x1_1.extract ((ji44):Int).toNat x1_1.size).size≤9223372036854775807
              ·rw [if_pos c47] at H
               have c47b0:=eq_true c47;have c47b1:=decide_eq_true c47;(try have c47b2:(9223372036854775807<(x1_1.extract 0 (t332:Int).toNat).size+(x1_1.extract ((ji44):Int).toNat x1_1.size).size)=False:=eq_false (Nat.not_lt.2 c47));have H':=aM H;clear H
               go_wp2_with (first | (go_at_call 59;(with_reducible refine (spec_l1Cur_pick.calls g s0_0 x1001_1 x1002_1 (x1_1.size:Int) t332 t333 t334 w0 _ ?side1 ?side2 A9.out).mono ?_);(case side1=>exact zf_);(case side2=>exact zi_);rintro e w48 ⟨rfl,hi,hb,hk⟩;have n_:=z (KeepBut.trans zg_ hk (.inl rfl))<|z (hb)<|z1 (hi);clear HK HB HI0;obtain ⟨HK,HB,HI0⟩:=n_;clear hb hk hi)|(go_at_call 59;(with_reducible refine (spec_l1Cur_pick.calls g s0_0 t333 t334 (a2.size:Int) t335 t336 t337 w0 _ ?side1 ?side2 A10.out).mono ?_);(case side1=>exact zf_);(case side2=>exact zi_);rintro e w49 ⟨rfl,hi,hb,hk⟩;have n_:=z (KeepBut.trans zg_ hk (.inl rfl))<|z (hb)<|z1 (hi);clear HK HB HI0;obtain ⟨HK,HB,HI0⟩:=n_;clear hb hk hi;have p13:0≤(t335:Int):=of_decide_eq_true zd_;have q13:t335<(a2.size:Int):=of_decide_eq_true zd_;have hx13:=bt_at a2 t335;replace p13:=eq_true p13;replace q13:=eq_true q13)|((with_reducible refine gate_dst (N:=32) rfl ?_);(try (refine gate_guard (by rfl) ?_;dsimp only));refine Kd.R_lit (Kd.int .u8) _ 5 ?hg (N:=32) ?hd (xs:=([bt a2 t335]:List Int)) (inner:=[.int .u8 (bt a2 t335)]) (ok:=fun _=>True) (okp:=fun _=>True) ?hr ?hp (fun _ hk=>hk) trivial (Below.refl _ _) (Nat.le_refl _) (by simp) ?_;(case hd=>rfl);(case hg=>rfl);(case hr=>exact zb_);(case hp=>exact zec_);intro v339 w50 ho51 hb hg_ hnew_;clear hg_ hnew_;(first | rw [← Ny338.out] at ho51 | (simp only [Int.reduceToNat] at ho51;rw [← Ny338.out] at ho51));have n_:=z (Kd.R_lower ho51 (keep_size (w:=w) (g:=g) (row:=none) zg_))<|z (IsS66.below zf_ hb)<|z (KeepBut.trans zg_ (KeepBut.of_below hb g none) (.inl rfl))<|z1 (below_step zi_ hb);clear HI0 HK HB;obtain ⟨HO340,HI0,HK,HB⟩:=n_;clear hb ho51;have hcv52:=own_string (P:=Tryd.prog) Tryd.underlying22 Tryd.underlying5 Tryd.underlying9 (Kd.own_of_R HO340.out))|(go_at_call 59;(with_reducible refine (spec_l1Cur_pick.calls g s0_0 t336 t337 3 t341 t342 t343 w0 _ ?side1 ?side2 A14.out).mono ?_);(case side1=>exact zf_);(case side2=>exact zi_);rintro e w53 ⟨rfl,hi,hb,hk⟩;have n_:=z (Kd.R_mono (Kd.R_keep (IsS66.apart (show IsS66 w0 _ g s0_0 t336 t337 from zf_) (zr HO340.out) (by decide)) hk (fun _ h=>h.2)) (fun _ h=>h.1))<|z (KeepBut.trans zg_ hk (.inl rfl))<|z (hb)<|z1 (hi);clear HO340 HK HB HI0;obtain ⟨HO340,HK,HB,HI0⟩:=n_;clear hb hk hi))
               repeat (go_quiet (first | (go_at_call 59;(with_reducible refine (spec_l1Cur_pick.calls g s0_0 x1001_1 x1002_1 (x1_1.size:Int) t332 t333 t334 w0 _ ?side1 ?side2 A9.out).mono ?_);(case side1=>exact zf_);(case side2=>exact zi_);rintro e w48 ⟨rfl,hi,hb,hk⟩;have n_:=z (KeepBut.trans zg_ hk (.inl rfl))<|z (hb)<|z1 (hi);clear HK HB HI0;obtain ⟨HK,HB,HI0⟩:=n_;clear hb hk hi)|(go_at_call 59;(with_reducible refine (spec_l1Cur_pick.calls g s0_0 t333 t334 (a2.size:Int) t335 t336 t337 w0 _ ?side1 ?side2 A10.out).mono ?_);(case side1=>exact zf_);(case side2=>exact zi_);rintro e w49 ⟨rfl,hi,hb,hk⟩;have n_:=z (KeepBut.trans zg_ hk (.inl rfl))<|z (hb)<|z1 (hi);clear HK HB HI0;obtain ⟨HK,HB,HI0⟩:=n_;clear hb hk hi;have p13:0≤(t335:Int):=of_decide_eq_true zd_;have q13:t335<(a2.size:Int):=of_decide_eq_true zd_;have hx13:=bt_at a2 t335;replace p13:=eq_true p13;replace q13:=eq_true q13)|((with_reducible refine gate_dst (N:=32) rfl ?_);(try (refine gate_guard (by rfl) ?_;dsimp only));refine Kd.R_lit (Kd.int .u8) _ 5 ?hg (N:=32) ?hd (xs:=([bt a2 t335]:List Int)) (inner:=[.int .u8 (bt a2 t335)]) (ok:=fun _=>True) (okp:=fun _=>True) ?hr ?hp (fun _ hk=>hk) trivial (Below.refl _ _) (Nat.le_refl _) (by simp) ?_;(case hd=>rfl);(case hg=>rfl);(case hr=>exact zb_);(case hp=>exact zec_);intro v339 w50 ho51 hb hg_ hnew_;clear hg_ hnew_;(first | rw [← Ny338.out] at ho51 | (simp only [Int.reduceToNat] at ho51;rw [← Ny338.out] at ho51));have n_:=z (Kd.R_lower ho51 (keep_size (w:=w) (g:=g) (row:=none) zg_))<|z (IsS66.below zf_ hb)<|z (KeepBut.trans zg_ (KeepBut.of_below hb g none) (.inl rfl))<|z1 (below_step zi_ hb);clear HI0 HK HB;obtain ⟨HO340,HI0,HK,HB⟩:=n_;clear hb ho51;have hcv52:=own_string (P:=Tryd.prog) Tryd.underlying22 Tryd.underlying5 Tryd.underlying9 (Kd.own_of_R HO340.out))|(go_at_call 59;(with_reducible refine (spec_l1Cur_pick.calls g s0_0 t336 t337 3 t341 t342 t343 w0 _ ?side1 ?side2 A14.out).mono ?_);(case side1=>exact zf_);(case side2=>exact zi_);rintro e w53 ⟨rfl,hi,hb,hk⟩;have n_:=z (Kd.R_mono (Kd.R_keep (IsS66.apart (show IsS66 w0 _ g s0_0 t336 t337 from zf_) (zr HO340.out) (by decide)) hk (fun _ h=>h.2)) (fun _ h=>h.1))<|z (KeepBut.trans zg_ hk (.inl rfl))<|z (hb)<|z1 (hi);clear HO340 HK HB HI0;obtain ⟨HO340,HK,HB,HI0⟩:=n_;clear hb hk hi));try go_wp2_with (first | (go_at_call 59;(with_reducible refine (spec_l1Cur_pick.calls g s0_0 x1001_1 x1002_1 (x1_1.size:Int) t332 t333 t334 w0 _ ?side1 ?side2 A9.out).mono ?_);(case side1=>exact zf_);(case side2=>exact zi_);rintro e w48 ⟨rfl,hi,hb,hk⟩;have n_:=z (KeepBut.trans zg_ hk (.inl rfl))<|z (hb)<|z1 (hi);clear HK HB HI0;obtain ⟨HK,HB,HI0⟩:=n_;clear hb hk hi)|(go_at_call 59;(with_reducible refine (spec_l1Cur_pick.calls g s0_0 t333 t334 (a2.size:Int) t335 t336 t337 w0 _ ?side1 ?side2 A10.out).mono ?_);(case side1=>exact zf_);(case side2=>exact zi_);rintro e w49 ⟨rfl,hi,hb,hk⟩;have n_:=z (KeepBut.trans zg_ hk (.inl rfl))<|z (hb)<|z1 (hi);clear HK HB HI0;obtain ⟨HK,HB,HI0⟩:=n_;clear hb hk hi;have p13:0≤(t335:Int):=of_decide_eq_true zd_;have q13:t335<(a2.size:Int):=of_decide_eq_true zd_;have hx13:=bt_at a2 t335;replace p13:=eq_true p13;replace q13:=eq_true q13)|((with_reducible refine gate_dst (N:=32) rfl ?_);(try (refine gate_guard (by rfl) ?_;dsimp only));refine Kd.R_lit (Kd.int .u8) _ 5 ?hg (N:=32) ?hd (xs:=([bt a2 t335]:List Int)) (inner:=[.int .u8 (bt a2 t335)]) (ok:=fun _=>True) (okp:=fun _=>True) ?hr ?hp (fun _ hk=>hk) trivial (Below.refl _ _) (Nat.le_refl _) (by simp) ?_;(case hd=>rfl);(case hg=>rfl);(case hr=>exact zb_);(case hp=>exact zec_);intro v339 w50 ho51 hb hg_ hnew_;clear hg_ hnew_;(first | rw [← Ny338.out] at ho51 | (simp only [Int.reduceToNat] at ho51;rw [← Ny338.out] at ho51));have n_:=z (Kd.R_lower ho51 (keep_size (w:=w) (g:=g) (row:=none) zg_))<|z (IsS66.below zf_ hb)<|z (KeepBut.trans zg_ (KeepBut.of_below hb g none) (.inl rfl))<|z1 (below_step zi_ hb);clear HI0 HK HB;obtain ⟨HO340,HI0,HK,HB⟩:=n_;clear hb ho51;have hcv52:=own_string (P:=Tryd.prog) Tryd.underlying22 Tryd.underlying5 Tryd.underlying9 (Kd.own_of_R HO340.out))|(go_at_call 59;(with_reducible refine (spec_l1Cur_pick.calls g s0_0 t336 t337 3 t341 t342 t343 w0 _ ?side1 ?side2 A14.out).mono ?_);(case side1=>exact zf_);(case side2=>exact zi_);rintro e w53 ⟨rfl,hi,hb,hk⟩;have n_:=z (Kd.R_mono (Kd.R_keep (IsS66.apart (show IsS66 w0 _ g s0_0 t336 t337 from zf_) (zr HO340.out) (by decide)) hk (fun _ h=>h.2)) (fun _ h=>h.1))<|z (KeepBut.trans zg_ hk (.inl rfl))<|z (hb)<|z1 (hi);clear HO340 HK HB HI0;obtain ⟨HO340,HK,HB,HI0⟩:=n_;clear hb hk hi)))
               go_roundg kj5
               case measure=>have:=HK1.out;have:=HJ5.out;omega
               case rel=>exact ⟨((x1_1.extract 0 (t332:Int).toNat)++(x1_1.extract ((ji44):Int).toNat x1_1.size)),(wrap64 (x7_1 - 1)),(t342),(t343),(by first | rfl | (simp;done)|(simp only [← hji44] <;> (first | rfl | simp))|(simp [*];done)),zc_,H',⟨by have:=HK1.out;have:=HJ5.out;omega⟩,⟨zf_⟩,⟨zg_⟩,⟨zi_⟩⟩
              ·rw [if_neg c47] at H
               exact q3n_ H
             ·rw [if_neg c46] at H
              exact q3n_ H
            ·rw [if_neg c45] at H
             exact q3n_ H
           ·rw [if_neg c43] at H
            exact q3n_ H
          ·rw [if_neg c42] at H
           exact q3n_ H
       ·rw [if_neg c12] at H
        exact q3n_ H
      ·rw [if_neg c11] at H
       exact q3n_ H
     ·replace c8:=Bool.eq_false_iff.mpr c8
      subst c8;have H1:(some (x1_1,x1001_1,x1002_1))=some (r1,r2,r3):=by rw [if_neg (show ¬ (false=true) by decide)] at H;exact H
      clear H;have H:=H1;clear H1
      simp only [Option.some.injEq,Prod.mk.injEq] at H
      obtain ⟨rfl,rfl,rfl⟩:=H
      go_wp2
      repeat (go_quiet (fail);try go_wp2)
      go_ret
      exact ⟨zh_,zf_,zi_,zg_⟩
def spec_l1Cur_of.f (s0_0:List Int) (s0_1:Int) (s0_2:Int) (l1:List ByteArray):Option (ByteArray×Int×Int):=(spec_l1Cur_pick.f s0_0 s0_1 s0_2 (l1.length:Int)).bind fun bt344=>(if 0≤bt344.1 then (if bt344.1<(l1.length:Int) then (some (rdOf ByteArray.empty l1 bt344.1,bt344.2.1,bt344.2.2)) else (none)) else (none))
theorem spec_l1Cur_of.calls (g:Nat) (s0_0:List Int) (s0_1:Int) (s0_2:Int) (A1:Option Addr) (c1:Nat) (l1:List ByteArray) (r1:ByteArray) (r2:Int) (r3:Int) (w0 w:World) (hI:IsS66 w0 w g s0_0 s0_1 s0_2) (hB:Below w0.heap.size w0 w) (hr1:Kd.C Kd.string w A1 l1.length l1) (hc1:l1.length≤c1) (hf1:∀ ad,A1=some ad→0<l1.length→ad.block≠g) (h:spec_l1Cur_of.f s0_0 s0_1 s0_2 l1=some (r1,r2,r3)) :
  Calls Tryd.prog 80 #[.pointer (some ⟨g,0,none⟩),.slice A1 l1.length c1] w fun e w'=>e = .returned (.string r1)∧IsS66 w0 w' g s0_0 r2 r3∧Below w0.heap.size w0 w'∧KeepBut w w' g none:=by
 have HR1:=aM hr1
 have HC1:=aM hc1
 clear hr1 hc1
 have HI0:=aM hI
 have HK:=aM (KeepBut.refl w g none)
 have HL:=aM hB.size
 clear hI
 have HW0:=aM hB.size
 have HB:=aM hB
 clear hB
 have H:((spec_l1Cur_pick.f s0_0 s0_1 s0_2 (l1.length:Int)).bind fun bt344=>(if 0≤bt344.1 then (if bt344.1<(l1.length:Int) then (some (rdOf ByteArray.empty l1 bt344.1,bt344.2.1,bt344.2.2)) else (none)) else (none)))=some (r1,r2,r3):=h
 clear h
 replace H:=oB.mp H
 obtain ⟨⟨t344,t345,t346⟩,A30,H⟩:=H
 replace H:(if 0≤t344 then (if t344<(l1.length:Int) then (some (rdOf ByteArray.empty l1 t344,t345,t346)) else (none)) else (none))=some (r1,r2,r3):=H
 have A3:=aM A30
 clear A30
 by_cases c4:0≤t344
 ·rw [if_pos c4] at H
  have c4b0:=decide_eq_true c4;clear c4
  by_cases c5:t344<(l1.length:Int)
  ·rw [if_pos c5] at H
   have c5b0:=decide_eq_true c5;clear c5
   simp only [Option.some.injEq,Prod.mk.injEq] at H
   obtain ⟨rfl,rfl,rfl⟩:=H
   go_enter Tryd.func80,Tryd.ntmps80
   go_wp2_with (first | ((with_reducible refine gate_callee (f:=59) rfl ?_);refine goesL_ (some 9) rfl rfl Tryd.func59 (by kernel_rfl) rfl #[.pointer (some ⟨g,0,none⟩),.int .i64 (l1.length:Int)] rfl ze_ ?_;(with_reducible refine (spec_l1Cur_pick.calls g s0_0 s0_1 s0_2 (l1.length:Int) t344 t345 t346 w0 _ ?side1 ?side2 A3.out).mono ?_);(case side1=>exact zf_);(case side2=>exact zi_);rintro e w6 ⟨rfl,hi,hb,hk⟩;refine ⟨_,rfl,?_⟩;have n_:=z (KeepBut.trans zg_ hk (.inl rfl))<|z (hb)<|z1 (hi);clear HK HB HI0;obtain ⟨HK,HB,HI0⟩:=n_;clear hb hk hi;have p347:0≤(t344:Int):=of_decide_eq_true zd_;have q347:t344<(l1.length:Int):=of_decide_eq_true zd_;obtain ⟨ad347,e347,hx347_0⟩:=Kd.at_string HR1.out t344 p347 q347;cases e347;replace hx347_0:=keep_cell HK.out hx347_0 (by first | (rw [add_block];exact hf1 _ rfl (by omega)) | exact hf1 _ rfl (by omega) | exact hf1 ad347 rfl (by omega));replace p347:=eq_true p347;replace q347:=eq_true q347))
   go_ret
   exact ⟨zh_,zf_,zi_,zg_⟩
  ·rw [if_neg c5] at H
   exact q3n_ H
 ·rw [if_neg c4] at H
  exact q3n_ H
def spec_DrawParseTable.j0:Nat→ByteArray→Int→Bool→List Int→Int→Int→Option (ByteArray)
 | 0,_,_,_,_,_,_=>none
 | k+1,x4,x12,x13,x349000,x349001,x349002=>if x13=true then ((spec_l1Cur_spoilt.f k x349000 x349001 x349002 x4 (⟨#[48,49,58,50]⟩:ByteArray)).bind fun bt359=>(some bt359.1)) else (if x12=2 then ((spec_l1Cur_of.f x349000 x349001 x349002 (([(⟨#[]⟩:ByteArray),(⟨#[48,58]⟩:ByteArray),(⟨#[49,58,48]⟩:ByteArray),(⟨#[49,58,48,49,50]⟩:ByteArray),(⟨#[48,50,58,48,49,49,49]⟩:ByteArray),(⟨#[50,58,48,49,49,50]⟩:ByteArray),(⟨#[53,58,48]⟩:ByteArray),(⟨#[58]⟩:ByteArray),(⟨#[50,58,48,49,58,49]⟩:ByteArray),(⟨#[45,49,58,48]⟩:ByteArray)]:List ByteArray))).bind fun bt365=>(some bt365.1)) else (some x4))
def spec_DrawParseTable.f (k:Nat) (l0:List Int):Option (ByteArray):=(spec_l1Cur_table.f k l0 0 0).bind fun bt349=>((spec_ttText.f k bt349.1 bt349.2.1).bind fun t355=>((spec_l1Cur_pick.f l0 bt349.2.2.1 bt349.2.2.2 6).bind fun bt356=>(if bt356.1=0 then (spec_DrawParseTable.j0 k t355 bt356.1 (bt356.1 == 0) l0 bt356.2.1 bt356.2.2) else (spec_DrawParseTable.j0 k t355 bt356.1 (bt356.1 == 1) l0 bt356.2.1 bt356.2.2))))
theorem spec_DrawParseTable.calls (k:Nat) (A0:Option Addr) (c0:Nat) (l0:List Int) (r:ByteArray) (w:World) (hr0:Kd.C (Kd.int .u8) w A0 l0.length l0) (hc0:l0.length≤c0) (h:spec_DrawParseTable.f k l0=some r) :
  Calls Tryd.prog 40 #[.slice A0 l0.length c0] w fun e w'=>e = .returned (.string r)∧Below w.heap.size w w':=by
 have hu66:=Tryd.underlying66
 have HR0:=aM hr0
 have HC0:=aM hc0
 clear hr0 hc0
 have HB:=aM (Below.refl w.heap.size w)
 have H:((spec_l1Cur_table.f k l0 0 0).bind fun bt349=>((spec_ttText.f k bt349.1 bt349.2.1).bind fun t355=>((spec_l1Cur_pick.f l0 bt349.2.2.1 bt349.2.2.2 6).bind fun bt356=>(if bt356.1=0 then (spec_DrawParseTable.j0 k t355 bt356.1 (bt356.1 == 0) l0 bt356.2.1 bt356.2.2) else (spec_DrawParseTable.j0 k t355 bt356.1 (bt356.1 == 1) l0 bt356.2.1 bt356.2.2)))))=some r:=h
 clear h
 replace H:=oB.mp H
 obtain ⟨⟨t349,t350,t353,t354⟩,A20,H⟩:=H
 replace H:((spec_ttText.f k t349 t350).bind fun t355=>((spec_l1Cur_pick.f l0 t353 t354 6).bind fun bt356=>(if bt356.1=0 then (spec_DrawParseTable.j0 k t355 bt356.1 (bt356.1 == 0) l0 bt356.2.1 bt356.2.2) else (spec_DrawParseTable.j0 k t355 bt356.1 (bt356.1 == 1) l0 bt356.2.1 bt356.2.2))))=some r:=H
 have A2:=aM A20
 clear A20
 replace H:=oB.mp H
 obtain ⟨t355,A30,H⟩:=H
 replace H:((spec_l1Cur_pick.f l0 t353 t354 6).bind fun bt356=>(if bt356.1=0 then (spec_DrawParseTable.j0 k t355 bt356.1 (bt356.1 == 0) l0 bt356.2.1 bt356.2.2) else (spec_DrawParseTable.j0 k t355 bt356.1 (bt356.1 == 1) l0 bt356.2.1 bt356.2.2)))=some r:=H
 have A3:=aM A30
 clear A30
 replace H:=oB.mp H
 obtain ⟨⟨t356,t357,t358⟩,A40,H⟩:=H
 replace H:(if t356=0 then (spec_DrawParseTable.j0 k t355 t356 (t356 == 0) l0 t357 t358) else (spec_DrawParseTable.j0 k t355 t356 (t356 == 1) l0 t357 t358))=some r:=H
 have A4:=aM A40
 clear A40
 have HC5:=aM H
 clear H
 go_enter Tryd.func40,Tryd.ntmps40
 go_upto_if 13 with (first | ((with_reducible refine gate_dst (N:=7) rfl ?_);refine box_event ?hg (N:=7) ?hd (cs:=#[.slice A0 l0.length c0,.int .i64 0,.int .u64 0]) (t:=66) ?hr ?_;(case hd=>rfl);(case hg=>rfl);(case hr=>exact zb_);intro gb348 hg w6 hbox hb;have n_:=z (below_step za_ hb)<|z ((by rw [hg];exact (below_size za_):w.heap.size≤gb348))<|z ((by rw [hg];exact (below_size za_):w.heap.size≤gb348))<|z1 ((⟨_,_,hbox,(by rw [hg];exact (below_size za_):w.heap.size≤gb348),HR0.out⟩:IsS66 w w6 gb348 l0 0 0));clear HB;obtain ⟨HB,GW348,GE348,HI348⟩:=n_;clear hb hbox hg)|((with_reducible refine gate_callee (f:=78) rfl ?_);refine goesL_ (some 9) rfl rfl Tryd.func78 (by kernel_rfl) rfl #[.pointer (some ⟨gb348,0,none⟩)] rfl ze_ ?_;(with_reducible refine (spec_l1Cur_table.calls k gb348 l0 0 0 t349 t350 t353 t354 w _ ?side1 ?side2 A2.out).mono ?_);(case side1=>exact zeb_);(case side2=>exact zdb_);rintro e w7 ⟨v351,rfl,ho0,hi,hb,hk⟩;refine ⟨_,rfl,?_⟩;have n_:=z (Kd.R_lower ho0 (below_size zdb_))<|z (hb)<|z1 (hi);clear HB HI348;obtain ⟨HO352,HB,HI348⟩:=n_;clear hb hk hi;(try clear ho0);obtain ⟨Ao8,co8,eo8⟩:=Kd.R_slice HO352.out;subst eo8)|((with_reducible refine gate_callee (f:=72) rfl ?_);refine goesL_ (some 10) rfl rfl Tryd.func72 (by kernel_rfl) rfl #[.agg #[.int .i64 t349,.slice Ao8 t350.length co8]] rfl ze_ ?_;(with_reducible refine (spec_ttText.calls k t349 _ _ t350 t355 _ ?side1 ?side2 A3.out).mono ?_);(case side1=>repeat (first | exact (Kd.R_reads' HO352.out).2.2 | (with_reducible refine cA ?_ _)|(with_reducible refine cN ?_ _)|(with_reducible refine cD ?_)));(case side2=>exact (Kd.R_reads' HO352.out).2.1);rintro e w9 ⟨rfl,hb⟩;refine ⟨_,rfl,?_⟩;have n_:=z (Kd.R_below (zr HO352.out) hb)<|z (IsS66.below zeb_ hb)<|z1 (below_step zdb_ hb);clear HO352 HI348 HB;obtain ⟨HO352,HI348,HB⟩:=n_;clear hb)|((with_reducible refine gate_callee (f:=59) rfl ?_);refine goesL_ (some 12) rfl rfl Tryd.func59 (by kernel_rfl) rfl #[.pointer (some ⟨gb348,0,none⟩),.int .i64 6] rfl ze_ ?_;(with_reducible refine (spec_l1Cur_pick.calls gb348 l0 t353 t354 6 t356 t357 t358 w _ ?side1 ?side2 A4.out).mono ?_);(case side1=>exact zeb_);(case side2=>exact zdb_);rintro e w10 ⟨rfl,hi,hb,hk⟩;refine ⟨_,rfl,?_⟩;have n_:=z (Kd.R_mono (Kd.R_keep (IsS66.apart (show IsS66 w _ gb348 l0 t353 t354 from zeb_) (zr HO352.out) (by decide)) hk (fun _ h=>h.2)) (fun _ h=>h.1))<|z (hb)<|z1 (hi);clear HO352 HB HI348;obtain ⟨HO352,HB,HI348⟩:=n_;clear hb hk hi))
 (try simp only [Act.put,sI,s0,sS])
 go_cut [13] (fun v13 wc => ∃ (kq:Nat) (x13_4:Bool),v13 = .bool x13_4∧Aside0 (spec_DrawParseTable.j0 kq t355 t356 x13_4 l0 t357 t358=some r)∧Aside0 (kq≤k)∧Aside0 (IsS66 w wc gb348 l0 t357 t358)∧Aside0 (Below w.heap.size w wc))
 case first =>
  have H:=HC5.out;clear HC5
  by_cases c11:t356=0
  ·rw [if_pos c11] at H
   have c11b0:=beq_iff_eq.mpr c11;have c11b1:=bne_eq_false_iff_eq.mpr c11;clear c11;(first | rw [c11b0]|(simp only [i64_w,i32_w];rw [c11b0]) | skip);have H':=aM H;clear H
   go_wp2
   go_meet
   case rel=>exact ⟨_,((t356 == 0)),zc_,H',⟨zce_⟩,⟨zeb_⟩,⟨zdb_⟩⟩
  ·rw [if_neg c11] at H
   have c11b0:=beq_eq_false_iff_ne.mpr c11;have c11b1:=bne_iff_ne.mpr c11;(first | rw [c11b0]|(simp only [i64_w,i32_w];rw [c11b0]) | skip);have H':=aM H;clear H
   go_wp2
   go_meet
   case rel=>exact ⟨_,((t356 == 1)),zc_,H',⟨zce_⟩,⟨zeb_⟩,⟨zdb_⟩⟩
 case rest =>
  clear HC5;obtain ⟨kq,x13_4,rfl,HA,HJ4,HI348,HB⟩:=hcut
  cases kq with
  | zero=>exact absurd HA.out (by simp [spec_DrawParseTable.j0])
  | succ kj4 =>
   have H:=HA.out;clear HA
   simp only [spec_DrawParseTable.j0] at H
   by_cases c12:x13_4=true
   ·subst c12
    have H1:((spec_l1Cur_spoilt.f kj4 l0 t357 t358 t355 (⟨#[48,49,58,50]⟩:ByteArray)).bind fun bt359=>(some bt359.1))=some r:=by rw [if_pos rfl] at H;exact H
    clear H;have H:=H1;clear H1;replace H:=oB.mp H;obtain ⟨⟨t359,t360,t361⟩,A130,H⟩:=H;replace H:(some t359)=some r:=H;have A13:=aM A130;clear A130;obtain rfl:=Option.some.inj H
    go_wp2_with (first | ((with_reducible refine gate_callee (f:=79) rfl ?_);refine goesL_ (some 18) rfl rfl Tryd.func79 (by kernel_rfl) rfl #[.pointer (some ⟨gb348,0,none⟩),.string t355,.string (⟨#[48,49,58,50]⟩:ByteArray)] rfl ze_ ?_;(with_reducible refine (spec_l1Cur_spoilt.calls kj4 gb348 l0 t357 t358 t355 (⟨#[48,49,58,50]⟩:ByteArray) t359 t360 t361 w _ ?side1 ?side2 A13.out).mono ?_);(case side1=>exact zeb_);(case side2=>exact zdb_);rintro e w14 ⟨rfl,hi,hb,hk⟩;refine ⟨_,rfl,?_⟩;have n_:=z (hb)<|z1 (hi);clear HB HI348;obtain ⟨HB,HI348⟩:=n_;clear hb hk hi))
    go_ret
    exact ⟨zh_,zdb_⟩
   ·replace c12:=Bool.eq_false_iff.mpr c12
    subst c12;have H1:(if t356=2 then ((spec_l1Cur_of.f l0 t357 t358 (([(⟨#[]⟩:ByteArray),(⟨#[48,58]⟩:ByteArray),(⟨#[49,58,48]⟩:ByteArray),(⟨#[49,58,48,49,50]⟩:ByteArray),(⟨#[48,50,58,48,49,49,49]⟩:ByteArray),(⟨#[50,58,48,49,49,50]⟩:ByteArray),(⟨#[53,58,48]⟩:ByteArray),(⟨#[58]⟩:ByteArray),(⟨#[50,58,48,49,58,49]⟩:ByteArray),(⟨#[45,49,58,48]⟩:ByteArray)]:List ByteArray))).bind fun bt365=>(some bt365.1)) else (some t355))=some r:=by rw [if_neg (show ¬ (false=true) by decide)] at H;exact H
    clear H;have H:=H1;clear H1
    by_cases c15:t356=2
    ·rw [if_pos c15] at H
     have c15b0:=beq_iff_eq.mpr c15;have c15b1:=bne_eq_false_iff_eq.mpr c15;clear c15;obtain ⟨y362,hy362⟩:∃ y_:List ByteArray,y_=(([(⟨#[]⟩:ByteArray),(⟨#[48,58]⟩:ByteArray),(⟨#[49,58,48]⟩:ByteArray),(⟨#[49,58,48,49,50]⟩:ByteArray),(⟨#[48,50,58,48,49,49,49]⟩:ByteArray),(⟨#[50,58,48,49,49,50]⟩:ByteArray),(⟨#[53,58,48]⟩:ByteArray),(⟨#[58]⟩:ByteArray),(⟨#[50,58,48,49,58,49]⟩:ByteArray),(⟨#[45,49,58,48]⟩:ByteArray)]:List ByteArray)):=⟨_,rfl⟩;replace H:((spec_l1Cur_of.f l0 t357 t358 y362).bind fun bt365=>(some bt365.1))=some r:=q3y_ hy362 H
     have Ny362:=aM hy362;clear hy362;replace H:=oB.mp H;obtain ⟨⟨t365,t366,t367⟩,A160,H⟩:=H;replace H:(some t365)=some r:=H;have A16:=aM A160;clear A160;obtain rfl:=Option.some.inj H
     go_wp2_with (first | ((with_reducible refine gate_dst (N:=22) rfl ?_);refine Kd.R_lit Kd.string _ 9 ?hg (N:=22) ?hd (xs:=([(⟨#[]⟩:ByteArray),(⟨#[48,58]⟩:ByteArray),(⟨#[49,58,48]⟩:ByteArray),(⟨#[49,58,48,49,50]⟩:ByteArray),(⟨#[48,50,58,48,49,49,49]⟩:ByteArray),(⟨#[50,58,48,49,49,50]⟩:ByteArray),(⟨#[53,58,48]⟩:ByteArray),(⟨#[58]⟩:ByteArray),(⟨#[50,58,48,49,58,49]⟩:ByteArray),(⟨#[45,49,58,48]⟩:ByteArray)]:List ByteArray)) (inner:=[.string (⟨#[]⟩:ByteArray),.string (⟨#[48,58]⟩:ByteArray),.string (⟨#[49,58,48]⟩:ByteArray),.string (⟨#[49,58,48,49,50]⟩:ByteArray),.string (⟨#[48,50,58,48,49,49,49]⟩:ByteArray),.string (⟨#[50,58,48,49,49,50]⟩:ByteArray),.string (⟨#[53,58,48]⟩:ByteArray),.string (⟨#[58]⟩:ByteArray),.string (⟨#[50,58,48,49,58,49]⟩:ByteArray),.string (⟨#[45,49,58,48]⟩:ByteArray)]) (ok:=fun _=>True) (okp:=fun _=>True) ?hr ?hp (fun _ hk=>hk) trivial (Below.refl _ _) (Nat.le_refl _) (by simp) ?_;(case hd=>rfl);(case hg=>rfl);(case hr=>exact zb_);(case hp=>exact (Reps.one (show Kd.M Kd.string _ _ _ (⟨#[]⟩:ByteArray) [.string (⟨#[]⟩:ByteArray)] from rfl) (Reps.one (show Kd.M Kd.string _ _ _ (⟨#[48,58]⟩:ByteArray) [.string (⟨#[48,58]⟩:ByteArray)] from rfl) (Reps.one (show Kd.M Kd.string _ _ _ (⟨#[49,58,48]⟩:ByteArray) [.string (⟨#[49,58,48]⟩:ByteArray)] from rfl) (Reps.one (show Kd.M Kd.string _ _ _ (⟨#[49,58,48,49,50]⟩:ByteArray) [.string (⟨#[49,58,48,49,50]⟩:ByteArray)] from rfl) (Reps.one (show Kd.M Kd.string _ _ _ (⟨#[48,50,58,48,49,49,49]⟩:ByteArray) [.string (⟨#[48,50,58,48,49,49,49]⟩:ByteArray)] from rfl) (Reps.one (show Kd.M Kd.string _ _ _ (⟨#[50,58,48,49,49,50]⟩:ByteArray) [.string (⟨#[50,58,48,49,49,50]⟩:ByteArray)] from rfl) (Reps.one (show Kd.M Kd.string _ _ _ (⟨#[53,58,48]⟩:ByteArray) [.string (⟨#[53,58,48]⟩:ByteArray)] from rfl) (Reps.one (show Kd.M Kd.string _ _ _ (⟨#[58]⟩:ByteArray) [.string (⟨#[58]⟩:ByteArray)] from rfl) (Reps.one (show Kd.M Kd.string _ _ _ (⟨#[50,58,48,49,58,49]⟩:ByteArray) [.string (⟨#[50,58,48,49,58,49]⟩:ByteArray)] from rfl) (Reps.one (show Kd.M Kd.string _ _ _ (⟨#[45,49,58,48]⟩:ByteArray) [.string (⟨#[45,49,58,48]⟩:ByteArray)] from rfl) (Reps.none _ _))))))))))));intro v363 w17 ho18 hb hg_ hnew_;clear hg_ hnew_;(first | rw [← Ny362.out] at ho18 | (simp only [Int.reduceToNat] at ho18;rw [← Ny362.out] at ho18));have n_:=z (Kd.R_lower ho18 (below_size zdb_))<|z (IsS66.below zeb_ hb)<|z1 (below_step zdb_ hb);clear HI348 HB;obtain ⟨HO364,HI348,HB⟩:=n_;clear hb ho18;obtain ⟨Ao19,co19,eo19⟩:=Kd.R_slice HO364.out;subst eo19)|((with_reducible refine gate_callee (f:=80) rfl ?_);refine goesL_ (some 23) rfl rfl Tryd.func80 (by kernel_rfl) rfl #[.pointer (some ⟨gb348,0,none⟩),.slice Ao19 y362.length co19] rfl ze_ ?_;(with_reducible refine (spec_l1Cur_of.calls gb348 l0 t357 t358 _ _ y362 t365 t366 t367 w _ ?side1 ?side2 ?side3 ?side4 ?side5 A16.out).mono ?_);(case side1=>exact zeb_);(case side2=>exact zdb_);(case side3=>repeat (first | exact (Kd.R_reads' HO364.out).2.2 | (with_reducible refine cA ?_ _)|(with_reducible refine cN ?_ _)|(with_reducible refine cD ?_)));(case side4=>exact (Kd.R_reads' HO364.out).2.1);(case side5=>exact far_slice (IsS66.own_ne HI348.out HO364.out (by decide)));rintro e w20 ⟨rfl,hi,hb,hk⟩;refine ⟨_,rfl,?_⟩;have n_:=z (Kd.R_mono (Kd.R_keep (IsS66.apart (show IsS66 w _ gb348 l0 t357 t358 from zeb_) (zr HO364.out) (by decide)) hk (fun _ h=>h.2)) (fun _ h=>h.1))<|z (hb)<|z1 (hi);clear HO364 HB HI348;obtain ⟨HO364,HB,HI348⟩:=n_;clear hb hk hi))
     go_ret
     exact ⟨zh_,zdb_⟩
    ·rw [if_neg c15] at H
     have c15b0:=beq_eq_false_iff_ne.mpr c15;have c15b1:=bne_iff_ne.mpr c15;obtain rfl:=Option.some.inj H
     go_wp2
     go_ret
     exact ⟨zh_,zdb_⟩
end Go.Proofs.YtlnhpkjioppbiaaDoor.QFnTables
