/- Functions of FnDiagramOrders, each as a Lean function, with the proof that the Go code comes to its answers. -/
import Derived.Test.YtlnhpkjioppbiaaSFnDiagramOrdersx3
import Derived.Test.YtlnhpkjioppbiaaSFnDiagramOrdersx8
import Derived.Test.YtlnhpkjioppbiaaSFnDiagramOrdersx12
import Derived.Test.YtlnhpkjioppbiaaSFnDiagramOrdersx14
import Derived.Test.YtlnhpkjioppbiaaSFnDiagramOrdersx16
import Derived.Test.YtlnhpkjioppbiaaSFnDiagramOrdersx19
import Derived.Test.YtlnhpkjioppbiaaSFnDiagramOrdersx21
import Derived.Test.YtlnhpkjioppbiaaSFnDiagramOrdersx23
import Derived.Test.YtlnhpkjioppbiaaSFnDiagramOrdersx25
namespace Go.Proofs.Ytlnhpkjioppbiaa.QFnDiagramOrders
open Go.RowKit Go.Proofs.YtlnhpkjioppbiaaW.PrintWords Go.Proofs.YtlnhpkjioppbiaaW.PrintLast Go.Proofs.YtlnhpkjioppbiaaW.PrintMore
open Go.Proofs.YtlnhpkjioppbiaaW.PrintWords renaming pw_below_drewN→pN,below_drew1→p1,below_alloc→pA
open Go.Proofs.YtlnhpkjioppbiaaW.PrintWords.Kd renaming R_alloc→kA,R_drewN→kN,R_drew→kD,Q_alloc→qA,Q_drewN→qN,Q_drew→qD,C_alloc→cA,C_drewN→cN,C_drew→cD
open Go.Proofs.YtlnhpkjioppbiaaW.PrintWords.Aside0 renaming mk→aM
open List renaming setIfInBounds_toArray→sI,set_cons_zero→s0,set_cons_succ→sS,map_toArray→mT,length_take→lT,length_drop→lD,map_cons→mC,map_nil→mN
open Option renaming bind_eq_some_iff→oB
attribute [local go_sem] max2_int min2_int max_two min_two max_three min_three max_four min_four
set_option maxHeartbeats 8000000
set_option maxRecDepth 100000
set_option linter.unusedVariables false
set_option linter.unusedSimpArgs false

/-! ### laws_FnDiagramOrders: function 4 -/
mutual
def laws_FnDiagramOrders.j0:Nat→(List Int)→Int→Int→(List (S93))→Int→Int→(List (S93))→Int→Bool→Int→(List (S93))→Int→Option (Bool)
 | 0,_,_,_,_,_,_,_,_,_,_,_,_=>none
 | k+1,l1,t56_0,t56_1,t56_2,t56_3,t56_4,t56_5,t56_6,t64_3,t71_0,t71_1,t71_2=>if t64_3=true then ((impl_TableOf.f k t56_1 t56_2 t56_3).bind fun b86d1=>(impl_TableOf.f k t56_4 t56_5 t56_6).bind fun b91d1=>(impl_CombineTables.f k t56_0 b86d1.1 b86d1.2.1 b91d1.1 b91d1.2.1).bind fun b98d1=>(impl_DiagramOf.f k b98d1.1 b98d1.2.1).bind fun b103d1=>if b86d1.2.2=true then (if b91d1.2.2=true then (if b98d1.2.2=true then (if b103d1.2.2.2=true then ((laws_pSameDiagram.f k b103d1.1 b103d1.2.1 b103d1.2.2.1 t71_0 t71_1 t71_2).bind fun b123d1=>if b123d1=true then (laws_FnDiagramOrders.j1 k l1) else (none)) else (none)) else (none)) else (none)) else (none)) else (laws_FnDiagramOrders.j1 k l1)
def laws_FnDiagramOrders.j1:Nat→(List Int)→Option (Bool)
 | 0,_=>none
 | k+1,l1=>(spec_DrawFixDiagram.f k l1).bind fun b128d2=>(impl_FixDiagram.f k b128d2.1 b128d2.2.1 b128d2.2.2.1 b128d2.2.2.2.1 b128d2.2.2.2.2).bind fun b136d2=>(spec_FixDiagram.f k b128d2.1 b128d2.2.1 b128d2.2.2.1 b128d2.2.2.2.1 b128d2.2.2.2.2).bind fun b143d2=>if b136d2.2.2.2=true then (if b143d2.2.2.2=true then ((laws_pSameDiagram.f k b136d2.1 b136d2.2.1 b136d2.2.2.1 b143d2.1 b143d2.2.1 b143d2.2.2.1).bind fun b152d2=>if b152d2=true then (if b143d2.1=(wrap64 (b128d2.1 - 1)) then ((impl_IsDiagram.f k b136d2.1 b136d2.2.1 b136d2.2.2.1).bind fun b166d2=>if b166d2=true then (laws_FnDiagramOrders.j2 k l1) else (none)) else (none)) else (none)) else (none)) else (if b143d2.2.2.2=true then (none) else ((laws_pSameDiagram.f k b136d2.1 b136d2.2.1 b136d2.2.2.1 b143d2.1 b143d2.2.1 b143d2.2.2.1).bind fun b152d2=>if b152d2=true then (laws_FnDiagramOrders.j2 k l1) else (none)))
def laws_FnDiagramOrders.j2:Nat→(List Int)→Option (Bool)
 | 0,_=>none
 | k+1,l1=>(spec_DrawBestOrder.f k l1).bind fun b172d3=>(impl_BestOrder.f k b172d3.1 b172d3.2).bind fun b175d3=>(spec_BestOrder.f k b172d3.1 b172d3.2).bind fun b181d3=>if b175d3.2.2=true then (if b181d3.2.2=true then ((laws_sameInts.f k b175d3.1 b181d3.1).bind fun b191d3=>if b191d3=true then (if b175d3.2.1=b181d3.2.1 then (laws_FnDiagramOrders.j3 k l1 b172d3.1 b172d3.2 b175d3.1 b175d3.2.2 b181d3.2.1) else (none)) else (none)) else (none)) else (if b181d3.2.2=true then (none) else ((laws_sameInts.f k b175d3.1 b181d3.1).bind fun b191d3=>if b191d3=true then (if b175d3.2.1=b181d3.2.1 then (laws_FnDiagramOrders.j3 k l1 b172d3.1 b172d3.2 b175d3.1 b175d3.2.2 b181d3.2.1) else (none)) else (none)))
def laws_FnDiagramOrders.j3:Nat→(List Int)→Int→(List Int)→(List Int)→Bool→Int→Option (Bool)
 | 0,_,_,_,_,_,_=>none
 | k+1,l1,t172d3_0,t172d3_1,t175d3_0,t175d3_2,t181d3_1=>if t175d3_2=true then ((impl_ReorderTable.f k t172d3_0 t172d3_1 t175d3_0).bind fun b203d4=>(impl_DiagramOf.f k b203d4.1 b203d4.2.1).bind fun b208d4=>(impl_DiagramOf.f k t172d3_0 t172d3_1).bind fun b213d4=>if b203d4.2.2=true then (if b208d4.2.2.2=true then (if ((b208d4.2.1.length:Int))=t181d3_1 then (if b213d4.2.2.2=true then (if ((b213d4.2.1.length:Int))<t181d3_1 then (none) else (laws_FnDiagramOrders.j4 k l1)) else (none)) else (none)) else (none)) else (none)) else (laws_FnDiagramOrders.j4 k l1)
def laws_FnDiagramOrders.j4:Nat→(List Int)→Option (Bool)
 | 0,_=>none
 | k+1,l1=>(spec_DrawReorderTable.f k l1).bind fun b242d5=>(impl_ReorderTable.f k b242d5.1 b242d5.2.1 b242d5.2.2).bind fun b248d5=>(spec_ReorderTable.f k b242d5.1 b242d5.2.1 b242d5.2.2).bind fun b254d5=>if b248d5.2.2=true then (if b254d5.2.2=true then ((laws_pSameTable.f k b248d5.1 b248d5.2.1 b254d5.1 b254d5.2.1).bind fun b263d5=>if b263d5=true then (laws_FnDiagramOrders.j5 k b242d5.2.1 b242d5.2.2 b248d5.2.2 b254d5.2.1) else (none)) else (none)) else (if b254d5.2.2=true then (none) else ((laws_pSameTable.f k b248d5.1 b248d5.2.1 b254d5.1 b254d5.2.1).bind fun b263d5=>if b263d5=true then (laws_FnDiagramOrders.j5 k b242d5.2.1 b242d5.2.2 b248d5.2.2 b254d5.2.1) else (none)))
def laws_FnDiagramOrders.j5:Nat→(List Int)→(List Int)→Bool→(List Int)→Option (Bool)
 | 0,_,_,_,_=>none
 | k+1,t242d5_1,t242d5_2,t248d5_2,t254d5_1=>if t248d5_2=true then (laws_FnDiagramOrders.l0 k 0 t242d5_1 t242d5_2 t254d5_1) else (some true)
def laws_FnDiagramOrders.l0:Nat→Int→(List Int)→(List Int)→(List Int)→Option (Bool)
 | 0,_,_,_,_=>none
 | k+1,x7_270,t242d5_1,t242d5_2,t254d5_1=>if x7_270<((t254d5_1.length:Int)) then (if 0≤x7_270∧x7_270<(t254d5_1.length:Int) then (laws_FnDiagramOrders.l1 k 0 0 t242d5_1 t242d5_2 t254d5_1 x7_270) else (none)) else (some true)
def laws_FnDiagramOrders.l1:Nat→Int→Int→(List Int)→(List Int)→(List Int)→Int→Option (Bool)
 | 0,_,_,_,_,_,_=>none
 | k+1,x9_48,x9_277,t242d5_1,t242d5_2,t254d5_1,x7_270=>if x9_277<((t242d5_2.length:Int)) then (if 0≤x9_277∧x9_277<(t242d5_2.length:Int) then (if 0≤(IntKind.u64.wrap x9_277) then (if 0≤(IntKind.u64.wrap (rd t242d5_2 x9_277)) then (laws_FnDiagramOrders.l1 k (wrap64 (x9_48+(shl .i64 (Go.bits .and .i64 (shr .i64 x7_270 (IntKind.u64.wrap x9_277)) 1) (IntKind.u64.wrap (rd t242d5_2 x9_277))))) (wrap64 (x9_277+1)) t242d5_1 t242d5_2 t254d5_1 x7_270) else (none)) else (none)) else (none)) else (if 0≤x9_48∧x9_48<(t242d5_1.length:Int) then (if (rd t242d5_1 x9_48)=(rd t254d5_1 x7_270) then (laws_FnDiagramOrders.l0 k (wrap64 (x7_270+1)) t242d5_1 t242d5_2 t254d5_1) else (none)) else (none))
end
def laws_FnDiagramOrders.f (k:Nat) (l0:List Int) (l1:List Int):Option (Bool):=(laws_big.f l0 l1).bind fun b53=>if b53=true then (some true) else ((spec_DrawCombineDiagrams.f k l0).bind fun b56=>(impl_CombineDiagrams.f k b56.1 b56.2.1 b56.2.2.1 b56.2.2.2.1 b56.2.2.2.2.1 b56.2.2.2.2.2.1 b56.2.2.2.2.2.2).bind fun b64=>(spec_CombineDiagrams.f k b56.1 b56.2.1 b56.2.2.1 b56.2.2.2.1 b56.2.2.2.2.1 b56.2.2.2.2.2.1 b56.2.2.2.2.2.2).bind fun b71=>if b64.2.2.2=true then (if b71.2.2.2=true then ((laws_pSameDiagram.f k b64.1 b64.2.1 b64.2.2.1 b71.1 b71.2.1 b71.2.2.1).bind fun b80=>if b80=true then (laws_FnDiagramOrders.j0 k l1 b56.1 b56.2.1 b56.2.2.1 b56.2.2.2.1 b56.2.2.2.2.1 b56.2.2.2.2.2.1 b56.2.2.2.2.2.2 b64.2.2.2 b71.1 b71.2.1 b71.2.2.1) else (none)) else (none)) else (if b71.2.2.2=true then (none) else ((laws_pSameDiagram.f k b64.1 b64.2.1 b64.2.2.1 b71.1 b71.2.1 b71.2.2.1).bind fun b80=>if b80=true then (laws_FnDiagramOrders.j0 k l1 b56.1 b56.2.1 b56.2.2.1 b56.2.2.2.1 b56.2.2.2.2.1 b56.2.2.2.2.2.1 b56.2.2.2.2.2.2 b64.2.2.2 b71.1 b71.2.1 b71.2.2.1) else (none))))
open Go.Proofs.Ytlnhpkjioppbiaa.Sep in
set_option maxHeartbeats 32000000 in
set_option maxRecDepth 100000 in
theorem laws_FnDiagramOrders.calls (k:Nat) (A0:Option Addr) (c0:Nat) (l0:List Int) (A1:Option Addr) (c1:Nat) (l1:List Int) (r:Bool) (w:World) (hr0:Kd.C (Kd.int .u8) w A0 l0.length l0) (hc0:l0.length≤c0) (hr1:Kd.C (Kd.int .u8) w A1 l1.length l1) (hc1:l1.length≤c1) (h:laws_FnDiagramOrders.f k l0 l1=some r) :
  Calls Try.prog 4 #[.slice A0 l0.length c0,.slice A1 l1.length c1] w fun e w'=>e = .returned (.bool r)∧Below w.heap.size w w':=by
 have HR0:=aM hr0
 have HC0:=aM hc0
 have HS_0:=aM (show ∃ A c,Value.slice A0 l0.length c0 = .slice A l0.length c∧Kd.C (Kd.int .u8) w A l0.length l0 from ⟨A0,c0,rfl,hr0⟩)
 clear hr0 hc0
 have HR1:=aM hr1
 have HC1:=aM hc1
 have HS_0:=aM (show ∃ A c,Value.slice A1 l1.length c1 = .slice A l1.length c∧Kd.C (Kd.int .u8) w A l1.length l1 from ⟨A1,c1,rfl,hr1⟩)
 clear hr1 hc1
 unfold laws_FnDiagramOrders.f at h
 have H:=h
 clear h
 obtain ⟨t53,A_,H_⟩:=oB.mp H
 clear H
 have H:=H_
 clear H_
 (try dsimp only at H)
 have A53:=aM A_
 clear A_
 go_enter Try.func4,Try.ntmps4
 go_upto_if 53 with (first | ((with_reducible refine gate_callee (f:=13) rfl ?_);refine goesL_ (some 53) rfl rfl Try.func13 (by kernel_rfl) rfl #[.slice A0 l0.length c0,.slice A1 l1.length c1] rfl ze_ ?_;(with_reducible refine (laws_big.calls A0 c0 l0 A1 c1 l1 t53 _ HR0.out HC0.out HR1.out HC1.out A53.out).mono ?_);rintro e w_1 ⟨rfl,hb⟩;refine ⟨_,rfl,?_⟩;have ho:=ow_drawn (Sep.Own.nil w) hb.out;clear hb;have HO_1:=aM ho;clear ho))
 by_cases c53_0_:t53=true
 ·subst c53_0_
  rw [if_pos rfl] at H;obtain rfl:=Option.some.inj H
  go_wp2
  (try simp only [Act.put,sI,s0,sS])
  go_ret
  exact ⟨rfl,HO_1.out.base⟩
 ·replace c53_0_:=Bool.eq_false_iff.mpr c53_0_
  subst c53_0_;rw [if_neg (show ¬ (false=true) by decide)] at H;obtain ⟨⟨t56_0,t56_1,t56_2,t56_3,t56_4,t56_5,t56_6⟩,A_,H_⟩:=oB.mp H;clear H;have H:=H_;clear H_;(try dsimp only at H);have A56:=aM A_;clear A_;obtain ⟨⟨t64_0,t64_1,t64_2,t64_3⟩,A_,H_⟩:=oB.mp H;clear H;have H:=H_;clear H_;(try dsimp only at H);have A64:=aM A_;clear A_;obtain ⟨⟨t71_0,t71_1,t71_2,t71_3⟩,A_,H_⟩:=oB.mp H;clear H;have H:=H_;clear H_;(try dsimp only at H);have A71:=aM A_;clear A_
  go_upto_region 4 with (first | ((with_reducible refine gate_callee (f:=14) rfl ?_);refine goesL_ (some 56) rfl rfl Try.func14 (by kernel_rfl) rfl #[.slice A0 l0.length c0] rfl ze_ ?_;(with_reducible refine (spec_DrawCombineDiagrams.calls k A0 c0 l0 t56_0 t56_1 t56_2 t56_3 t56_4 t56_5 t56_6 _ (by exact (Kd.C_below HR0.out HO_1.out.base)) HC0.out A56.out).mono ?_);rintro e w_2 ⟨x_56_0,x_56_1,rfl,ho1,ho2,hb⟩;refine ⟨_,rfl,?_⟩;have ho:=ow_add2 HO_1.out (fun hM=>by obtain rfl:=k93_openM hM;exact k93_mkM _ _ _ _) hb (ow_RI ho1) ho2;clear ho1 ho2 hb;obtain ⟨A_56_0,c_56_0,e_⟩:=ho.row_slice 0 rfl;subst e_;obtain ⟨A_56_1,c_56_1,e_⟩:=ho.row_slice 1 rfl;subst e_;have HO_2:=aM ho;clear ho)|((with_reducible refine gate_dst (N:=6) rfl ?_);refine box_event ?hg (N:=6) ?hd (cs:=#[.int .i64 0,.slice none 0 0,.int .i64 0]) (t:=28) ?hr ?_;(case hd=>rfl);(case hg=>rfl);(case hr=>exact za_);intro g6 hg w_3 hbox hb;have HO_3:=aM (HO_2.out.add_box (T:=28) (cs:=#[.int .i64 0,.slice none 0 0,.int .i64 0]) hg hbox hb);clear hg hbox hb)|((with_reducible refine gate_dst (N:=7) rfl ?_);refine box_event ?hg (N:=7) ?hd (cs:=#[.int .i64 0,.slice none 0 0,.int .i64 0]) (t:=28) ?hr ?_;(case hd=>rfl);(case hg=>rfl);(case hr=>exact za_);intro g7 hg w_4 hbox hb;have HO_4:=aM (HO_3.out.add_box (T:=28) (cs:=#[.int .i64 0,.slice none 0 0,.int .i64 0]) hg hbox hb);clear hg hbox hb)|((with_reducible refine gate_store (t:=28) (p:=6) (v := .tmp 58) rfl ?_);refine Sep.own_store HO_4.out 1 g6 28 _ #[.int .i64 t56_1,.slice A_56_0 t56_2.length c_56_0,.int .i64 t56_3] rfl rfl rfl 28 (.tmp 6) (.tmp 58) rfl rfl _ rfl rfl rfl (by kernel_rfl) (by simp [Value.oneCell']) ?_;intro w_5 ho;have HO_5:=aM ho;clear ho)|((with_reducible refine gate_store (t:=28) (p:=7) (v := .tmp 59) rfl ?_);refine Sep.own_store HO_5.out 0 g7 28 _ #[.int .i64 t56_4,.slice A_56_1 t56_5.length c_56_1,.int .i64 t56_6] rfl rfl rfl 28 (.tmp 7) (.tmp 59) rfl rfl _ rfl rfl rfl (by kernel_rfl) (by simp [Value.oneCell']) ?_;intro w_6 ho;have HO_6:=aM ho;clear ho;have z_1:w_6.cell? ⟨g6,0,none⟩=some (.int .i64 t56_1):=(HO_6.out.cell 1 rfl 0 rfl);have z_2:w_6.cell? ⟨g6,1,none⟩=some (.slice A_56_0 t56_2.length c_56_0):=(HO_6.out.cell 1 rfl 1 rfl);have z_3:w_6.cell? ⟨g6,2,none⟩=some (.int .i64 t56_3):=(HO_6.out.cell 1 rfl 2 rfl);have z_4:w_6.cell? ⟨g7,0,none⟩=some (.int .i64 t56_4):=(HO_6.out.cell 0 rfl 0 rfl);have z_5:w_6.cell? ⟨g7,1,none⟩=some (.slice A_56_1 t56_5.length c_56_1):=(HO_6.out.cell 0 rfl 1 rfl);have z_6:w_6.cell? ⟨g7,2,none⟩=some (.int .i64 t56_6):=(HO_6.out.cell 0 rfl 2 rfl)))
  as_aux_lemma =>
   go_upto_region 6 with (first | ((with_reducible refine gate_callee (f:=9) rfl ?_);refine goesL_ (some 64) rfl rfl Try.func9 (by kernel_rfl) rfl #[.int .i64 t56_0,.agg #[.int .i64 t56_1,.slice A_56_0 t56_2.length c_56_0,.int .i64 t56_3],.agg #[.int .i64 t56_4,.slice A_56_1 t56_5.length c_56_1,.int .i64 t56_6]] rfl ze_ ?_;(with_reducible refine (impl_CombineDiagrams.calls k t56_0 t56_1 A_56_0 c_56_0 t56_2 t56_3 t56_4 A_56_1 c_56_1 t56_5 t56_6 t64_0 t64_1 t64_2 t64_3 _ (HO_6.out.row_reads 2 rfl).2.2 (HO_6.out.row_reads 2 rfl).2.1 (HO_6.out.row_reads 3 rfl).2.2 (HO_6.out.row_reads 3 rfl).2.1 A64.out).mono ?_);rintro e w_7 ⟨x_64,rfl,ho1,hb⟩;refine ⟨_,rfl,?_⟩;have ho:=HO_6.out.add_row ho1 hb;clear ho1 hb;obtain ⟨A_64,c_64,e_⟩:=ho.row_slice 0 rfl;subst e_;have HO_7:=aM ho;clear ho)|((with_reducible refine gate_dst (N:=8) rfl ?_);refine box_event ?hg (N:=8) ?hd (cs:=#[.int .i64 0,.slice none 0 0,.int .i64 0]) (t:=28) ?hr ?_;(case hd=>rfl);(case hg=>rfl);(case hr=>exact za_);intro g8 hg w_8 hbox hb;have HO_8:=aM (HO_7.out.add_box (T:=28) (cs:=#[.int .i64 0,.slice none 0 0,.int .i64 0]) hg hbox hb);clear hg hbox hb)|((with_reducible refine gate_store (t:=28) (p:=8) (v := .tmp 65) rfl ?_);refine Sep.own_store HO_8.out 0 g8 28 _ #[.int .i64 t64_0,.slice A_64 t64_1.length c_64,.int .i64 t64_2] rfl rfl rfl 28 (.tmp 8) (.tmp 65) rfl rfl _ rfl rfl rfl (by kernel_rfl) (by simp [Value.oneCell']) ?_;intro w_9 ho;have HO_9:=aM ho;clear ho;have z_7:w_9.cell? ⟨g6,0,none⟩=some (.int .i64 t56_1):=(HO_9.out.cell 3 rfl 0 rfl);have z_8:w_9.cell? ⟨g6,1,none⟩=some (.slice A_56_0 t56_2.length c_56_0):=(HO_9.out.cell 3 rfl 1 rfl);have z_9:w_9.cell? ⟨g6,2,none⟩=some (.int .i64 t56_3):=(HO_9.out.cell 3 rfl 2 rfl);have z_10:w_9.cell? ⟨g7,0,none⟩=some (.int .i64 t56_4):=(HO_9.out.cell 2 rfl 0 rfl);have z_11:w_9.cell? ⟨g7,1,none⟩=some (.slice A_56_1 t56_5.length c_56_1):=(HO_9.out.cell 2 rfl 1 rfl);have z_12:w_9.cell? ⟨g7,2,none⟩=some (.int .i64 t56_6):=(HO_9.out.cell 2 rfl 2 rfl))|((with_reducible refine gate_callee (f:=7) rfl ?_);refine goesL_ (some 71) rfl rfl Try.func7 (by kernel_rfl) rfl #[.int .i64 t56_0,.agg #[.int .i64 t56_1,.slice A_56_0 t56_2.length c_56_0,.int .i64 t56_3],.agg #[.int .i64 t56_4,.slice A_56_1 t56_5.length c_56_1,.int .i64 t56_6]] rfl ze_ ?_;(with_reducible refine (spec_CombineDiagrams.calls k t56_0 t56_1 A_56_0 c_56_0 t56_2 t56_3 t56_4 A_56_1 c_56_1 t56_5 t56_6 t71_0 t71_1 t71_2 t71_3 _ (HO_9.out.row_reads 4 rfl).2.2 (HO_9.out.row_reads 4 rfl).2.1 (HO_9.out.row_reads 5 rfl).2.2 (HO_9.out.row_reads 5 rfl).2.1 A71.out).mono ?_);rintro e w_10 ⟨x_71,rfl,ho1,hb⟩;refine ⟨_,rfl,?_⟩;have ho:=HO_9.out.add_row ho1 hb;clear ho1 hb;obtain ⟨A_71,c_71,e_⟩:=ho.row_slice 0 rfl;subst e_;have HO_10:=aM ho;clear ho)|((with_reducible refine gate_dst (N:=10) rfl ?_);refine box_event ?hg (N:=10) ?hd (cs:=#[.int .i64 0,.slice none 0 0,.int .i64 0]) (t:=28) ?hr ?_;(case hd=>rfl);(case hg=>rfl);(case hr=>exact za_);intro g10 hg w_11 hbox hb;have HO_11:=aM (HO_10.out.add_box (T:=28) (cs:=#[.int .i64 0,.slice none 0 0,.int .i64 0]) hg hbox hb);clear hg hbox hb)|((with_reducible refine gate_store (t:=28) (p:=10) (v := .tmp 72) rfl ?_);refine Sep.own_store HO_11.out 0 g10 28 _ #[.int .i64 t71_0,.slice A_71 t71_1.length c_71,.int .i64 t71_2] rfl rfl rfl 28 (.tmp 10) (.tmp 72) rfl rfl _ rfl rfl rfl (by kernel_rfl) (by simp [Value.oneCell']) ?_;intro w_12 ho;have HO_12:=aM ho;clear ho))
   go_cut [82] (fun v82 wc => ∃ (kq:Nat),v82 = .bool false∧Aside0 (laws_FnDiagramOrders.j0 kq l1 t56_0 t56_1 t56_2 t56_3 t56_4 t56_5 t56_6 t64_3 t71_0 t71_1 t71_2=some r)∧Aside0 (kq≤k)∧Aside0 (Own w wc [Item.row k93 93 (.slice A_56_0 t56_2.length c_56_0) t56_2,Item.row k93 93 (.slice A_56_1 t56_5.length c_56_1) t56_5,Item.row k93 93 (.slice A_71 t71_1.length c_71) t71_1,Item.box g6 28 #[.int .i64 t56_1,.slice A_56_0 t56_2.length c_56_0,.int .i64 t56_3],Item.box g7 28 #[.int .i64 t56_4,.slice A_56_1 t56_5.length c_56_1,.int .i64 t56_6],Item.box g10 28 #[.int .i64 t71_0,.slice A_71 t71_1.length c_71,.int .i64 t71_2]]))
   case first =>
    as_aux_lemma =>
     by_cases c64_3_:t64_3=true
     ·subst c64_3_
      rw [if_pos rfl] at H
      by_cases c71_3_:t71_3=true
      ·subst c71_3_
       rw [if_pos rfl] at H;obtain ⟨t80,A_,H_⟩:=oB.mp H;clear H;have H:=H_;clear H_;(try dsimp only at H);have A80:=aM A_;clear A_
       by_cases c80_0_:t80=true
       ·subst c80_0_
        rw [if_pos rfl] at H;have z_13:w_12.cell? ⟨g8,0,none⟩=some (.int .i64 t64_0):=(HO_12.out.cell 2 rfl 0 rfl);have z_14:w_12.cell? ⟨g8,1,none⟩=some (.slice A_64 t64_1.length c_64):=(HO_12.out.cell 2 rfl 1 rfl);have z_15:w_12.cell? ⟨g8,2,none⟩=some (.int .i64 t64_2):=(HO_12.out.cell 2 rfl 2 rfl);have z_16:w_12.cell? ⟨g10,0,none⟩=some (.int .i64 t71_0):=(HO_12.out.cell 0 rfl 0 rfl);have z_17:w_12.cell? ⟨g10,1,none⟩=some (.slice A_71 t71_1.length c_71):=(HO_12.out.cell 0 rfl 1 rfl);have z_18:w_12.cell? ⟨g10,2,none⟩=some (.int .i64 t71_2):=(HO_12.out.cell 0 rfl 2 rfl)
        go_wp2_with (first | (go_at_call 15;(with_reducible refine (laws_pSameDiagram.calls k t64_0 A_64 c_64 t64_1 t64_2 t71_0 A_71 c_71 t71_1 t71_2 true _ (HO_12.out.row_reads 3 rfl).2.2 (HO_12.out.row_reads 3 rfl).2.1 (HO_12.out.row_reads 1 rfl).2.2 (HO_12.out.row_reads 1 rfl).2.1 A80.out).mono ?_);rintro e w_13 ⟨rfl,hb⟩;have ho:=HO_12.out.below hb;clear hb;have HO_13:=aM ho;clear ho))
        go_meet
        case rel=>exact ⟨k,zbf_,⟨H⟩,⟨by omega⟩,⟨((((((((HO_13.out.front 0 rfl).front 4 rfl).front 5 rfl).front 3 rfl).front 7 rfl).front 7 rfl).front 7 rfl).front 7 rfl).tail.tail⟩⟩
       ·replace c80_0_:=Bool.eq_false_iff.mpr c80_0_
        subst c80_0_;rw [if_neg (show ¬ (false=true) by decide)] at H;exact q3n_ H
      ·replace c71_3_:=Bool.eq_false_iff.mpr c71_3_
       subst c71_3_;rw [if_neg (show ¬ (false=true) by decide)] at H;exact q3n_ H
     ·replace c64_3_:=Bool.eq_false_iff.mpr c64_3_
      subst c64_3_;rw [if_neg (show ¬ (false=true) by decide)] at H
      by_cases c71_3_:t71_3=true
      ·subst c71_3_
       rw [if_pos rfl] at H;exact q3n_ H
      ·replace c71_3_:=Bool.eq_false_iff.mpr c71_3_
       subst c71_3_;rw [if_neg (show ¬ (false=true) by decide)] at H;obtain ⟨t80,A_,H_⟩:=oB.mp H;clear H;have H:=H_;clear H_;(try dsimp only at H);have A80:=aM A_;clear A_
       by_cases c80_0_:t80=true
       ·subst c80_0_
        rw [if_pos rfl] at H;have z_13:w_12.cell? ⟨g8,0,none⟩=some (.int .i64 t64_0):=(HO_12.out.cell 2 rfl 0 rfl);have z_14:w_12.cell? ⟨g8,1,none⟩=some (.slice A_64 t64_1.length c_64):=(HO_12.out.cell 2 rfl 1 rfl);have z_15:w_12.cell? ⟨g8,2,none⟩=some (.int .i64 t64_2):=(HO_12.out.cell 2 rfl 2 rfl);have z_16:w_12.cell? ⟨g10,0,none⟩=some (.int .i64 t71_0):=(HO_12.out.cell 0 rfl 0 rfl);have z_17:w_12.cell? ⟨g10,1,none⟩=some (.slice A_71 t71_1.length c_71):=(HO_12.out.cell 0 rfl 1 rfl);have z_18:w_12.cell? ⟨g10,2,none⟩=some (.int .i64 t71_2):=(HO_12.out.cell 0 rfl 2 rfl)
        go_wp2_with (first | (go_at_call 15;(with_reducible refine (laws_pSameDiagram.calls k t64_0 A_64 c_64 t64_1 t64_2 t71_0 A_71 c_71 t71_1 t71_2 true _ (HO_12.out.row_reads 3 rfl).2.2 (HO_12.out.row_reads 3 rfl).2.1 (HO_12.out.row_reads 1 rfl).2.2 (HO_12.out.row_reads 1 rfl).2.1 A80.out).mono ?_);rintro e w_13 ⟨rfl,hb⟩;have ho:=HO_12.out.below hb;clear hb;have HO_13:=aM ho;clear ho))
        go_meet
        case rel=>exact ⟨k,zbf_,⟨H⟩,⟨by omega⟩,⟨((((((((HO_13.out.front 0 rfl).front 4 rfl).front 5 rfl).front 3 rfl).front 7 rfl).front 7 rfl).front 7 rfl).front 7 rfl).tail.tail⟩⟩
       ·replace c80_0_:=Bool.eq_false_iff.mpr c80_0_
        subst c80_0_;rw [if_neg (show ¬ (false=true) by decide)] at H;exact q3n_ H
   case rest =>
    as_aux_lemma =>
     rename World=>wr1
     clear H HO_12;obtain ⟨kq_,rfl,HL_1,HK_1,HO_1⟩:=hcut
     cases kq_ with
     | zero=>exact absurd HL_1.out (by simp only [laws_FnDiagramOrders.j0];exact fun h_=>by cases h_)
     | succ kj1 =>
      have H:=HL_1.out;clear HL_1
      simp only [laws_FnDiagramOrders.j0] at H
      go_upto_if 83 with (fail)
      go_cut [4] (fun v4 wc => ∃ (kq:Nat),v4 = .bool false∧Aside0 (laws_FnDiagramOrders.j1 kq l1=some r)∧Aside0 (kq≤kj1)∧Aside0 (Own w wc []))
      case first =>
       as_aux_lemma =>
        by_cases c64_3_:t64_3=true
        ·subst c64_3_
         rw [if_pos rfl] at H;obtain ⟨⟨t86d1_0,t86d1_1,t86d1_2⟩,A_,H_⟩:=oB.mp H;clear H;have H:=H_;clear H_;(try dsimp only at H);have A86d1:=aM A_;clear A_;obtain ⟨⟨t91d1_0,t91d1_1,t91d1_2⟩,A_,H_⟩:=oB.mp H;clear H;have H:=H_;clear H_;(try dsimp only at H);have A91d1:=aM A_;clear A_;obtain ⟨⟨t98d1_0,t98d1_1,t98d1_2⟩,A_,H_⟩:=oB.mp H;clear H;have H:=H_;clear H_;(try dsimp only at H);have A98d1:=aM A_;clear A_;obtain ⟨⟨t103d1_0,t103d1_1,t103d1_2,t103d1_3⟩,A_,H_⟩:=oB.mp H;clear H;have H:=H_;clear H_;(try dsimp only at H);have A103d1:=aM A_;clear A_;have z_13:wr1.cell? ⟨g6,0,none⟩=some (.int .i64 t56_1):=(HO_1.out.cell 3 rfl 0 rfl);have z_14:wr1.cell? ⟨g6,1,none⟩=some (.slice A_56_0 t56_2.length c_56_0):=(HO_1.out.cell 3 rfl 1 rfl);have z_15:wr1.cell? ⟨g6,2,none⟩=some (.int .i64 t56_3):=(HO_1.out.cell 3 rfl 2 rfl)
         go_upto_region 11 with (first | ((with_reducible refine gate_callee (f:=16) rfl ?_);refine goesL_ (some 86) rfl rfl Try.func16 (by kernel_rfl) rfl #[.agg #[.int .i64 t56_1,.slice A_56_0 t56_2.length c_56_0,.int .i64 t56_3]] rfl ze_ ?_;(with_reducible refine (impl_TableOf.calls kj1 t56_1 A_56_0 c_56_0 t56_2 t56_3 t86d1_0 t86d1_1 t86d1_2 _ (HO_1.out.row_reads 0 rfl).2.2 (HO_1.out.row_reads 0 rfl).2.1 A86d1.out).mono ?_);rintro e w_1 ⟨x_86d1,rfl,ho1,hb⟩;refine ⟨_,rfl,?_⟩;have ho:=HO_1.out.add_row ho1 hb;clear ho1 hb;obtain ⟨A_86d1,c_86d1,e_⟩:=ho.row_slice 0 rfl;subst e_;have HO_1:=aM ho;clear ho)|((with_reducible refine gate_dst (N:=12) rfl ?_);refine box_event ?hg (N:=12) ?hd (cs:=#[.int .i64 0,.slice none 0 0]) (t:=41) ?hr ?_;(case hd=>rfl);(case hg=>rfl);(case hr=>exact za_);intro g12 hg w_2 hbox hb;have HO_2:=aM (HO_1.out.add_box (T:=41) (cs:=#[.int .i64 0,.slice none 0 0]) hg hbox hb);clear hg hbox hb)|((with_reducible refine gate_store (t:=41) (p:=12) (v := .tmp 87) rfl ?_);refine Sep.own_store HO_2.out 0 g12 41 _ #[.int .i64 t86d1_0,.slice A_86d1 t86d1_1.length c_86d1] rfl rfl rfl 41 (.tmp 12) (.tmp 87) rfl rfl _ rfl rfl rfl (by kernel_rfl) (by simp [Value.oneCell']) ?_;intro w_3 ho;have HO_3:=aM ho;clear ho;have z_16:w_3.cell? ⟨g7,0,none⟩=some (.int .i64 t56_4):=(HO_3.out.cell 6 rfl 0 rfl);have z_17:w_3.cell? ⟨g7,1,none⟩=some (.slice A_56_1 t56_5.length c_56_1):=(HO_3.out.cell 6 rfl 1 rfl);have z_18:w_3.cell? ⟨g7,2,none⟩=some (.int .i64 t56_6):=(HO_3.out.cell 6 rfl 2 rfl))|((with_reducible refine gate_callee (f:=16) rfl ?_);refine goesL_ (some 91) rfl rfl Try.func16 (by kernel_rfl) rfl #[.agg #[.int .i64 t56_4,.slice A_56_1 t56_5.length c_56_1,.int .i64 t56_6]] rfl ze_ ?_;(with_reducible refine (impl_TableOf.calls kj1 t56_4 A_56_1 c_56_1 t56_5 t56_6 t91d1_0 t91d1_1 t91d1_2 _ (HO_3.out.row_reads 3 rfl).2.2 (HO_3.out.row_reads 3 rfl).2.1 A91d1.out).mono ?_);rintro e w_4 ⟨x_91d1,rfl,ho1,hb⟩;refine ⟨_,rfl,?_⟩;have ho:=HO_3.out.add_row ho1 hb;clear ho1 hb;obtain ⟨A_91d1,c_91d1,e_⟩:=ho.row_slice 0 rfl;subst e_;have HO_4:=aM ho;clear ho)|((with_reducible refine gate_dst (N:=14) rfl ?_);refine box_event ?hg (N:=14) ?hd (cs:=#[.int .i64 0,.slice none 0 0]) (t:=41) ?hr ?_;(case hd=>rfl);(case hg=>rfl);(case hr=>exact za_);intro g14 hg w_5 hbox hb;have HO_5:=aM (HO_4.out.add_box (T:=41) (cs:=#[.int .i64 0,.slice none 0 0]) hg hbox hb);clear hg hbox hb)|((with_reducible refine gate_store (t:=41) (p:=14) (v := .tmp 92) rfl ?_);refine Sep.own_store HO_5.out 0 g14 41 _ #[.int .i64 t91d1_0,.slice A_91d1 t91d1_1.length c_91d1] rfl rfl rfl 41 (.tmp 14) (.tmp 92) rfl rfl _ rfl rfl rfl (by kernel_rfl) (by simp [Value.oneCell']) ?_;intro w_6 ho;have HO_6:=aM ho;clear ho;have z_19:w_6.cell? ⟨g12,0,none⟩=some (.int .i64 t86d1_0):=(HO_6.out.cell 2 rfl 0 rfl);have z_20:w_6.cell? ⟨g12,1,none⟩=some (.slice A_86d1 t86d1_1.length c_86d1):=(HO_6.out.cell 2 rfl 1 rfl);have z_21:w_6.cell? ⟨g14,0,none⟩=some (.int .i64 t91d1_0):=(HO_6.out.cell 0 rfl 0 rfl);have z_22:w_6.cell? ⟨g14,1,none⟩=some (.slice A_91d1 t91d1_1.length c_91d1):=(HO_6.out.cell 0 rfl 1 rfl)))
         as_aux_lemma =>
          go_upto_region 13 with (first | ((with_reducible refine gate_callee (f:=17) rfl ?_);refine goesL_ (some 98) rfl rfl Try.func17 (by kernel_rfl) rfl #[.int .i64 t56_0,.agg #[.int .i64 t86d1_0,.slice A_86d1 t86d1_1.length c_86d1],.agg #[.int .i64 t91d1_0,.slice A_91d1 t91d1_1.length c_91d1]] rfl ze_ ?_;(with_reducible refine (impl_CombineTables.calls kj1 t56_0 t86d1_0 A_86d1 c_86d1 t86d1_1 t91d1_0 A_91d1 c_91d1 t91d1_1 t98d1_0 t98d1_1 t98d1_2 _ (HO_6.out.row_reads 3 rfl).2.2 (HO_6.out.row_reads 3 rfl).2.1 (HO_6.out.row_reads 1 rfl).2.2 (HO_6.out.row_reads 1 rfl).2.1 A98d1.out).mono ?_);rintro e w_7 ⟨x_98d1,rfl,ho1,hb⟩;refine ⟨_,rfl,?_⟩;have ho:=HO_6.out.add_row ho1 hb;clear ho1 hb;obtain ⟨A_98d1,c_98d1,e_⟩:=ho.row_slice 0 rfl;subst e_;have HO_7:=aM ho;clear ho)|((with_reducible refine gate_dst (N:=16) rfl ?_);refine box_event ?hg (N:=16) ?hd (cs:=#[.int .i64 0,.slice none 0 0]) (t:=41) ?hr ?_;(case hd=>rfl);(case hg=>rfl);(case hr=>exact za_);intro g16 hg w_8 hbox hb;have HO_8:=aM (HO_7.out.add_box (T:=41) (cs:=#[.int .i64 0,.slice none 0 0]) hg hbox hb);clear hg hbox hb)|((with_reducible refine gate_store (t:=41) (p:=16) (v := .tmp 99) rfl ?_);refine Sep.own_store HO_8.out 0 g16 41 _ #[.int .i64 t98d1_0,.slice A_98d1 t98d1_1.length c_98d1] rfl rfl rfl 41 (.tmp 16) (.tmp 99) rfl rfl _ rfl rfl rfl (by kernel_rfl) (by simp [Value.oneCell']) ?_;intro w_9 ho;have HO_9:=aM ho;clear ho;have z_23:w_9.cell? ⟨g16,0,none⟩=some (.int .i64 t98d1_0):=(HO_9.out.cell 0 rfl 0 rfl);have z_24:w_9.cell? ⟨g16,1,none⟩=some (.slice A_98d1 t98d1_1.length c_98d1):=(HO_9.out.cell 0 rfl 1 rfl))|((with_reducible refine gate_callee (f:=18) rfl ?_);refine goesL_ (some 103) rfl rfl Try.func18 (by kernel_rfl) rfl #[.agg #[.int .i64 t98d1_0,.slice A_98d1 t98d1_1.length c_98d1]] rfl ze_ ?_;(with_reducible refine (impl_DiagramOf.calls kj1 t98d1_0 A_98d1 c_98d1 t98d1_1 t103d1_0 t103d1_1 t103d1_2 t103d1_3 _ (HO_9.out.row_reads 1 rfl).2.2 (HO_9.out.row_reads 1 rfl).2.1 A103d1.out).mono ?_);rintro e w_10 ⟨x_103d1,rfl,ho1,hb⟩;refine ⟨_,rfl,?_⟩;have ho:=HO_9.out.add_row ho1 hb;clear ho1 hb;obtain ⟨A_103d1,c_103d1,e_⟩:=ho.row_slice 0 rfl;subst e_;have HO_10:=aM ho;clear ho)|((with_reducible refine gate_dst (N:=18) rfl ?_);refine box_event ?hg (N:=18) ?hd (cs:=#[.int .i64 0,.slice none 0 0,.int .i64 0]) (t:=28) ?hr ?_;(case hd=>rfl);(case hg=>rfl);(case hr=>exact za_);intro g18 hg w_11 hbox hb;have HO_11:=aM (HO_10.out.add_box (T:=28) (cs:=#[.int .i64 0,.slice none 0 0,.int .i64 0]) hg hbox hb);clear hg hbox hb)|((with_reducible refine gate_store (t:=28) (p:=18) (v := .tmp 104) rfl ?_);refine Sep.own_store HO_11.out 0 g18 28 _ #[.int .i64 t103d1_0,.slice A_103d1 t103d1_1.length c_103d1,.int .i64 t103d1_2] rfl rfl rfl 28 (.tmp 18) (.tmp 104) rfl rfl _ rfl rfl rfl (by kernel_rfl) (by simp [Value.oneCell']) ?_;intro w_12 ho;have HO_12:=aM ho;clear ho))
          by_cases c86_2_1:t86d1_2=true
          ·subst c86_2_1
           rw [if_pos rfl] at H
           by_cases c91_2_1:t91d1_2=true
           ·subst c91_2_1
            rw [if_pos rfl] at H
            by_cases c98_2_1:t98d1_2=true
            ·subst c98_2_1
             rw [if_pos rfl] at H
             by_cases c103_3_1:t103d1_3=true
             ·subst c103_3_1
              rw [if_pos rfl] at H;obtain ⟨t123d1,A_,H_⟩:=oB.mp H;clear H;have H:=H_;clear H_;(try dsimp only at H);have A123d1:=aM A_;clear A_
              by_cases c123_0_1:t123d1=true
              ·subst c123_0_1
               rw [if_pos rfl] at H;have z_25:w_12.cell? ⟨g18,0,none⟩=some (.int .i64 t103d1_0):=(HO_12.out.cell 0 rfl 0 rfl);have z_26:w_12.cell? ⟨g18,1,none⟩=some (.slice A_103d1 t103d1_1.length c_103d1):=(HO_12.out.cell 0 rfl 1 rfl);have z_27:w_12.cell? ⟨g18,2,none⟩=some (.int .i64 t103d1_2):=(HO_12.out.cell 0 rfl 2 rfl);have z_28:w_12.cell? ⟨g10,0,none⟩=some (.int .i64 t71_0):=(HO_12.out.cell 13 rfl 0 rfl);have z_29:w_12.cell? ⟨g10,1,none⟩=some (.slice A_71 t71_1.length c_71):=(HO_12.out.cell 13 rfl 1 rfl);have z_30:w_12.cell? ⟨g10,2,none⟩=some (.int .i64 t71_2):=(HO_12.out.cell 13 rfl 2 rfl)
               go_wp2_with (first | (go_at_call 15;(with_reducible refine (laws_pSameDiagram.calls kj1 t103d1_0 A_103d1 c_103d1 t103d1_1 t103d1_2 t71_0 A_71 c_71 t71_1 t71_2 true _ (HO_12.out.row_reads 1 rfl).2.2 (HO_12.out.row_reads 1 rfl).2.1 (HO_12.out.row_reads 10 rfl).2.2 (HO_12.out.row_reads 10 rfl).2.1 A123d1.out).mono ?_);rintro e w_13 ⟨rfl,hb⟩;have ho:=HO_12.out.below hb;clear hb;have HO_13:=aM ho;clear ho))
               go_meet
               case rel=>exact ⟨kj1,zbf_,⟨H⟩,⟨zga_⟩,⟨((((((((((((((HO_13.out.front 13 rfl).front 13 rfl).front 13 rfl).front 13 rfl).front 13 rfl).front 13 rfl).front 13 rfl).front 13 rfl).front 13 rfl).front 13 rfl).front 13 rfl).front 13 rfl).front 13 rfl).front 13 rfl).tail.tail.tail.tail.tail.tail.tail.tail.tail.tail.tail.tail.tail.tail⟩⟩
              ·replace c123_0_1:=Bool.eq_false_iff.mpr c123_0_1
               subst c123_0_1;rw [if_neg (show ¬ (false=true) by decide)] at H;exact q3n_ H
             ·replace c103_3_1:=Bool.eq_false_iff.mpr c103_3_1
              subst c103_3_1;rw [if_neg (show ¬ (false=true) by decide)] at H;exact q3n_ H
            ·replace c98_2_1:=Bool.eq_false_iff.mpr c98_2_1
             subst c98_2_1;rw [if_neg (show ¬ (false=true) by decide)] at H;exact q3n_ H
           ·replace c91_2_1:=Bool.eq_false_iff.mpr c91_2_1
            subst c91_2_1;rw [if_neg (show ¬ (false=true) by decide)] at H;exact q3n_ H
          ·replace c86_2_1:=Bool.eq_false_iff.mpr c86_2_1
           subst c86_2_1;rw [if_neg (show ¬ (false=true) by decide)] at H;exact q3n_ H
        ·replace c64_3_:=Bool.eq_false_iff.mpr c64_3_
         subst c64_3_;rw [if_neg (show ¬ (false=true) by decide)] at H
         go_wp2
         go_meet
         case rel=>exact ⟨kj1,zbf_,⟨H⟩,⟨zga_⟩,⟨((((((HO_1.out.front 5 rfl).front 5 rfl).front 5 rfl).front 5 rfl).front 5 rfl).front 5 rfl).tail.tail.tail.tail.tail.tail⟩⟩
      case rest =>
       as_aux_lemma =>
        rename World=>wr2
        clear H HO_1;obtain ⟨kq_,rfl,HL_2,HK_2,HO_2⟩:=hcut
        cases kq_ with
        | zero=>exact absurd HL_2.out (by simp only [laws_FnDiagramOrders.j1];exact fun h_=>by cases h_)
        | succ kj2 =>
         have H:=HL_2.out;clear HL_2
         simp only [laws_FnDiagramOrders.j1] at H
         obtain ⟨⟨t128d2_0,t128d2_1,t128d2_2,t128d2_3,t128d2_4⟩,A_,H_⟩:=oB.mp H;clear H;have H:=H_;clear H_;(try dsimp only at H);have A128d2:=aM A_;clear A_;obtain ⟨⟨t136d2_0,t136d2_1,t136d2_2,t136d2_3⟩,A_,H_⟩:=oB.mp H;clear H;have H:=H_;clear H_;(try dsimp only at H);have A136d2:=aM A_;clear A_;obtain ⟨⟨t143d2_0,t143d2_1,t143d2_2,t143d2_3⟩,A_,H_⟩:=oB.mp H;clear H;have H:=H_;clear H_;(try dsimp only at H);have A143d2:=aM A_;clear A_
         go_upto_region 17 with (first | ((with_reducible refine gate_callee (f:=19) rfl ?_);refine goesL_ (some 128) rfl rfl Try.func19 (by kernel_rfl) rfl #[.slice A1 l1.length c1] rfl ze_ ?_;(with_reducible refine (spec_DrawFixDiagram.calls kj2 A1 c1 l1 t128d2_0 t128d2_1 t128d2_2 t128d2_3 t128d2_4 _ (by exact (Kd.C_below HR1.out HO_2.out.base)) HC1.out A128d2.out).mono ?_);rintro e w_1 ⟨x_128d2,rfl,ho1,hb⟩;refine ⟨_,rfl,?_⟩;have ho:=HO_2.out.add_row ho1 hb;clear ho1 hb;obtain ⟨A_128d2,c_128d2,e_⟩:=ho.row_slice 0 rfl;subst e_;have HO_1:=aM ho;clear ho)|((with_reducible refine gate_dst (N:=20) rfl ?_);refine box_event ?hg (N:=20) ?hd (cs:=#[.int .i64 0,.slice none 0 0,.int .i64 0]) (t:=28) ?hr ?_;(case hd=>rfl);(case hg=>rfl);(case hr=>exact za_);intro g20 hg w_2 hbox hb;have HO_2:=aM (HO_1.out.add_box (T:=28) (cs:=#[.int .i64 0,.slice none 0 0,.int .i64 0]) hg hbox hb);clear hg hbox hb)|((with_reducible refine gate_store (t:=28) (p:=20) (v := .tmp 129) rfl ?_);refine Sep.own_store HO_2.out 0 g20 28 _ #[.int .i64 t128d2_0,.slice A_128d2 t128d2_1.length c_128d2,.int .i64 t128d2_2] rfl rfl rfl 28 (.tmp 20) (.tmp 129) rfl rfl _ rfl rfl rfl (by kernel_rfl) (by simp [Value.oneCell']) ?_;intro w_3 ho;have HO_3:=aM ho;clear ho;have z_13:w_3.cell? ⟨g20,0,none⟩=some (.int .i64 t128d2_0):=(HO_3.out.cell 0 rfl 0 rfl);have z_14:w_3.cell? ⟨g20,1,none⟩=some (.slice A_128d2 t128d2_1.length c_128d2):=(HO_3.out.cell 0 rfl 1 rfl);have z_15:w_3.cell? ⟨g20,2,none⟩=some (.int .i64 t128d2_2):=(HO_3.out.cell 0 rfl 2 rfl))|((with_reducible refine gate_callee (f:=20) rfl ?_);refine goesL_ (some 136) rfl rfl Try.func20 (by kernel_rfl) rfl #[.agg #[.int .i64 t128d2_0,.slice A_128d2 t128d2_1.length c_128d2,.int .i64 t128d2_2],.int .i64 t128d2_3,.int .i64 t128d2_4] rfl ze_ ?_;(with_reducible refine (impl_FixDiagram.calls kj2 t128d2_0 A_128d2 c_128d2 t128d2_1 t128d2_2 t128d2_3 t128d2_4 t136d2_0 t136d2_1 t136d2_2 t136d2_3 _ (HO_3.out.row_reads 1 rfl).2.2 (HO_3.out.row_reads 1 rfl).2.1 A136d2.out).mono ?_);rintro e w_4 ⟨x_136d2,rfl,ho1,hb⟩;refine ⟨_,rfl,?_⟩;have ho:=HO_3.out.add_row ho1 hb;clear ho1 hb;obtain ⟨A_136d2,c_136d2,e_⟩:=ho.row_slice 0 rfl;subst e_;have HO_4:=aM ho;clear ho)|((with_reducible refine gate_dst (N:=23) rfl ?_);refine box_event ?hg (N:=23) ?hd (cs:=#[.int .i64 0,.slice none 0 0,.int .i64 0]) (t:=28) ?hr ?_;(case hd=>rfl);(case hg=>rfl);(case hr=>exact za_);intro g23 hg w_5 hbox hb;have HO_5:=aM (HO_4.out.add_box (T:=28) (cs:=#[.int .i64 0,.slice none 0 0,.int .i64 0]) hg hbox hb);clear hg hbox hb)|((with_reducible refine gate_store (t:=28) (p:=23) (v := .tmp 137) rfl ?_);refine Sep.own_store HO_5.out 0 g23 28 _ #[.int .i64 t136d2_0,.slice A_136d2 t136d2_1.length c_136d2,.int .i64 t136d2_2] rfl rfl rfl 28 (.tmp 23) (.tmp 137) rfl rfl _ rfl rfl rfl (by kernel_rfl) (by simp [Value.oneCell']) ?_;intro w_6 ho;have HO_6:=aM ho;clear ho;have z_16:w_6.cell? ⟨g20,0,none⟩=some (.int .i64 t128d2_0):=(HO_6.out.cell 2 rfl 0 rfl);have z_17:w_6.cell? ⟨g20,1,none⟩=some (.slice A_128d2 t128d2_1.length c_128d2):=(HO_6.out.cell 2 rfl 1 rfl);have z_18:w_6.cell? ⟨g20,2,none⟩=some (.int .i64 t128d2_2):=(HO_6.out.cell 2 rfl 2 rfl)))
         as_aux_lemma =>
          go_upto_region 18 with (first | ((with_reducible refine gate_callee (f:=21) rfl ?_);refine goesL_ (some 143) rfl rfl Try.func21 (by kernel_rfl) rfl #[.agg #[.int .i64 t128d2_0,.slice A_128d2 t128d2_1.length c_128d2,.int .i64 t128d2_2],.int .i64 t128d2_3,.int .i64 t128d2_4] rfl ze_ ?_;(with_reducible refine (spec_FixDiagram.calls kj2 t128d2_0 A_128d2 c_128d2 t128d2_1 t128d2_2 t128d2_3 t128d2_4 t143d2_0 t143d2_1 t143d2_2 t143d2_3 _ (HO_6.out.row_reads 3 rfl).2.2 (HO_6.out.row_reads 3 rfl).2.1 A143d2.out).mono ?_);rintro e w_7 ⟨x_143d2,rfl,ho1,hb⟩;refine ⟨_,rfl,?_⟩;have ho:=HO_6.out.add_row ho1 hb;clear ho1 hb;obtain ⟨A_143d2,c_143d2,e_⟩:=ho.row_slice 0 rfl;subst e_;have HO_7:=aM ho;clear ho)|((with_reducible refine gate_dst (N:=25) rfl ?_);refine box_event ?hg (N:=25) ?hd (cs:=#[.int .i64 0,.slice none 0 0,.int .i64 0]) (t:=28) ?hr ?_;(case hd=>rfl);(case hg=>rfl);(case hr=>exact za_);intro g25 hg w_8 hbox hb;have HO_8:=aM (HO_7.out.add_box (T:=28) (cs:=#[.int .i64 0,.slice none 0 0,.int .i64 0]) hg hbox hb);clear hg hbox hb)|((with_reducible refine gate_store (t:=28) (p:=25) (v := .tmp 144) rfl ?_);refine Sep.own_store HO_8.out 0 g25 28 _ #[.int .i64 t143d2_0,.slice A_143d2 t143d2_1.length c_143d2,.int .i64 t143d2_2] rfl rfl rfl 28 (.tmp 25) (.tmp 144) rfl rfl _ rfl rfl rfl (by kernel_rfl) (by simp [Value.oneCell']) ?_;intro w_9 ho;have HO_9:=aM ho;clear ho))
          go_cut [170] (fun v170 wc => ∃ (kq:Nat),v170 = .bool false∧Aside0 (laws_FnDiagramOrders.j2 kq l1=some r)∧Aside0 (kq≤kj2)∧Aside0 (Own w wc []))
          case first =>
           as_aux_lemma =>
            by_cases c136_3_2:t136d2_3=true
            ·subst c136_3_2
             rw [if_pos rfl] at H
             by_cases c143_3_2:t143d2_3=true
             ·subst c143_3_2
              rw [if_pos rfl] at H;obtain ⟨t152d2,A_,H_⟩:=oB.mp H;clear H;have H:=H_;clear H_;(try dsimp only at H);have A152d2:=aM A_;clear A_
              by_cases c152_0_2:t152d2=true
              ·subst c152_0_2
               rw [if_pos rfl] at H
               by_cases c163_2:t143d2_0=(wrap64 (t128d2_0 - 1))
               ·rw [if_pos c163_2] at H
                have c163_2b0:(t143d2_0 == (wrap64 (t128d2_0 - 1)))=true:=(by simpa using c163_2);have c163_2b1:(t143d2_0 != (wrap64 (t128d2_0 - 1)))=false:=(by simpa using c163_2);have c163_2b2:decide (t143d2_0=(wrap64 (t128d2_0 - 1)))=true:=(by simpa using c163_2);clear c163_2;obtain ⟨t166d2,A_,H_⟩:=oB.mp H;clear H;have H:=H_;clear H_;(try dsimp only at H);have A166d2:=aM A_;clear A_
                by_cases c166_0_2:t166d2=true
                ·subst c166_0_2
                 rw [if_pos rfl] at H;have z_19:w_9.cell? ⟨g23,0,none⟩=some (.int .i64 t136d2_0):=(HO_9.out.cell 2 rfl 0 rfl);have z_20:w_9.cell? ⟨g23,1,none⟩=some (.slice A_136d2 t136d2_1.length c_136d2):=(HO_9.out.cell 2 rfl 1 rfl);have z_21:w_9.cell? ⟨g23,2,none⟩=some (.int .i64 t136d2_2):=(HO_9.out.cell 2 rfl 2 rfl);have z_22:w_9.cell? ⟨g25,0,none⟩=some (.int .i64 t143d2_0):=(HO_9.out.cell 0 rfl 0 rfl);have z_23:w_9.cell? ⟨g25,1,none⟩=some (.slice A_143d2 t143d2_1.length c_143d2):=(HO_9.out.cell 0 rfl 1 rfl);have z_24:w_9.cell? ⟨g25,2,none⟩=some (.int .i64 t143d2_2):=(HO_9.out.cell 0 rfl 2 rfl)
                 go_wp2_with (first | (go_at_call 15;(with_reducible refine (laws_pSameDiagram.calls kj2 t136d2_0 A_136d2 c_136d2 t136d2_1 t136d2_2 t143d2_0 A_143d2 c_143d2 t143d2_1 t143d2_2 true _ (HO_9.out.row_reads 3 rfl).2.2 (HO_9.out.row_reads 3 rfl).2.1 (HO_9.out.row_reads 1 rfl).2.2 (HO_9.out.row_reads 1 rfl).2.1 A152d2.out).mono ?_);rintro e w_10 ⟨rfl,hb⟩;have ho:=HO_9.out.below hb;clear hb;have HO_10:=aM ho;clear ho;have z_25:w_10.cell? ⟨g25,0,none⟩=some (.int .i64 t143d2_0):=(HO_10.out.cell 0 rfl 0 rfl);have z_26:w_10.cell? ⟨g20,0,none⟩=some (.int .i64 t128d2_0):=(HO_10.out.cell 4 rfl 0 rfl);have z_27:w_10.cell? ⟨g23,0,none⟩=some (.int .i64 t136d2_0):=(HO_10.out.cell 2 rfl 0 rfl);have z_28:w_10.cell? ⟨g23,1,none⟩=some (.slice A_136d2 t136d2_1.length c_136d2):=(HO_10.out.cell 2 rfl 1 rfl);have z_29:w_10.cell? ⟨g23,2,none⟩=some (.int .i64 t136d2_2):=(HO_10.out.cell 2 rfl 2 rfl))|(go_at_call 22;(with_reducible refine (impl_IsDiagram.calls kj2 t136d2_0 A_136d2 c_136d2 t136d2_1 t136d2_2 true _ (HO_10.out.row_reads 3 rfl).2.2 (HO_10.out.row_reads 3 rfl).2.1 A166d2.out).mono ?_);rintro e w_11 ⟨rfl,hb⟩;have ho:=HO_10.out.below hb;clear hb;have HO_11:=aM ho;clear ho))
                 go_meet
                 case rel=>exact ⟨kj2,zbf_,⟨H⟩,⟨by have h1_:=HK_1.out;have h2_:=HK_2.out;omega⟩,⟨((((((HO_11.out.front 5 rfl).front 5 rfl).front 5 rfl).front 5 rfl).front 5 rfl).front 5 rfl).tail.tail.tail.tail.tail.tail⟩⟩
                ·replace c166_0_2:=Bool.eq_false_iff.mpr c166_0_2
                 subst c166_0_2;rw [if_neg (show ¬ (false=true) by decide)] at H;exact q3n_ H
               ·rw [if_neg c163_2] at H
                have c163_2b0:(t143d2_0 == (wrap64 (t128d2_0 - 1)))=false:=(by simpa using c163_2);have c163_2b1:(t143d2_0 != (wrap64 (t128d2_0 - 1)))=true:=(by simpa using c163_2);have c163_2b2:decide (t143d2_0=(wrap64 (t128d2_0 - 1)))=false:=(by simpa using c163_2);clear c163_2;exact q3n_ H
              ·replace c152_0_2:=Bool.eq_false_iff.mpr c152_0_2
               subst c152_0_2;rw [if_neg (show ¬ (false=true) by decide)] at H;exact q3n_ H
             ·replace c143_3_2:=Bool.eq_false_iff.mpr c143_3_2
              subst c143_3_2;rw [if_neg (show ¬ (false=true) by decide)] at H;exact q3n_ H
            ·replace c136_3_2:=Bool.eq_false_iff.mpr c136_3_2
             subst c136_3_2;rw [if_neg (show ¬ (false=true) by decide)] at H
             by_cases c143_3_2:t143d2_3=true
             ·subst c143_3_2
              rw [if_pos rfl] at H;exact q3n_ H
             ·replace c143_3_2:=Bool.eq_false_iff.mpr c143_3_2
              subst c143_3_2;rw [if_neg (show ¬ (false=true) by decide)] at H;obtain ⟨t152d2,A_,H_⟩:=oB.mp H;clear H;have H:=H_;clear H_;(try dsimp only at H);have A152d2:=aM A_;clear A_
              by_cases c152_0_2:t152d2=true
              ·subst c152_0_2
               rw [if_pos rfl] at H;have z_19:w_9.cell? ⟨g23,0,none⟩=some (.int .i64 t136d2_0):=(HO_9.out.cell 2 rfl 0 rfl);have z_20:w_9.cell? ⟨g23,1,none⟩=some (.slice A_136d2 t136d2_1.length c_136d2):=(HO_9.out.cell 2 rfl 1 rfl);have z_21:w_9.cell? ⟨g23,2,none⟩=some (.int .i64 t136d2_2):=(HO_9.out.cell 2 rfl 2 rfl);have z_22:w_9.cell? ⟨g25,0,none⟩=some (.int .i64 t143d2_0):=(HO_9.out.cell 0 rfl 0 rfl);have z_23:w_9.cell? ⟨g25,1,none⟩=some (.slice A_143d2 t143d2_1.length c_143d2):=(HO_9.out.cell 0 rfl 1 rfl);have z_24:w_9.cell? ⟨g25,2,none⟩=some (.int .i64 t143d2_2):=(HO_9.out.cell 0 rfl 2 rfl)
               go_wp2_with (first | (go_at_call 15;(with_reducible refine (laws_pSameDiagram.calls kj2 t136d2_0 A_136d2 c_136d2 t136d2_1 t136d2_2 t143d2_0 A_143d2 c_143d2 t143d2_1 t143d2_2 true _ (HO_9.out.row_reads 3 rfl).2.2 (HO_9.out.row_reads 3 rfl).2.1 (HO_9.out.row_reads 1 rfl).2.2 (HO_9.out.row_reads 1 rfl).2.1 A152d2.out).mono ?_);rintro e w_10 ⟨rfl,hb⟩;have ho:=HO_9.out.below hb;clear hb;have HO_10:=aM ho;clear ho))
               go_meet
               case rel=>exact ⟨kj2,zbf_,⟨H⟩,⟨by have h1_:=HK_1.out;have h2_:=HK_2.out;omega⟩,⟨((((((HO_10.out.front 5 rfl).front 5 rfl).front 5 rfl).front 5 rfl).front 5 rfl).front 5 rfl).tail.tail.tail.tail.tail.tail⟩⟩
              ·replace c152_0_2:=Bool.eq_false_iff.mpr c152_0_2
               subst c152_0_2;rw [if_neg (show ¬ (false=true) by decide)] at H;exact q3n_ H
          case rest =>
           as_aux_lemma =>
            rename World=>wr3
            clear H HO_9;obtain ⟨kq_,rfl,HL_3,HK_3,HO_3⟩:=hcut
            cases kq_ with
            | zero=>exact absurd HL_3.out (by simp only [laws_FnDiagramOrders.j2];exact fun h_=>by cases h_)
            | succ kj3 =>
             have H:=HL_3.out;clear HL_3
             simp only [laws_FnDiagramOrders.j2] at H
             obtain ⟨⟨t172d3_0,t172d3_1⟩,A_,H_⟩:=oB.mp H;clear H;have H:=H_;clear H_;(try dsimp only at H);have A172d3:=aM A_;clear A_;obtain ⟨⟨t175d3_0,t175d3_1,t175d3_2⟩,A_,H_⟩:=oB.mp H;clear H;have H:=H_;clear H_;(try dsimp only at H);have A175d3:=aM A_;clear A_;obtain ⟨⟨t181d3_0,t181d3_1,t181d3_2⟩,A_,H_⟩:=oB.mp H;clear H;have H:=H_;clear H_;(try dsimp only at H);have A181d3:=aM A_;clear A_
             go_upto_region 23 with (first | ((with_reducible refine gate_callee (f:=23) rfl ?_);refine goesL_ (some 172) rfl rfl Try.func23 (by kernel_rfl) rfl #[.slice A1 l1.length c1] rfl ze_ ?_;(with_reducible refine (spec_DrawBestOrder.calls kj3 A1 c1 l1 t172d3_0 t172d3_1 _ (by exact (Kd.C_below HR1.out HO_3.out.base)) HC1.out A172d3.out).mono ?_);rintro e w_1 ⟨x_172d3,rfl,ho1,hb⟩;refine ⟨_,rfl,?_⟩;have ho:=ow_add_q HO_3.out ho1 hb;clear ho1 hb;obtain ⟨A_172d3,c_172d3,e_⟩:=ow_q_slice ho 0 rfl;subst e_;have HO_1:=aM ho;clear ho)|((with_reducible refine gate_dst (N:=27) rfl ?_);refine box_event ?hg (N:=27) ?hd (cs:=#[.int .i64 0,.slice none 0 0]) (t:=41) ?hr ?_;(case hd=>rfl);(case hg=>rfl);(case hr=>exact za_);intro g27 hg w_2 hbox hb;have HO_2:=aM (HO_1.out.add_box (T:=41) (cs:=#[.int .i64 0,.slice none 0 0]) hg hbox hb);clear hg hbox hb)|((with_reducible refine gate_store (t:=41) (p:=27) (v := .tmp 172) rfl ?_);refine Sep.own_store HO_2.out 0 g27 41 _ #[.int .i64 t172d3_0,.slice A_172d3 t172d3_1.length c_172d3] rfl rfl rfl 41 (.tmp 27) (.tmp 172) rfl rfl _ rfl rfl rfl (by kernel_rfl) (by simp [Value.oneCell']) ?_;intro w_3 ho;have HO_3:=aM ho;clear ho;have z_19:w_3.cell? ⟨g27,0,none⟩=some (.int .i64 t172d3_0):=(HO_3.out.cell 0 rfl 0 rfl);have z_20:w_3.cell? ⟨g27,1,none⟩=some (.slice A_172d3 t172d3_1.length c_172d3):=(HO_3.out.cell 0 rfl 1 rfl))|((with_reducible refine gate_callee (f:=24) rfl ?_);refine goesL_ (some 175) rfl rfl Try.func24 (by kernel_rfl) rfl #[.agg #[.int .i64 t172d3_0,.slice A_172d3 t172d3_1.length c_172d3]] rfl ze_ ?_;(with_reducible refine (impl_BestOrder.calls kj3 t172d3_0 A_172d3 c_172d3 t172d3_1 t175d3_0 t175d3_1 t175d3_2 _ (ow_q_reads HO_3.out 1 rfl).2.2 (ow_q_reads HO_3.out 1 rfl).2.1 A175d3.out).mono ?_);rintro e w_4 ⟨x_175d3,rfl,ho1,hb⟩;refine ⟨_,rfl,?_⟩;have ho:=HO_3.out.add_row ho1 hb;clear ho1 hb;obtain ⟨A_175d3,c_175d3,e_⟩:=ho.row_slice 0 rfl;subst e_;have HO_4:=aM ho;clear ho;have z_21:w_4.cell? ⟨g27,0,none⟩=some (.int .i64 t172d3_0):=(HO_4.out.cell 1 rfl 0 rfl);have z_22:w_4.cell? ⟨g27,1,none⟩=some (.slice A_172d3 t172d3_1.length c_172d3):=(HO_4.out.cell 1 rfl 1 rfl))|((with_reducible refine gate_callee (f:=25) rfl ?_);refine goesL_ (some 181) rfl rfl Try.func25 (by kernel_rfl) rfl #[.agg #[.int .i64 t172d3_0,.slice A_172d3 t172d3_1.length c_172d3]] rfl ze_ ?_;(with_reducible refine (spec_BestOrder.calls kj3 t172d3_0 A_172d3 c_172d3 t172d3_1 t181d3_0 t181d3_1 t181d3_2 _ (ow_q_reads HO_4.out 2 rfl).2.2 (ow_q_reads HO_4.out 2 rfl).2.1 A181d3.out).mono ?_);rintro e w_5 ⟨x_181d3,rfl,ho1,hb⟩;refine ⟨_,rfl,?_⟩;have ho:=HO_4.out.add_row ho1 hb;clear ho1 hb;obtain ⟨A_181d3,c_181d3,e_⟩:=ho.row_slice 0 rfl;subst e_;have HO_5:=aM ho;clear ho))
             go_cut [198] (fun v198 wc => ∃ (kq:Nat),v198 = .bool false∧Aside0 (laws_FnDiagramOrders.j3 kq l1 t172d3_0 t172d3_1 t175d3_0 t175d3_2 t181d3_1=some r)∧Aside0 (kq≤kj3)∧Aside0 (Own w wc [Item.row (Kd.int .i64) 3 (.slice A_175d3 t175d3_0.length c_175d3) t175d3_0,qItem (Kd.int .i64) 3 (.slice A_172d3 t172d3_1.length c_172d3) t172d3_1,Item.box g27 41 #[.int .i64 t172d3_0,.slice A_172d3 t172d3_1.length c_172d3]]))
             case first =>
              as_aux_lemma =>
               by_cases c175_2_3:t175d3_2=true
               ·subst c175_2_3
                rw [if_pos rfl] at H
                by_cases c181_2_3:t181d3_2=true
                ·subst c181_2_3
                 rw [if_pos rfl] at H;obtain ⟨t191d3,A_,H_⟩:=oB.mp H;clear H;have H:=H_;clear H_;(try dsimp only at H);have A191d3:=aM A_;clear A_
                 by_cases c191_0_3:t191d3=true
                 ·subst c191_0_3
                  rw [if_pos rfl] at H
                  by_cases c197_3:t175d3_1=t181d3_1
                  ·rw [if_pos c197_3] at H
                   have c197_3b0:(t175d3_1 == t181d3_1)=true:=(by simpa using c197_3);have c197_3b1:(t175d3_1 != t181d3_1)=false:=(by simpa using c197_3);have c197_3b2:decide (t175d3_1=t181d3_1)=true:=(by simpa using c197_3);clear c197_3
                   go_wp2_with (first | (go_at_call 26;(with_reducible refine (laws_sameInts.calls kj3 A_175d3 c_175d3 t175d3_0 A_181d3 c_181d3 t181d3_0 true _ (HO_5.out.row_reads 1 rfl).2.2 (HO_5.out.row_reads 1 rfl).2.1 (HO_5.out.row_reads 0 rfl).2.2 (HO_5.out.row_reads 0 rfl).2.1 A191d3.out).mono ?_);rintro e w_6 ⟨rfl,hb⟩;have ho:=ow_drawn HO_5.out hb.out;clear hb;have HO_6:=aM ho;clear ho))
                   go_meet
                   case rel=>exact ⟨kj3,zbf_,⟨H⟩,⟨by have h1_:=HK_1.out;have h2_:=HK_2.out;have h3_:=HK_3.out;omega⟩,⟨((((HO_6.out.front 2 rfl).front 3 rfl).front 3 rfl).front 3 rfl).tail⟩⟩
                  ·rw [if_neg c197_3] at H
                   have c197_3b0:(t175d3_1 == t181d3_1)=false:=(by simpa using c197_3);have c197_3b1:(t175d3_1 != t181d3_1)=true:=(by simpa using c197_3);have c197_3b2:decide (t175d3_1=t181d3_1)=false:=(by simpa using c197_3);clear c197_3;exact q3n_ H
                 ·replace c191_0_3:=Bool.eq_false_iff.mpr c191_0_3
                  subst c191_0_3;rw [if_neg (show ¬ (false=true) by decide)] at H;exact q3n_ H
                ·replace c181_2_3:=Bool.eq_false_iff.mpr c181_2_3
                 subst c181_2_3;rw [if_neg (show ¬ (false=true) by decide)] at H;exact q3n_ H
               ·replace c175_2_3:=Bool.eq_false_iff.mpr c175_2_3
                subst c175_2_3;rw [if_neg (show ¬ (false=true) by decide)] at H
                by_cases c181_2_3:t181d3_2=true
                ·subst c181_2_3
                 rw [if_pos rfl] at H;exact q3n_ H
                ·replace c181_2_3:=Bool.eq_false_iff.mpr c181_2_3
                 subst c181_2_3;rw [if_neg (show ¬ (false=true) by decide)] at H;obtain ⟨t191d3,A_,H_⟩:=oB.mp H;clear H;have H:=H_;clear H_;(try dsimp only at H);have A191d3:=aM A_;clear A_
                 by_cases c191_0_3:t191d3=true
                 ·subst c191_0_3
                  rw [if_pos rfl] at H
                  by_cases c197_3:t175d3_1=t181d3_1
                  ·rw [if_pos c197_3] at H
                   have c197_3b0:(t175d3_1 == t181d3_1)=true:=(by simpa using c197_3);have c197_3b1:(t175d3_1 != t181d3_1)=false:=(by simpa using c197_3);have c197_3b2:decide (t175d3_1=t181d3_1)=true:=(by simpa using c197_3);clear c197_3
                   go_wp2_with (first | (go_at_call 26;(with_reducible refine (laws_sameInts.calls kj3 A_175d3 c_175d3 t175d3_0 A_181d3 c_181d3 t181d3_0 true _ (HO_5.out.row_reads 1 rfl).2.2 (HO_5.out.row_reads 1 rfl).2.1 (HO_5.out.row_reads 0 rfl).2.2 (HO_5.out.row_reads 0 rfl).2.1 A191d3.out).mono ?_);rintro e w_6 ⟨rfl,hb⟩;have ho:=ow_drawn HO_5.out hb.out;clear hb;have HO_6:=aM ho;clear ho))
                   go_meet
                   case rel=>exact ⟨kj3,zbf_,⟨H⟩,⟨by have h1_:=HK_1.out;have h2_:=HK_2.out;have h3_:=HK_3.out;omega⟩,⟨((((HO_6.out.front 2 rfl).front 3 rfl).front 3 rfl).front 3 rfl).tail⟩⟩
                  ·rw [if_neg c197_3] at H
                   have c197_3b0:(t175d3_1 == t181d3_1)=false:=(by simpa using c197_3);have c197_3b1:(t175d3_1 != t181d3_1)=true:=(by simpa using c197_3);have c197_3b2:decide (t175d3_1=t181d3_1)=false:=(by simpa using c197_3);clear c197_3;exact q3n_ H
                 ·replace c191_0_3:=Bool.eq_false_iff.mpr c191_0_3
                  subst c191_0_3;rw [if_neg (show ¬ (false=true) by decide)] at H;exact q3n_ H
             case rest =>
              as_aux_lemma =>
               rename World=>wr4
               clear H HO_5;obtain ⟨kq_,rfl,HL_4,HK_4,HO_4⟩:=hcut
               cases kq_ with
               | zero=>exact absurd HL_4.out (by simp only [laws_FnDiagramOrders.j3];exact fun h_=>by cases h_)
               | succ kj4 =>
                have H:=HL_4.out;clear HL_4
                simp only [laws_FnDiagramOrders.j3] at H
                go_upto_if 199 with (fail)
                go_cut [4] (fun v4 wc => ∃ (kq:Nat),v4 = .bool false∧Aside0 (laws_FnDiagramOrders.j4 kq l1=some r)∧Aside0 (kq≤kj4)∧Aside0 (Own w wc []))
                case first =>
                 as_aux_lemma =>
                  by_cases c175_2_3:t175d3_2=true
                  ·subst c175_2_3
                   rw [if_pos rfl] at H;obtain ⟨⟨t203d4_0,t203d4_1,t203d4_2⟩,A_,H_⟩:=oB.mp H;clear H;have H:=H_;clear H_;(try dsimp only at H);have A203d4:=aM A_;clear A_;obtain ⟨⟨t208d4_0,t208d4_1,t208d4_2,t208d4_3⟩,A_,H_⟩:=oB.mp H;clear H;have H:=H_;clear H_;(try dsimp only at H);have A208d4:=aM A_;clear A_;obtain ⟨⟨t213d4_0,t213d4_1,t213d4_2,t213d4_3⟩,A_,H_⟩:=oB.mp H;clear H;have H:=H_;clear H_;(try dsimp only at H);have A213d4:=aM A_;clear A_;have z_23:wr4.cell? ⟨g27,0,none⟩=some (.int .i64 t172d3_0):=(HO_4.out.cell 2 rfl 0 rfl);have z_24:wr4.cell? ⟨g27,1,none⟩=some (.slice A_172d3 t172d3_1.length c_172d3):=(HO_4.out.cell 2 rfl 1 rfl)
                   go_upto_region 28 with (first | ((with_reducible refine gate_callee (f:=27) rfl ?_);refine goesL_ (some 203) rfl rfl Try.func27 (by kernel_rfl) rfl #[.agg #[.int .i64 t172d3_0,.slice A_172d3 t172d3_1.length c_172d3],.slice A_175d3 t175d3_0.length c_175d3] rfl ze_ ?_;(with_reducible refine (impl_ReorderTable.calls kj4 t172d3_0 A_172d3 c_172d3 t172d3_1 A_175d3 c_175d3 t175d3_0 t203d4_0 t203d4_1 t203d4_2 _ (ow_q_reads HO_4.out 1 rfl).2.2 (ow_q_reads HO_4.out 1 rfl).2.1 (HO_4.out.row_reads 0 rfl).2.2 (HO_4.out.row_reads 0 rfl).2.1 A203d4.out).mono ?_);rintro e w_1 ⟨x_203d4,rfl,ho1,hb⟩;refine ⟨_,rfl,?_⟩;have ho:=HO_4.out.add_row ho1 hb;clear ho1 hb;obtain ⟨A_203d4,c_203d4,e_⟩:=ho.row_slice 0 rfl;subst e_;have HO_1:=aM ho;clear ho)|((with_reducible refine gate_dst (N:=34) rfl ?_);refine box_event ?hg (N:=34) ?hd (cs:=#[.int .i64 0,.slice none 0 0]) (t:=41) ?hr ?_;(case hd=>rfl);(case hg=>rfl);(case hr=>exact za_);intro g34 hg w_2 hbox hb;have HO_2:=aM (HO_1.out.add_box (T:=41) (cs:=#[.int .i64 0,.slice none 0 0]) hg hbox hb);clear hg hbox hb)|((with_reducible refine gate_store (t:=41) (p:=34) (v := .tmp 204) rfl ?_);refine Sep.own_store HO_2.out 0 g34 41 _ #[.int .i64 t203d4_0,.slice A_203d4 t203d4_1.length c_203d4] rfl rfl rfl 41 (.tmp 34) (.tmp 204) rfl rfl _ rfl rfl rfl (by kernel_rfl) (by simp [Value.oneCell']) ?_;intro w_3 ho;have HO_3:=aM ho;clear ho;have z_25:w_3.cell? ⟨g34,0,none⟩=some (.int .i64 t203d4_0):=(HO_3.out.cell 0 rfl 0 rfl);have z_26:w_3.cell? ⟨g34,1,none⟩=some (.slice A_203d4 t203d4_1.length c_203d4):=(HO_3.out.cell 0 rfl 1 rfl))|((with_reducible refine gate_callee (f:=18) rfl ?_);refine goesL_ (some 208) rfl rfl Try.func18 (by kernel_rfl) rfl #[.agg #[.int .i64 t203d4_0,.slice A_203d4 t203d4_1.length c_203d4]] rfl ze_ ?_;(with_reducible refine (impl_DiagramOf.calls kj4 t203d4_0 A_203d4 c_203d4 t203d4_1 t208d4_0 t208d4_1 t208d4_2 t208d4_3 _ (HO_3.out.row_reads 1 rfl).2.2 (HO_3.out.row_reads 1 rfl).2.1 A208d4.out).mono ?_);rintro e w_4 ⟨x_208d4,rfl,ho1,hb⟩;refine ⟨_,rfl,?_⟩;have ho:=HO_3.out.add_row ho1 hb;clear ho1 hb;obtain ⟨A_208d4,c_208d4,e_⟩:=ho.row_slice 0 rfl;subst e_;have HO_4:=aM ho;clear ho)|((with_reducible refine gate_dst (N:=36) rfl ?_);refine box_event ?hg (N:=36) ?hd (cs:=#[.int .i64 0,.slice none 0 0,.int .i64 0]) (t:=28) ?hr ?_;(case hd=>rfl);(case hg=>rfl);(case hr=>exact za_);intro g36 hg w_5 hbox hb;have HO_5:=aM (HO_4.out.add_box (T:=28) (cs:=#[.int .i64 0,.slice none 0 0,.int .i64 0]) hg hbox hb);clear hg hbox hb)|((with_reducible refine gate_store (t:=28) (p:=36) (v := .tmp 209) rfl ?_);refine Sep.own_store HO_5.out 0 g36 28 _ #[.int .i64 t208d4_0,.slice A_208d4 t208d4_1.length c_208d4,.int .i64 t208d4_2] rfl rfl rfl 28 (.tmp 36) (.tmp 209) rfl rfl _ rfl rfl rfl (by kernel_rfl) (by simp [Value.oneCell']) ?_;intro w_6 ho;have HO_6:=aM ho;clear ho;have z_27:w_6.cell? ⟨g27,0,none⟩=some (.int .i64 t172d3_0):=(HO_6.out.cell 6 rfl 0 rfl);have z_28:w_6.cell? ⟨g27,1,none⟩=some (.slice A_172d3 t172d3_1.length c_172d3):=(HO_6.out.cell 6 rfl 1 rfl)))
                   as_aux_lemma =>
                    go_upto_region 29 with (first | ((with_reducible refine gate_callee (f:=18) rfl ?_);refine goesL_ (some 213) rfl rfl Try.func18 (by kernel_rfl) rfl #[.agg #[.int .i64 t172d3_0,.slice A_172d3 t172d3_1.length c_172d3]] rfl ze_ ?_;(with_reducible refine (impl_DiagramOf.calls kj4 t172d3_0 A_172d3 c_172d3 t172d3_1 t213d4_0 t213d4_1 t213d4_2 t213d4_3 _ (ow_q_reads HO_6.out 5 rfl).2.2 (ow_q_reads HO_6.out 5 rfl).2.1 A213d4.out).mono ?_);rintro e w_7 ⟨x_213d4,rfl,ho1,hb⟩;refine ⟨_,rfl,?_⟩;have ho:=HO_6.out.add_row ho1 hb;clear ho1 hb;obtain ⟨A_213d4,c_213d4,e_⟩:=ho.row_slice 0 rfl;subst e_;have HO_7:=aM ho;clear ho)|((with_reducible refine gate_dst (N:=38) rfl ?_);refine box_event ?hg (N:=38) ?hd (cs:=#[.int .i64 0,.slice none 0 0,.int .i64 0]) (t:=28) ?hr ?_;(case hd=>rfl);(case hg=>rfl);(case hr=>exact za_);intro g38 hg w_8 hbox hb;have HO_8:=aM (HO_7.out.add_box (T:=28) (cs:=#[.int .i64 0,.slice none 0 0,.int .i64 0]) hg hbox hb);clear hg hbox hb)|((with_reducible refine gate_store (t:=28) (p:=38) (v := .tmp 214) rfl ?_);refine Sep.own_store HO_8.out 0 g38 28 _ #[.int .i64 t213d4_0,.slice A_213d4 t213d4_1.length c_213d4,.int .i64 t213d4_2] rfl rfl rfl 28 (.tmp 38) (.tmp 214) rfl rfl _ rfl rfl rfl (by kernel_rfl) (by simp [Value.oneCell']) ?_;intro w_9 ho;have HO_9:=aM ho;clear ho))
                    by_cases c203_2_4:t203d4_2=true
                    ·subst c203_2_4
                     rw [if_pos rfl] at H
                     by_cases c208_3_4:t208d4_3=true
                     ·subst c208_3_4
                      rw [if_pos rfl] at H
                      by_cases c227_4:((t208d4_1.length:Int))=t181d3_1
                      ·rw [if_pos c227_4] at H
                       have c227_4b0:(((t208d4_1.length:Int)) == t181d3_1)=true:=(by simpa using c227_4);have c227_4b1:(((t208d4_1.length:Int)) != t181d3_1)=false:=(by simpa using c227_4);have c227_4b2:decide (((t208d4_1.length:Int))=t181d3_1)=true:=(by simpa using c227_4);clear c227_4
                       by_cases c213_3_4:t213d4_3=true
                       ·subst c213_3_4
                        rw [if_pos rfl] at H
                        by_cases c238_4:((t213d4_1.length:Int))<t181d3_1
                        ·rw [if_pos c238_4] at H
                         have c238_4b0:decide (((t213d4_1.length:Int))<t181d3_1)=true:=(by simpa using c238_4);clear c238_4;exact q3n_ H
                        ·rw [if_neg c238_4] at H
                         have c238_4b0:decide (((t213d4_1.length:Int))<t181d3_1)=false:=(by simpa using c238_4);clear c238_4;have z_29:w_9.cell? ⟨g36,1,none⟩=some (.slice A_208d4 t208d4_1.length c_208d4):=(HO_9.out.cell 2 rfl 1 rfl);have z_30:w_9.cell? ⟨g38,1,none⟩=some (.slice A_213d4 t213d4_1.length c_213d4):=(HO_9.out.cell 0 rfl 1 rfl)
                         go_wp2
                         go_meet
                         case rel=>exact ⟨kj4,zbf_,⟨H⟩,⟨by have h1_:=HK_1.out;have h2_:=HK_2.out;have h3_:=HK_3.out;have h4_:=HK_4.out;omega⟩,⟨(((((((((HO_9.out.front 8 rfl).front 8 rfl).front 8 rfl).front 8 rfl).front 8 rfl).front 8 rfl).front 8 rfl).front 8 rfl).front 8 rfl).tail.tail.tail.tail.tail.tail.tail.tail.tail⟩⟩
                       ·replace c213_3_4:=Bool.eq_false_iff.mpr c213_3_4
                        subst c213_3_4;rw [if_neg (show ¬ (false=true) by decide)] at H;exact q3n_ H
                      ·rw [if_neg c227_4] at H
                       have c227_4b0:(((t208d4_1.length:Int)) == t181d3_1)=false:=(by simpa using c227_4);have c227_4b1:(((t208d4_1.length:Int)) != t181d3_1)=true:=(by simpa using c227_4);have c227_4b2:decide (((t208d4_1.length:Int))=t181d3_1)=false:=(by simpa using c227_4);clear c227_4;exact q3n_ H
                     ·replace c208_3_4:=Bool.eq_false_iff.mpr c208_3_4
                      subst c208_3_4;rw [if_neg (show ¬ (false=true) by decide)] at H;exact q3n_ H
                    ·replace c203_2_4:=Bool.eq_false_iff.mpr c203_2_4
                     subst c203_2_4;rw [if_neg (show ¬ (false=true) by decide)] at H;exact q3n_ H
                  ·replace c175_2_3:=Bool.eq_false_iff.mpr c175_2_3
                   subst c175_2_3;rw [if_neg (show ¬ (false=true) by decide)] at H
                   go_wp2
                   go_meet
                   case rel=>exact ⟨kj4,zbf_,⟨H⟩,⟨by have h1_:=HK_1.out;have h2_:=HK_2.out;have h3_:=HK_3.out;have h4_:=HK_4.out;omega⟩,⟨(((HO_4.out.front 2 rfl).front 2 rfl).front 2 rfl).tail.tail.tail⟩⟩
                case rest =>
                 as_aux_lemma =>
                  rename World=>wr5
                  clear H HO_4;obtain ⟨kq_,rfl,HL_5,HK_5,HO_5⟩:=hcut
                  cases kq_ with
                  | zero=>exact absurd HL_5.out (by simp only [laws_FnDiagramOrders.j4];exact fun h_=>by cases h_)
                  | succ kj5 =>
                   have H:=HL_5.out;clear HL_5
                   simp only [laws_FnDiagramOrders.j4] at H
                   obtain ⟨⟨t242d5_0,t242d5_1,t242d5_2⟩,A_,H_⟩:=oB.mp H;clear H;have H:=H_;clear H_;(try dsimp only at H);have A242d5:=aM A_;clear A_;obtain ⟨⟨t248d5_0,t248d5_1,t248d5_2⟩,A_,H_⟩:=oB.mp H;clear H;have H:=H_;clear H_;(try dsimp only at H);have A248d5:=aM A_;clear A_;obtain ⟨⟨t254d5_0,t254d5_1,t254d5_2⟩,A_,H_⟩:=oB.mp H;clear H;have H:=H_;clear H_;(try dsimp only at H);have A254d5:=aM A_;clear A_
                   go_upto_region 33 with (first | ((with_reducible refine gate_callee (f:=28) rfl ?_);refine goesL_ (some 242) rfl rfl Try.func28 (by kernel_rfl) rfl #[.slice A1 l1.length c1] rfl ze_ ?_;(with_reducible refine (spec_DrawReorderTable.calls kj5 A1 c1 l1 t242d5_0 t242d5_1 t242d5_2 _ (by exact (Kd.C_below HR1.out HO_5.out.base)) HC1.out A242d5.out).mono ?_);rintro e w_1 ⟨x_242d5_0,x_242d5_1,rfl,ho1,ho2,hb⟩;refine ⟨_,rfl,?_⟩;have ho:=ow_add2 HO_5.out (fun hM=>hM) hb (ow_QI ho1) ho2;clear ho1 ho2 hb;obtain ⟨A_242d5_0,c_242d5_0,e_⟩:=ow_q_slice ho 0 rfl;subst e_;obtain ⟨A_242d5_1,c_242d5_1,e_⟩:=ho.row_slice 1 rfl;subst e_;have HO_1:=aM ho;clear ho)|((with_reducible refine gate_dst (N:=40) rfl ?_);refine box_event ?hg (N:=40) ?hd (cs:=#[.int .i64 0,.slice none 0 0]) (t:=41) ?hr ?_;(case hd=>rfl);(case hg=>rfl);(case hr=>exact za_);intro g40 hg w_2 hbox hb;have HO_2:=aM (HO_1.out.add_box (T:=41) (cs:=#[.int .i64 0,.slice none 0 0]) hg hbox hb);clear hg hbox hb)|((with_reducible refine gate_store (t:=41) (p:=40) (v := .tmp 243) rfl ?_);refine Sep.own_store HO_2.out 0 g40 41 _ #[.int .i64 t242d5_0,.slice A_242d5_0 t242d5_1.length c_242d5_0] rfl rfl rfl 41 (.tmp 40) (.tmp 243) rfl rfl _ rfl rfl rfl (by kernel_rfl) (by simp [Value.oneCell']) ?_;intro w_3 ho;have HO_3:=aM ho;clear ho;have z_23:w_3.cell? ⟨g40,0,none⟩=some (.int .i64 t242d5_0):=(HO_3.out.cell 0 rfl 0 rfl);have z_24:w_3.cell? ⟨g40,1,none⟩=some (.slice A_242d5_0 t242d5_1.length c_242d5_0):=(HO_3.out.cell 0 rfl 1 rfl))|((with_reducible refine gate_callee (f:=27) rfl ?_);refine goesL_ (some 248) rfl rfl Try.func27 (by kernel_rfl) rfl #[.agg #[.int .i64 t242d5_0,.slice A_242d5_0 t242d5_1.length c_242d5_0],.slice A_242d5_1 t242d5_2.length c_242d5_1] rfl ze_ ?_;(with_reducible refine (impl_ReorderTable.calls kj5 t242d5_0 A_242d5_0 c_242d5_0 t242d5_1 A_242d5_1 c_242d5_1 t242d5_2 t248d5_0 t248d5_1 t248d5_2 _ (ow_q_reads HO_3.out 1 rfl).2.2 (ow_q_reads HO_3.out 1 rfl).2.1 (HO_3.out.row_reads 2 rfl).2.2 (HO_3.out.row_reads 2 rfl).2.1 A248d5.out).mono ?_);rintro e w_4 ⟨x_248d5,rfl,ho1,hb⟩;refine ⟨_,rfl,?_⟩;have ho:=HO_3.out.add_row ho1 hb;clear ho1 hb;obtain ⟨A_248d5,c_248d5,e_⟩:=ho.row_slice 0 rfl;subst e_;have HO_4:=aM ho;clear ho)|((with_reducible refine gate_dst (N:=42) rfl ?_);refine box_event ?hg (N:=42) ?hd (cs:=#[.int .i64 0,.slice none 0 0]) (t:=41) ?hr ?_;(case hd=>rfl);(case hg=>rfl);(case hr=>exact za_);intro g42 hg w_5 hbox hb;have HO_5:=aM (HO_4.out.add_box (T:=41) (cs:=#[.int .i64 0,.slice none 0 0]) hg hbox hb);clear hg hbox hb)|((with_reducible refine gate_store (t:=41) (p:=42) (v := .tmp 249) rfl ?_);refine Sep.own_store HO_5.out 0 g42 41 _ #[.int .i64 t248d5_0,.slice A_248d5 t248d5_1.length c_248d5] rfl rfl rfl 41 (.tmp 42) (.tmp 249) rfl rfl _ rfl rfl rfl (by kernel_rfl) (by simp [Value.oneCell']) ?_;intro w_6 ho;have HO_6:=aM ho;clear ho;have z_25:w_6.cell? ⟨g40,0,none⟩=some (.int .i64 t242d5_0):=(HO_6.out.cell 2 rfl 0 rfl);have z_26:w_6.cell? ⟨g40,1,none⟩=some (.slice A_242d5_0 t242d5_1.length c_242d5_0):=(HO_6.out.cell 2 rfl 1 rfl)))
                   as_aux_lemma =>
                    go_upto_region 34 with (first | ((with_reducible refine gate_callee (f:=29) rfl ?_);refine goesL_ (some 254) rfl rfl Try.func29 (by kernel_rfl) rfl #[.agg #[.int .i64 t242d5_0,.slice A_242d5_0 t242d5_1.length c_242d5_0],.slice A_242d5_1 t242d5_2.length c_242d5_1] rfl ze_ ?_;(with_reducible refine (spec_ReorderTable.calls kj5 t242d5_0 A_242d5_0 c_242d5_0 t242d5_1 A_242d5_1 c_242d5_1 t242d5_2 t254d5_0 t254d5_1 t254d5_2 _ (ow_q_reads HO_6.out 3 rfl).2.2 (ow_q_reads HO_6.out 3 rfl).2.1 (HO_6.out.row_reads 4 rfl).2.2 (HO_6.out.row_reads 4 rfl).2.1 A254d5.out).mono ?_);rintro e w_7 ⟨x_254d5,rfl,ho1,hb⟩;refine ⟨_,rfl,?_⟩;have ho:=HO_6.out.add_row ho1 hb;clear ho1 hb;obtain ⟨A_254d5,c_254d5,e_⟩:=ho.row_slice 0 rfl;subst e_;have HO_7:=aM ho;clear ho)|((with_reducible refine gate_dst (N:=44) rfl ?_);refine box_event ?hg (N:=44) ?hd (cs:=#[.int .i64 0,.slice none 0 0]) (t:=41) ?hr ?_;(case hd=>rfl);(case hg=>rfl);(case hr=>exact za_);intro g44 hg w_8 hbox hb;have HO_8:=aM (HO_7.out.add_box (T:=41) (cs:=#[.int .i64 0,.slice none 0 0]) hg hbox hb);clear hg hbox hb)|((with_reducible refine gate_store (t:=41) (p:=44) (v := .tmp 255) rfl ?_);refine Sep.own_store HO_8.out 0 g44 41 _ #[.int .i64 t254d5_0,.slice A_254d5 t254d5_1.length c_254d5] rfl rfl rfl 41 (.tmp 44) (.tmp 255) rfl rfl _ rfl rfl rfl (by kernel_rfl) (by simp [Value.oneCell']) ?_;intro w_9 ho;have HO_9:=aM ho;clear ho))
                    go_cut [265] (fun v265 wc => ∃ (kq:Nat),v265 = .bool false∧Aside0 (laws_FnDiagramOrders.j5 kq t242d5_1 t242d5_2 t248d5_2 t254d5_1=some r)∧Aside0 (kq≤kj5)∧Aside0 (Own w wc [Item.row (Kd.int .i64) 3 (.slice A_242d5_1 t242d5_2.length c_242d5_1) t242d5_2,qItem (Kd.int .i64) 3 (.slice A_242d5_0 t242d5_1.length c_242d5_0) t242d5_1,Item.row (Kd.int .i64) 3 (.slice A_254d5 t254d5_1.length c_254d5) t254d5_1,Item.box g40 41 #[.int .i64 t242d5_0,.slice A_242d5_0 t242d5_1.length c_242d5_0],Item.box g44 41 #[.int .i64 t254d5_0,.slice A_254d5 t254d5_1.length c_254d5]]))
                    case first =>
                     as_aux_lemma =>
                      by_cases c248_2_5:t248d5_2=true
                      ·subst c248_2_5
                       rw [if_pos rfl] at H
                       by_cases c254_2_5:t254d5_2=true
                       ·subst c254_2_5
                        rw [if_pos rfl] at H;obtain ⟨t263d5,A_,H_⟩:=oB.mp H;clear H;have H:=H_;clear H_;(try dsimp only at H);have A263d5:=aM A_;clear A_
                        by_cases c263_0_5:t263d5=true
                        ·subst c263_0_5
                         rw [if_pos rfl] at H;have z_27:w_9.cell? ⟨g42,0,none⟩=some (.int .i64 t248d5_0):=(HO_9.out.cell 2 rfl 0 rfl);have z_28:w_9.cell? ⟨g42,1,none⟩=some (.slice A_248d5 t248d5_1.length c_248d5):=(HO_9.out.cell 2 rfl 1 rfl);have z_29:w_9.cell? ⟨g44,0,none⟩=some (.int .i64 t254d5_0):=(HO_9.out.cell 0 rfl 0 rfl);have z_30:w_9.cell? ⟨g44,1,none⟩=some (.slice A_254d5 t254d5_1.length c_254d5):=(HO_9.out.cell 0 rfl 1 rfl)
                         go_wp2_with (first | (go_at_call 30;(with_reducible refine (laws_pSameTable.calls kj5 t248d5_0 A_248d5 c_248d5 t248d5_1 t254d5_0 A_254d5 c_254d5 t254d5_1 true _ (HO_9.out.row_reads 3 rfl).2.2 (HO_9.out.row_reads 3 rfl).2.1 (HO_9.out.row_reads 1 rfl).2.2 (HO_9.out.row_reads 1 rfl).2.1 A263d5.out).mono ?_);rintro e w_10 ⟨rfl,hb⟩;have ho:=HO_9.out.below hb;clear hb;have HO_10:=aM ho;clear ho))
                         go_meet
                         case rel=>exact ⟨kj5,zbf_,⟨H⟩,⟨by have h1_:=HK_1.out;have h2_:=HK_2.out;have h3_:=HK_3.out;have h4_:=HK_4.out;have h5_:=HK_5.out;omega⟩,⟨(((((((HO_10.out.front 0 rfl).front 4 rfl).front 2 rfl).front 5 rfl).front 6 rfl).front 6 rfl).front 6 rfl).tail.tail⟩⟩
                        ·replace c263_0_5:=Bool.eq_false_iff.mpr c263_0_5
                         subst c263_0_5;rw [if_neg (show ¬ (false=true) by decide)] at H;exact q3n_ H
                       ·replace c254_2_5:=Bool.eq_false_iff.mpr c254_2_5
                        subst c254_2_5;rw [if_neg (show ¬ (false=true) by decide)] at H;exact q3n_ H
                      ·replace c248_2_5:=Bool.eq_false_iff.mpr c248_2_5
                       subst c248_2_5;rw [if_neg (show ¬ (false=true) by decide)] at H
                       by_cases c254_2_5:t254d5_2=true
                       ·subst c254_2_5
                        rw [if_pos rfl] at H;exact q3n_ H
                       ·replace c254_2_5:=Bool.eq_false_iff.mpr c254_2_5
                        subst c254_2_5;rw [if_neg (show ¬ (false=true) by decide)] at H;obtain ⟨t263d5,A_,H_⟩:=oB.mp H;clear H;have H:=H_;clear H_;(try dsimp only at H);have A263d5:=aM A_;clear A_
                        by_cases c263_0_5:t263d5=true
                        ·subst c263_0_5
                         rw [if_pos rfl] at H;have z_27:w_9.cell? ⟨g42,0,none⟩=some (.int .i64 t248d5_0):=(HO_9.out.cell 2 rfl 0 rfl);have z_28:w_9.cell? ⟨g42,1,none⟩=some (.slice A_248d5 t248d5_1.length c_248d5):=(HO_9.out.cell 2 rfl 1 rfl);have z_29:w_9.cell? ⟨g44,0,none⟩=some (.int .i64 t254d5_0):=(HO_9.out.cell 0 rfl 0 rfl);have z_30:w_9.cell? ⟨g44,1,none⟩=some (.slice A_254d5 t254d5_1.length c_254d5):=(HO_9.out.cell 0 rfl 1 rfl)
                         go_wp2_with (first | (go_at_call 30;(with_reducible refine (laws_pSameTable.calls kj5 t248d5_0 A_248d5 c_248d5 t248d5_1 t254d5_0 A_254d5 c_254d5 t254d5_1 true _ (HO_9.out.row_reads 3 rfl).2.2 (HO_9.out.row_reads 3 rfl).2.1 (HO_9.out.row_reads 1 rfl).2.2 (HO_9.out.row_reads 1 rfl).2.1 A263d5.out).mono ?_);rintro e w_10 ⟨rfl,hb⟩;have ho:=HO_9.out.below hb;clear hb;have HO_10:=aM ho;clear ho))
                         go_meet
                         case rel=>exact ⟨kj5,zbf_,⟨H⟩,⟨by have h1_:=HK_1.out;have h2_:=HK_2.out;have h3_:=HK_3.out;have h4_:=HK_4.out;have h5_:=HK_5.out;omega⟩,⟨(((((((HO_10.out.front 0 rfl).front 4 rfl).front 2 rfl).front 5 rfl).front 6 rfl).front 6 rfl).front 6 rfl).tail.tail⟩⟩
                        ·replace c263_0_5:=Bool.eq_false_iff.mpr c263_0_5
                         subst c263_0_5;rw [if_neg (show ¬ (false=true) by decide)] at H;exact q3n_ H
                    case rest =>
                     as_aux_lemma =>
                      rename World=>wr6
                      clear H HO_9;obtain ⟨kq_,rfl,HL_6,HK_6,HO_6⟩:=hcut
                      cases kq_ with
                      | zero=>exact absurd HL_6.out (by simp only [laws_FnDiagramOrders.j5];exact fun h_=>by cases h_)
                      | succ kj6 =>
                       have H:=HL_6.out;clear HL_6
                       simp only [laws_FnDiagramOrders.j5] at H
                       go_upto_if 266 with (fail)
                       by_cases c248_2_5:t248d5_2=true
                       ·subst c248_2_5
                        rw [if_pos rfl] at H;have z_27:wr6.cell? ⟨g44,1,none⟩=some (.slice A_254d5 t254d5_1.length c_254d5):=(HO_6.out.cell 4 rfl 1 rfl)
                        go_wp2
                        have HC_7:=aM H;clear H
                        go_loopg [4,270] kj6 (fun kq v4 v270 wr7 => ∃ (x7_270:Int),v4 = .bool false∧v270 = .int .i64 x7_270∧Aside0 (laws_FnDiagramOrders.l0 kq x7_270 t242d5_1 t242d5_2 t254d5_1=some r)∧Aside0 (kq≤kj6)∧Aside0 (Own w wr7 [Item.row (Kd.int .i64) 3 (.slice A_242d5_1 t242d5_2.length c_242d5_1) t242d5_2,Item.row (Kd.int .i64) 3 (.slice A_254d5 t254d5_1.length c_254d5) t254d5_1,qItem (Kd.int .i64) 3 (.slice A_242d5_0 t242d5_1.length c_242d5_0) t242d5_1,Item.box g40 41 #[.int .i64 t242d5_0,.slice A_242d5_0 t242d5_1.length c_242d5_0]]))
                        case atStart=>exact ⟨0,zbf_,zbf_,⟨HC_7.out⟩,⟨by have h1_:=HK_1.out;have h2_:=HK_2.out;have h3_:=HK_3.out;have h4_:=HK_4.out;have h5_:=HK_5.out;have h6_:=HK_6.out;omega⟩,⟨(((((HO_6.out.front 3 rfl).front 2 rfl).front 3 rfl).front 3 rfl).front 4 rfl).tail⟩⟩
                        case round =>
                         as_aux_lemma =>
                          rename World=>wr7
                          obtain ⟨x7_270,rfl,rfl,HL_7,HK_7,HO_7⟩:=hrel;clear HC_7 HO_6
                          cases gk with
                          | zero=>exact absurd HL_7.out (by simp only [laws_FnDiagramOrders.l0];exact fun h_=>by cases h_)
                          | succ k7 =>
                           have H:=HL_7.out;clear HL_7
                           simp only [laws_FnDiagramOrders.l0] at H
                           by_cases c271_7:x7_270<((t254d5_1.length:Int))
                           ·rw [if_pos c271_7] at H
                            have c271_7b0:decide (x7_270<((t254d5_1.length:Int)))=true:=(by simpa using c271_7);clear c271_7
                            go_upto_region 39 with (fail)
                            by_cases c273_7z:0≤x7_270∧x7_270<(t254d5_1.length:Int)
                            ·rw [if_pos c273_7z] at H
                             have c273_7:=aM c273_7z;clear c273_7z;have p273:(0≤x7_270)=True:=eq_true c273_7.out.1;have q273:(x7_270<(t254d5_1.length:Int))=True:=eq_true c273_7.out.2;have r273:(x7_270.toNat<t254d5_1.length)=True:=eq_true (by have h_:=c273_7.out;omega);obtain ⟨ad273,e_,_⟩:=Kd.at_int (HO_7.out.row_reads 1 rfl).2.2 x7_270 c273_7.out.1 c273_7.out.2;subst e_;have z_28:wr7.cell? (ad273.add x7_270.toNat)=some (.int .i64 (rd t254d5_1 x7_270)):=(by obtain ⟨b_,e_,h_⟩:=Kd.at_int (HO_7.out.row_reads 1 rfl).2.2 x7_270 c273_7.out.1 c273_7.out.2;cases e_;exact h_)
                             go_wp2
                             have HC_9:=aM H;clear H
                             go_loopg [48,277] k7 (fun kq v48 v277 wr9 => ∃ (x9_48:Int) (x9_277:Int),v48 = .int .i64 x9_48∧v277 = .int .i64 x9_277∧Aside0 (laws_FnDiagramOrders.l1 kq x9_48 x9_277 t242d5_1 t242d5_2 t254d5_1 x7_270=some r)∧Aside0 (kq≤k7)∧Aside0 (Own w wr9 [Item.row (Kd.int .i64) 3 (.slice A_242d5_1 t242d5_2.length c_242d5_1) t242d5_2,Item.row (Kd.int .i64) 3 (.slice ((some ad273)) t254d5_1.length c_254d5) t254d5_1,qItem (Kd.int .i64) 3 (.slice A_242d5_0 t242d5_1.length c_242d5_0) t242d5_1,Item.box g40 41 #[.int .i64 t242d5_0,.slice A_242d5_0 t242d5_1.length c_242d5_0]]))
                             case atStart=>exact ⟨0,0,zbf_,zbf_,⟨HC_9.out⟩,⟨by have h1_:=HK_1.out;have h2_:=HK_2.out;have h3_:=HK_3.out;have h4_:=HK_4.out;have h5_:=HK_5.out;have h6_:=HK_6.out;have h7_:=HK_7.out;omega⟩,⟨((((HO_7.out.front 3 rfl).front 3 rfl).front 3 rfl).front 3 rfl)⟩⟩
                             case round =>
                              as_aux_lemma =>
                               rename World=>wr9
                               obtain ⟨x9_48,x9_277,rfl,rfl,HL_9,HK_9,HO_9⟩:=hrel;clear HC_9 HO_7
                               cases gk with
                               | zero=>exact absurd HL_9.out (by simp only [laws_FnDiagramOrders.l1];exact fun h_=>by cases h_)
                               | succ k9 =>
                                have H:=HL_9.out;clear HL_9
                                simp only [laws_FnDiagramOrders.l1] at H
                                by_cases c278_9:x9_277<((t242d5_2.length:Int))
                                ·rw [if_pos c278_9] at H
                                 have c278_9b0:decide (x9_277<((t242d5_2.length:Int)))=true:=(by simpa using c278_9);clear c278_9
                                 go_upto_region 43 with (fail)
                                 by_cases c280_9z:0≤x9_277∧x9_277<(t242d5_2.length:Int)
                                 ·rw [if_pos c280_9z] at H
                                  have c280_9:=aM c280_9z;clear c280_9z;obtain ⟨j285d9,hj285d9⟩:∃ j_:Int,(IntKind.u64.wrap x9_277)=j_:=⟨_,rfl⟩;(first | rw [hj285d9] at H | simp only [hj285d9] at H | skip);have p280:(0≤x9_277)=True:=eq_true c280_9.out.1;have q280:(x9_277<(t242d5_2.length:Int))=True:=eq_true c280_9.out.2;have r280:(x9_277.toNat<t242d5_2.length)=True:=eq_true (by have h_:=c280_9.out;omega);obtain ⟨ad280,e_,_⟩:=Kd.at_int (HO_9.out.row_reads 0 rfl).2.2 x9_277 c280_9.out.1 c280_9.out.2;subst e_;have z_29:wr9.cell? (ad280.add x9_277.toNat)=some (.int .i64 (rd t242d5_2 x9_277)):=(by obtain ⟨b_,e_,h_⟩:=Kd.at_int (HO_9.out.row_reads 0 rfl).2.2 x9_277 c280_9.out.1 c280_9.out.2;cases e_;exact h_)
                                  go_upto_region 44 with (fail)
                                  by_cases c286_9:0≤j285d9
                                  ·rw [if_pos c286_9] at H
                                   have c286_9b0:=eq_true c286_9;have c286_9b1:decide (0≤j285d9)=true:=decide_eq_true c286_9;clear c286_9;obtain ⟨j286d9,hj286d9⟩:∃ j_:Int,(shr .i64 x7_270 j285d9)=j_:=⟨_,rfl⟩;(first | rw [hj286d9] at H | simp only [hj286d9] at H | skip);have hj286d9a:(x7_270 / 2 ^ min j285d9.toNat 64)=j286d9:=hj286d9;have hj286d9b:j285d9≤64→(x7_270 / 2 ^ j285d9.toNat)=j286d9:=shr_small hj286d9;obtain ⟨j289d9,hj289d9⟩:∃ j_:Int,(IntKind.u64.wrap (rd t242d5_2 x9_277))=j_:=⟨_,rfl⟩;(first | rw [hj289d9] at H | simp only [hj289d9] at H | skip)
                                   by_cases c290_9:0≤j289d9
                                   ·rw [if_pos c290_9] at H
                                    have c290_9b0:=eq_true c290_9;have c290_9b1:decide (0≤j289d9)=true:=decide_eq_true c290_9;clear c290_9;obtain ⟨j290d9,hj290d9⟩:∃ j_:Int,(shl .i64 (Go.bits .and .i64 j286d9 1) j289d9)=j_:=⟨_,rfl⟩;(first | rw [hj290d9] at H | simp only [hj290d9] at H | skip);have hj290d9a:(IntKind.i64.wrap ((Go.bits .and .i64 j286d9 1) * 2 ^ min j289d9.toNat 64))=j290d9:=hj290d9;have hj290d9b:j289d9≤64→(IntKind.i64.wrap ((Go.bits .and .i64 j286d9 1) * 2 ^ j289d9.toNat))=j290d9:=shl_small hj290d9;have hj290d9c:(wrap64 ((Go.bits .and .i64 j286d9 1) * 2 ^ min j289d9.toNat 64))=j290d9:=(i64_w _).symm.trans hj290d9a;have hj290d9d:j289d9≤64→(wrap64 ((Go.bits .and .i64 j286d9 1) * 2 ^ j289d9.toNat))=j290d9:=fun h_=>(i64_w _).symm.trans (hj290d9b h_)
                                    go_wp2
                                    go_roundg k9
                                    case measure=>have h1_:=HK_1.out;have h2_:=HK_2.out;have h3_:=HK_3.out;have h4_:=HK_4.out;have h5_:=HK_5.out;have h6_:=HK_6.out;have h7_:=HK_7.out;have h9_:=HK_9.out;omega
                                    case rel=>exact ⟨(wrap64 (x9_48+j290d9)),(wrap64 (x9_277+1)),zbf_,zbf_,⟨H⟩,⟨by have h1_:=HK_1.out;have h2_:=HK_2.out;have h3_:=HK_3.out;have h4_:=HK_4.out;have h5_:=HK_5.out;have h6_:=HK_6.out;have h7_:=HK_7.out;have h9_:=HK_9.out;omega⟩,⟨((((HO_9.out.front 3 rfl).front 3 rfl).front 3 rfl).front 3 rfl)⟩⟩
                                   ·rw [if_neg c290_9] at H
                                    exact q3n_ H
                                  ·rw [if_neg c286_9] at H
                                   exact q3n_ H
                                 ·rw [if_neg c280_9z] at H
                                  exact q3n_ H
                                ·rw [if_neg c278_9] at H
                                 have c278_9b0:decide (x9_277<((t242d5_2.length:Int)))=false:=(by simpa using c278_9);clear c278_9
                                 go_upto_region 46 with (fail)
                                 by_cases c296_9z:0≤x9_48∧x9_48<(t242d5_1.length:Int)
                                 ·rw [if_pos c296_9z] at H
                                  have c296_9:=aM c296_9z;clear c296_9z;have p296:(0≤x9_48)=True:=eq_true c296_9.out.1;have q296:(x9_48<(t242d5_1.length:Int))=True:=eq_true c296_9.out.2;have r296:(x9_48.toNat<t242d5_1.length)=True:=eq_true (by have h_:=c296_9.out;omega);obtain ⟨ad296,e_,_⟩:=Kd.at_int (ow_q_reads HO_9.out 2 rfl).2.2 x9_48 c296_9.out.1 c296_9.out.2;subst e_
                                  by_cases c299_9:(rd t242d5_1 x9_48)=(rd t254d5_1 x7_270)
                                  ·rw [if_pos c299_9] at H
                                   have c299_9b0:((rd t242d5_1 x9_48) == (rd t254d5_1 x7_270))=true:=(by simpa using c299_9);have c299_9b1:((rd t242d5_1 x9_48) != (rd t254d5_1 x7_270))=false:=(by simpa using c299_9);have c299_9b2:decide ((rd t242d5_1 x9_48)=(rd t254d5_1 x7_270))=true:=(by simpa using c299_9);clear c299_9;have z_29:wr9.cell? ⟨g40,1,none⟩=some (.slice ((some ad296)) t242d5_1.length c_242d5_0):=(HO_9.out.cell 3 rfl 1 rfl);have z_30:wr9.cell? (ad296.add x9_48.toNat)=some (.int .i64 (rd t242d5_1 x9_48)):=(by obtain ⟨b_,e_,h_⟩:=Kd.at_int (ow_q_reads HO_9.out 2 rfl).2.2 x9_48 c296_9.out.1 c296_9.out.2;cases e_;exact h_)
                                   go_wp2
                                   go_roundg k9
                                   case measure=>have h1_:=HK_1.out;have h2_:=HK_2.out;have h3_:=HK_3.out;have h4_:=HK_4.out;have h5_:=HK_5.out;have h6_:=HK_6.out;have h7_:=HK_7.out;have h9_:=HK_9.out;omega
                                   case rel=>exact ⟨(wrap64 (x7_270+1)),zbf_,zbf_,⟨H⟩,⟨by have h1_:=HK_1.out;have h2_:=HK_2.out;have h3_:=HK_3.out;have h4_:=HK_4.out;have h5_:=HK_5.out;have h6_:=HK_6.out;have h7_:=HK_7.out;have h9_:=HK_9.out;omega⟩,⟨((((HO_9.out.front 3 rfl).front 3 rfl).front 3 rfl).front 3 rfl)⟩⟩
                                  ·rw [if_neg c299_9] at H
                                   have c299_9b0:((rd t242d5_1 x9_48) == (rd t254d5_1 x7_270))=false:=(by simpa using c299_9);have c299_9b1:((rd t242d5_1 x9_48) != (rd t254d5_1 x7_270))=true:=(by simpa using c299_9);have c299_9b2:decide ((rd t242d5_1 x9_48)=(rd t254d5_1 x7_270))=false:=(by simpa using c299_9);clear c299_9;exact q3n_ H
                                 ·rw [if_neg c296_9z] at H
                                  exact q3n_ H
                            ·rw [if_neg c273_7z] at H
                             exact q3n_ H
                           ·rw [if_neg c271_7] at H
                            have c271_7b0:decide (x7_270<((t254d5_1.length:Int)))=false:=(by simpa using c271_7);clear c271_7;obtain rfl:=Option.some.inj H
                            go_wp2
                            (try simp only [Act.put,sI,s0,sS])
                            go_ret
                            exact ⟨rfl,HO_7.out.base⟩
                       ·replace c248_2_5:=Bool.eq_false_iff.mpr c248_2_5
                        subst c248_2_5;rw [if_neg (show ¬ (false=true) by decide)] at H;obtain rfl:=Option.some.inj H
                        go_wp2
                        (try simp only [Act.put,sI,s0,sS])
                        go_ret
                        exact ⟨rfl,HO_6.out.base⟩


/-- THE ONE PURE STATEMENT of laws_FnDiagramOrders: yours. -/
def laws_FnDiagramOrders.Pure:Prop:=∀ (l0:List Int) (l1:List Int),l0.length≤maxLen→l0.length * 1≤140737488351232→(∀ x∈l0,(Lit.int .u8 x).wf=true)→l1.length≤maxLen→l1.length * 1≤140737488351232→(∀ x∈l1,(Lit.int .u8 x).wf=true)→∃ k,laws_FnDiagramOrders.f k l0 l1=some true
theorem laws_FnDiagramOrders.walk (P:laws_FnDiagramOrders.Pure) (a0:Option Addr) (len0 cap0:Nat) (z0:List Int) (a1:Option Addr) (len1 cap1:Nat) (z1:List Int) (w:World) (w0:(a0=none∧len0=0∧cap0=0∧z0=[])∨∃ x,a0=some x∧len0≤cap0∧cap0≤maxLen∧z0.length=cap0∧(∀ i,i<z0.length→w.cell? (x.add i)=some (.int .u8 (z0.getD i 0)))∧∀ n∈z0,(Lit.int .u8 n).wf=true) (y0:len0 * 1≤140737488351232) (w1:(a1=none∧len1=0∧cap1=0∧z1=[])∨∃ x,a1=some x∧len1≤cap1∧cap1≤maxLen∧z1.length=cap1∧(∀ i,i<z1.length→w.cell? (x.add i)=some (.int .u8 (z1.getD i 0)))∧∀ n∈z1,(Lit.int .u8 n).wf=true) (y1:len1 * 1≤140737488351232) :
  Calls Try.prog 4 #[.slice a0 len0 cap0,.slice a1 len1 cap1] w fun e w'=>e = .returned (.bool true)∧Below w.heap.size w w':=by
 obtain ⟨l0,rfl,hr0,hm0,hw0,hc0⟩:=ReadsInt.ofRowC w0
 obtain ⟨l1,rfl,hr1,hm1,hw1,hc1⟩:=ReadsInt.ofRowC w1
 obtain ⟨k,h⟩:=P l0 l1 hm0 y0 hw0 hm1 y1 hw1
 refine (laws_FnDiagramOrders.calls k _ _ l0 _ _ l1 true w (Kd.C_of_reads (d:=(0:Int)) (h1:=fun _=>rfl) hr0) hc0 (Kd.C_of_reads (d:=(0:Int)) (h1:=fun _=>rfl) hr1) hc1 h).mono ?_
 rintro e w' ⟨rfl,hd⟩
 exact ⟨rfl,hd⟩

end Go.Proofs.Ytlnhpkjioppbiaa.QFnDiagramOrders
