/- Functions of FnDiagramOrders, each as a Lean function, with the proof that the Go code comes to its answers. -/
import Derived.Test.YtlnhpkjioppbiaaSFnDiagramOrdersx3
import Derived.Test.YtlnhpkjioppbiaaSFnDiagramOrdersx8
import Derived.Test.YtlnhpkjioppbiaaSFnDiagramOrdersx12
namespace Go.Proofs.Ytlnhpkjioppbiaa.QFnDiagramOrders
open Go.RowKit Go.Proofs.YtlnhpkjioppbiaaW.PrintWords Go.Proofs.YtlnhpkjioppbiaaW.PrintLast Go.Proofs.YtlnhpkjioppbiaaW.PrintMore
open Go.Proofs.YtlnhpkjioppbiaaW.PrintWords renaming pw_below_drewN→pN,below_drew1→p1,below_alloc→pA
open Go.Proofs.YtlnhpkjioppbiaaW.PrintWords.Kd renaming R_alloc→kA,R_drewN→kN,R_drew→kD,Q_alloc→qA,Q_drewN→qN,Q_drew→qD,C_alloc→cA,C_drewN→cN,C_drew→cD
open Go.Proofs.YtlnhpkjioppbiaaW.PrintWords.Aside0 renaming mk→aM
open List renaming setIfInBounds_toArray→sI,set_cons_zero→s0,set_cons_succ→sS,map_toArray→mT,length_take→lT,length_drop→lD,map_cons→mC,map_nil→mN
open Option renaming bind_eq_some_iff→oB
attribute [local go_sem] max2_int min2_int max_two min_two max_three min_three max_four min_four
set_option maxHeartbeats 8000000
set_option maxRecDepth 100000
set_option linter.unusedVariables false
set_option linter.unusedSimpArgs false
open Option renaming bind_eq_some_iff→oB,bind_some→oS
def impl_CombineDiagrams.f (k:Nat) (a0:Int) (a1_0:Int) (l1_1:List (S93)) (a1_2:Int) (a2_0:Int) (l2_1:List (S93)) (a2_2:Int):Option (Int×(List (S93))×Int×Bool):=(impl_IsDiagram.f k a1_0 l1_1 a1_2).bind fun b11=>if b11=true then ((impl_IsDiagram.f k a2_0 l2_1 a2_2).bind fun b15=>if b15=true then ((impl_tableOfDiagram.f k a1_0 l1_1 a1_2).bind fun b22=>(impl_tableOfDiagram.f k a2_0 l2_1 a2_2).bind fun b24=>(impl_CombineTables.f k a0 b22.1 b22.2 b24.1 b24.2).bind fun b25=>if b25.2.2=true then ((impl_diagramOf.f k b25.1 b25.2.1).bind fun b32=>some (b32.1,b32.2.1,b32.2.2,true)) else (some (0,[],0,false))) else (some (0,[],0,false))) else (some (0,[],0,false))
open Go.Proofs.Ytlnhpkjioppbiaa.Sep in
set_option maxHeartbeats 32000000 in
set_option maxRecDepth 100000 in
theorem impl_CombineDiagrams.calls (k:Nat) (a0:Int) (a1_0:Int) (A1_1:Option Addr) (c1_1:Nat) (l1_1:List (S93)) (a1_2:Int) (a2_0:Int) (A2_1:Option Addr) (c2_1:Nat) (l2_1:List (S93)) (a2_2:Int) (r1:Int) (r2:List (S93)) (r3:Int) (r4:Bool) (w:World) (hr1_1:Kd.C k93 w A1_1 l1_1.length l1_1) (hc1_1:l1_1.length≤c1_1) (hr2_1:Kd.C k93 w A2_1 l2_1.length l2_1) (hc2_1:l2_1.length≤c2_1) (h:impl_CombineDiagrams.f k a0 a1_0 l1_1 a1_2 a2_0 l2_1 a2_2=some (r1,r2,r3,r4)) :
  Calls Try.prog 9 #[.int .i64 a0,.agg #[.int .i64 a1_0,.slice A1_1 l1_1.length c1_1,.int .i64 a1_2],.agg #[.int .i64 a2_0,.slice A2_1 l2_1.length c2_1,.int .i64 a2_2]] w fun e w' => ∃ v1_:Value,e = .returned (.tuple #[.agg #[.int .i64 r1,v1_,.int .i64 r3],.bool r4])∧Kd.R k93 93 w' w.heap.size (fun _=>True) v1_ r2∧Below w.heap.size w w':=by
 have HR1_1:=aM hr1_1
 have HC1_1:=aM hc1_1
 clear hr1_1 hc1_1
 have HR2_1:=aM hr2_1
 have HC2_1:=aM hc2_1
 clear hr2_1 hc2_1
 unfold impl_CombineDiagrams.f at h
 have H:=h
 clear h
 obtain ⟨t11,A_,H_⟩:=oB.mp H
 clear H
 have H:=H_
 clear H_
 (try dsimp only at H)
 have A11:=aM A_
 clear A_
 go_enter Try.func9,Try.ntmps9
 go_upto_region 1 with (first | ((with_reducible refine gate_dst (N:=4) rfl ?_);refine box_event ?hg (N:=4) ?hd (cs:=#[.int .i64 a1_0,.slice A1_1 l1_1.length c1_1,.int .i64 a1_2]) (t:=28) ?hr ?_;(case hd=>rfl);(case hg=>rfl);(case hr=>exact za_);intro g4 hg w_1 hbox hb;have HO_1:=aM ((Sep.Own.nil w).add_box (T:=28) (cs:=#[.int .i64 a1_0,.slice A1_1 l1_1.length c1_1,.int .i64 a1_2]) hg hbox hb);clear hg hbox hb)|((with_reducible refine gate_dst (N:=5) rfl ?_);refine box_event ?hg (N:=5) ?hd (cs:=#[.int .i64 a2_0,.slice A2_1 l2_1.length c2_1,.int .i64 a2_2]) (t:=28) ?hr ?_;(case hd=>rfl);(case hg=>rfl);(case hr=>exact za_);intro g5 hg w_2 hbox hb;have HO_2:=aM (HO_1.out.add_box (T:=28) (cs:=#[.int .i64 a2_0,.slice A2_1 l2_1.length c2_1,.int .i64 a2_2]) hg hbox hb);clear hg hbox hb)|((with_reducible refine gate_dst (N:=6) rfl ?_);refine box_event ?hg (N:=6) ?hd (cs:=#[.int .i64 0,.slice none 0 0,.int .i64 0]) (t:=28) ?hr ?_;(case hd=>rfl);(case hg=>rfl);(case hr=>exact za_);intro g6 hg w_3 hbox hb;have HO_3:=aM (HO_2.out.add_box (T:=28) (cs:=#[.int .i64 0,.slice none 0 0,.int .i64 0]) hg hbox hb);clear hg hbox hb))
 by_cases c11_0:t11=true
 ·subst c11_0
  rw [if_pos rfl] at H;obtain ⟨t15,A_,H_⟩:=oB.mp H;clear H;have H:=H_;clear H_;(try dsimp only at H);have A15:=aM A_;clear A_
  by_cases c15_0:t15=true
  ·subst c15_0
   rw [if_pos rfl] at H;obtain ⟨⟨t22_0,t22_1⟩,A_,H_⟩:=oB.mp H;clear H;have H:=H_;clear H_;(try dsimp only at H);have A22:=aM A_;clear A_;obtain ⟨⟨t24_0,t24_1⟩,A_,H_⟩:=oB.mp H;clear H;have H:=H_;clear H_;(try dsimp only at H);have A24:=aM A_;clear A_;obtain ⟨⟨t25_0,t25_1,t25_2⟩,A_,H_⟩:=oB.mp H;clear H;have H:=H_;clear H_;(try dsimp only at H);have A25:=aM A_;clear A_;have z_1:w_3.cell? ⟨g4,0,none⟩=some (.int .i64 a1_0):=(HO_3.out.cell 2 rfl 0 rfl);have z_2:w_3.cell? ⟨g4,1,none⟩=some (.slice A1_1 l1_1.length c1_1):=(HO_3.out.cell 2 rfl 1 rfl);have z_3:w_3.cell? ⟨g4,2,none⟩=some (.int .i64 a1_2):=(HO_3.out.cell 2 rfl 2 rfl)
   go_wp2_with (first | ((with_reducible refine gate_callee (f:=22) rfl ?_);refine goesL_ (some 11) rfl rfl Try.func22 (by kernel_rfl) rfl #[.agg #[.int .i64 a1_0,.slice A1_1 l1_1.length c1_1,.int .i64 a1_2]] rfl ze_ ?_;(with_reducible refine (impl_IsDiagram.calls k a1_0 A1_1 c1_1 l1_1 a1_2 true _ zdf_ HC1_1.out A11.out).mono ?_);rintro e w_4 ⟨rfl,hb⟩;refine ⟨_,rfl,?_⟩;have ho:=HO_3.out.below hb;clear hb;have HO_4:=aM ho;clear ho;have z_4:w_4.cell? ⟨g5,0,none⟩=some (.int .i64 a2_0):=(HO_4.out.cell 1 rfl 0 rfl);have z_5:w_4.cell? ⟨g5,1,none⟩=some (.slice A2_1 l2_1.length c2_1):=(HO_4.out.cell 1 rfl 1 rfl);have z_6:w_4.cell? ⟨g5,2,none⟩=some (.int .i64 a2_2):=(HO_4.out.cell 1 rfl 2 rfl))|(go_at_call 22;(with_reducible refine (impl_IsDiagram.calls k a2_0 A2_1 c2_1 l2_1 a2_2 true _ zea_ HC2_1.out A15.out).mono ?_);rintro e w_5 ⟨rfl,hb⟩;have ho:=HO_4.out.below hb;clear hb;have HO_5:=aM ho;clear ho))
   have HD_3_6:=aM (HO_5.out.drew)
   refine start_ (n:=12) (S:=fun w'=>w'.cell? ⟨g4,0,none⟩=some (.int .i64 a1_0)∧w'.cell? ⟨g4,1,none⟩=some (.slice A1_1 l1_1.length c1_1)∧w'.cell? ⟨g4,2,none⟩=some (.int .i64 a1_2)∧w'.cell? ⟨g5,0,none⟩=some (.int .i64 a2_0)∧w'.cell? ⟨g5,1,none⟩=some (.slice A2_1 l2_1.length c2_1)∧w'.cell? ⟨g5,2,none⟩=some (.int .i64 a2_2)) (ds:=[]) #[fi,fi,fi,fi,fi,fi,fi,fi,fi,fi,fi,fi] (by kernel_rfl) rfl rfl ⟨(HD_3_6.out.cell 2 rfl 0 rfl),(HD_3_6.out.cell 2 rfl 1 rfl),(HD_3_6.out.cell 2 rfl 2 rfl),(HD_3_6.out.cell 1 rfl 0 rfl),(HD_3_6.out.cell 1 rfl 1 rfl),(HD_3_6.out.cell 1 rfl 2 rfl)⟩ (fun hHeld=>?_)
   generalize w_5.drew=wd_3_7 at HD_3_6 hHeld ⊢
   refine oz_ 0 20 ?_
   refine tz6_ 1 21 hHeld ?_
   refine tz6_ 3 23 hHeld ?_
   refine join_ (σ:=Nat×Value×Value×Value) 2 #[ti,ti,ti,ti,ti,ti,ti,ti,ti,ti,fi,fi] (fun s => [(22,.agg #[.int .i64 t22_0,s.2.2.2]),(24,.agg #[.int .i64 t24_0,s.2.2.1]),(25,.tuple #[.agg #[.int .i64 t25_0,s.2.1],.bool t25_2]),(8,.pointer (some ⟨s.1,0,none⟩)),(19,.tuple #[.agg #[.int .i64 t25_0,s.2.1],.bool t25_2]),(26,.agg #[.int .i64 t25_0,s.2.1]),(27,.bool t25_2)]) (fun s w'=>(w'.cell? ⟨g4,0,none⟩=some (.int .i64 a1_0)∧w'.cell? ⟨g4,1,none⟩=some (.slice A1_1 l1_1.length c1_1)∧w'.cell? ⟨g4,2,none⟩=some (.int .i64 a1_2)∧w'.cell? ⟨g5,0,none⟩=some (.int .i64 a2_0)∧w'.cell? ⟨g5,1,none⟩=some (.slice A2_1 l2_1.length c2_1)∧w'.cell? ⟨g5,2,none⟩=some (.int .i64 a2_2))∧Own w w' [Item.box s.1 41 #[.int .i64 0,.slice none 0 0],Item.row (Kd.int .i64) 3 (s.2.1) t25_1,Item.row (Kd.int .i64) 3 (s.2.2.1) t24_1,Item.row (Kd.int .i64) 3 (s.2.2.2) t22_1,Item.box g6 28 #[.int .i64 0,.slice none 0 0,.int .i64 0],Item.box g5 28 #[.int .i64 a2_0,.slice A2_1 l2_1.length c2_1,.int .i64 a2_2],Item.box g4 28 #[.int .i64 a1_0,.slice A1_1 l1_1.length c1_1,.int .i64 a1_2]]) ?_ ?_
   rotate_left
   ·intro hCont
    refine two_ (i:=2) (j:=9) (Ni:=some 22) (Nj:=some 8) #[ti,ti,ti,ti,fi,fi,fi,fi,fi,fi,fi,fi] #[ti,ti,fi,ti,fi,fi,fi,fi,fi,ti,fi,fi] rfl rfl rfl rfl (by kernel_rfl) (by decide) (by decide) (fun K hK=>?_) (fun K hK=>?_)
    ·skip
     refine goes_ Try.func56 (by kernel_rfl) rfl #[.agg #[.int .i64 a1_0,.slice A1_1 l1_1.length c1_1,.int .i64 a1_2]] (by rfl) rfl rfl zh_ ?_
     (with_reducible refine (impl_tableOfDiagram.calls k a1_0 A1_1 c1_1 l1_1 a1_2 t22_0 t22_1 _ (by exact (Kd.C_below HR1_1.out HD_3_6.out.base)) HC1_1.out A22.out).mono ?_)
     rintro e w_6 ⟨x_22,rfl,ho1,hb⟩
     refine ⟨_,rfl,?_⟩
     have ho:=HD_3_6.out.add_row ho1 hb;clear ho1 hb;obtain ⟨A_22,c_22,e_22⟩:=ho.row_slice 0 rfl;subst e_22;have HO_6:=aM ho;clear ho
     refine hK.out _ _ ⟨(HO_6.out.cell 3 rfl 0 rfl),(HO_6.out.cell 3 rfl 1 rfl),(HO_6.out.cell 3 rfl 2 rfl),(HO_6.out.cell 2 rfl 0 rfl),(HO_6.out.cell 2 rfl 1 rfl),(HO_6.out.cell 2 rfl 2 rfl)⟩ (fun hHeld=>?_)
     clear hK K
     refine nz_ 22 ?_
     refine two_ (i:=4) (j:=9) (Ni:=some 24) (Nj:=some 8) #[ti,ti,ti,ti,ti,fi,fi,fi,fi,fi,fi,fi] #[ti,ti,ti,ti,fi,fi,fi,fi,fi,ti,fi,fi] rfl rfl rfl rfl (by kernel_rfl) (by decide) (by decide) (fun K hK=>?_) (fun K hK=>?_)
     ·skip
      refine goes_ Try.func56 (by kernel_rfl) rfl #[.agg #[.int .i64 a2_0,.slice A2_1 l2_1.length c2_1,.int .i64 a2_2]] (by rfl) rfl rfl zh_ ?_
      (with_reducible refine (impl_tableOfDiagram.calls k a2_0 A2_1 c2_1 l2_1 a2_2 t24_0 t24_1 _ (by exact (Kd.C_below HR2_1.out HO_6.out.base)) HC2_1.out A24.out).mono ?_)
      rintro e w_7 ⟨x_24,rfl,ho1,hb⟩
      refine ⟨_,rfl,?_⟩
      have ho:=HO_6.out.add_row ho1 hb;clear ho1 hb;obtain ⟨A_24,c_24,e_24⟩:=ho.row_slice 0 rfl;subst e_24;have HO_7:=aM ho;clear ho
      refine hK.out _ _ ⟨(HO_7.out.cell 4 rfl 0 rfl),(HO_7.out.cell 4 rfl 1 rfl),(HO_7.out.cell 4 rfl 2 rfl),(HO_7.out.cell 3 rfl 0 rfl),(HO_7.out.cell 3 rfl 1 rfl),(HO_7.out.cell 3 rfl 2 rfl)⟩ (fun hHeld=>?_)
      clear hK K
      refine nz_ 24 ?_
      refine two_ (i:=5) (j:=9) (Ni:=some 25) (Nj:=some 8) #[ti,ti,ti,ti,ti,ti,fi,fi,fi,fi,fi,fi] #[ti,ti,ti,ti,ti,fi,fi,fi,fi,ti,fi,fi] rfl rfl rfl rfl (by kernel_rfl) (by decide) (by decide) (fun K hK=>?_) (fun K hK=>?_)
      ·skip
       refine goes_ Try.func17 (by kernel_rfl) rfl #[.int .i64 a0,.agg #[.int .i64 t22_0,.slice A_22 t22_1.length c_22],.agg #[.int .i64 t24_0,.slice A_24 t24_1.length c_24]] (by rfl) rfl rfl zh_ ?_
       (with_reducible refine (impl_CombineTables.calls k a0 t22_0 A_22 c_22 t22_1 t24_0 A_24 c_24 t24_1 t25_0 t25_1 t25_2 _ (HO_7.out.row_reads 1 rfl).2.2 (HO_7.out.row_reads 1 rfl).2.1 (HO_7.out.row_reads 0 rfl).2.2 (HO_7.out.row_reads 0 rfl).2.1 A25.out).mono ?_)
       rintro e w_8 ⟨x_25,rfl,ho1,hb⟩
       refine ⟨_,rfl,?_⟩
       have ho:=HO_7.out.add_row ho1 hb;clear ho1 hb;obtain ⟨A_25,c_25,e_25⟩:=ho.row_slice 0 rfl;subst e_25;have HO_8:=aM ho;clear ho
       refine hK.out _ _ ⟨(HO_8.out.cell 5 rfl 0 rfl),(HO_8.out.cell 5 rfl 1 rfl),(HO_8.out.cell 5 rfl 2 rfl),(HO_8.out.cell 4 rfl 0 rfl),(HO_8.out.cell 4 rfl 1 rfl),(HO_8.out.cell 4 rfl 2 rfl)⟩ (fun hHeld=>?_)
       clear hK K
       refine nz_ 25 ?_
       refine oz_ 6 19 ?_
       refine oz_ 7 26 ?_
       refine oz_ 8 27 ?_
       refine oo_ 9 8 (fun K hK=>?_)
       refine value_ (w1:=?_) (v:=?_) (by rfl) rfl ?_ ?_
       rotate_left 2
       ·go_simp
        constructor
        ·rfl
        ·rfl
       obtain ⟨g8,hg⟩:∃ g_:Nat,g_=(w_8).heap.size:=⟨_,rfl⟩;(try rw [← hg]);have ho:=HO_8.out.add_box (w1:=w_8.alloc (.cells #[.int .i64 0,.slice none 0 0] 41)) (g:=g8) (T:=41) (cs:=#[.int .i64 0,.slice none 0 0]) hg zei_ (pA (Below.refl _ _) _);generalize World.alloc w_8 _=w_9 at ho ⊢;have HO_9:=aM ho;clear ho hg
       refine hK.out _ _ ⟨(HO_9.out.cell 6 rfl 0 rfl),(HO_9.out.cell 6 rfl 1 rfl),(HO_9.out.cell 6 rfl 2 rfl),(HO_9.out.cell 5 rfl 0 rfl),(HO_9.out.cell 5 rfl 1 rfl),(HO_9.out.cell 5 rfl 2 rfl)⟩ (fun hHeld=>?_)
       clear hK K
       refine nz_ 8 ?_
       exact norm_ (by simp only [putAll,Act.put,sI,s0,sS]) (hCont (g8,(.slice A_25 t25_1.length c_25:Value),(.slice A_24 t24_1.length c_24:Value),(.slice A_22 t22_1.length c_22:Value)) _ ⟨⟨(HO_9.out.cell 6 rfl 0 rfl),(HO_9.out.cell 6 rfl 1 rfl),(HO_9.out.cell 6 rfl 2 rfl),(HO_9.out.cell 5 rfl 0 rfl),(HO_9.out.cell 5 rfl 1 rfl),(HO_9.out.cell 5 rfl 2 rfl)⟩,(((((((HO_9.out.front 6 rfl).front 6 rfl).front 6 rfl).front 6 rfl).front 6 rfl).front 6 rfl).front 6 rfl)⟩)
      ·skip
       refine value_ (w1:=?_) (v:=?_) (by rfl) rfl ?_ ?_
       rotate_left 2
       ·go_simp
        constructor
        ·rfl
        ·rfl
       obtain ⟨g8,hg⟩:∃ g_:Nat,g_=(w_7).heap.size:=⟨_,rfl⟩;(try rw [← hg]);have ho:=HO_7.out.add_box (w1:=w_7.alloc (.cells #[.int .i64 0,.slice none 0 0] 41)) (g:=g8) (T:=41) (cs:=#[.int .i64 0,.slice none 0 0]) hg zei_ (pA (Below.refl _ _) _);generalize World.alloc w_7 _=w_8 at ho ⊢;have HO_8:=aM ho;clear ho hg
       refine hK.out _ _ ⟨(HO_8.out.cell 5 rfl 0 rfl),(HO_8.out.cell 5 rfl 1 rfl),(HO_8.out.cell 5 rfl 2 rfl),(HO_8.out.cell 4 rfl 0 rfl),(HO_8.out.cell 4 rfl 1 rfl),(HO_8.out.cell 4 rfl 2 rfl)⟩ (fun hHeld=>?_)
       clear hK K
       refine nz_ 8 ?_
       refine oo_ 5 25 (fun K hK=>?_)
       refine goes_ Try.func17 (by kernel_rfl) rfl #[.int .i64 a0,.agg #[.int .i64 t22_0,.slice A_22 t22_1.length c_22],.agg #[.int .i64 t24_0,.slice A_24 t24_1.length c_24]] (by rfl) rfl rfl zh_ ?_
       (with_reducible refine (impl_CombineTables.calls k a0 t22_0 A_22 c_22 t22_1 t24_0 A_24 c_24 t24_1 t25_0 t25_1 t25_2 _ (HO_8.out.row_reads 2 rfl).2.2 (HO_8.out.row_reads 2 rfl).2.1 (HO_8.out.row_reads 1 rfl).2.2 (HO_8.out.row_reads 1 rfl).2.1 A25.out).mono ?_)
       rintro e w_9 ⟨x_25,rfl,ho1,hb⟩
       refine ⟨_,rfl,?_⟩
       have ho:=HO_8.out.add_row ho1 hb;clear ho1 hb;obtain ⟨A_25,c_25,e_25⟩:=ho.row_slice 0 rfl;subst e_25;have HO_9:=aM ho;clear ho
       refine hK.out _ _ ⟨(HO_9.out.cell 6 rfl 0 rfl),(HO_9.out.cell 6 rfl 1 rfl),(HO_9.out.cell 6 rfl 2 rfl),(HO_9.out.cell 5 rfl 0 rfl),(HO_9.out.cell 5 rfl 1 rfl),(HO_9.out.cell 5 rfl 2 rfl)⟩ (fun hHeld=>?_)
       clear hK K
       refine nz_ 25 ?_
       refine oz_ 6 19 ?_
       refine oz_ 7 26 ?_
       refine oz_ 8 27 ?_
       exact norm_ (by simp only [putAll,Act.put,sI,s0,sS]) (hCont (g8,(.slice A_25 t25_1.length c_25:Value),(.slice A_24 t24_1.length c_24:Value),(.slice A_22 t22_1.length c_22:Value)) _ ⟨⟨(HO_9.out.cell 6 rfl 0 rfl),(HO_9.out.cell 6 rfl 1 rfl),(HO_9.out.cell 6 rfl 2 rfl),(HO_9.out.cell 5 rfl 0 rfl),(HO_9.out.cell 5 rfl 1 rfl),(HO_9.out.cell 5 rfl 2 rfl)⟩,(((((((HO_9.out.front 6 rfl).front 6 rfl).front 6 rfl).front 6 rfl).front 6 rfl).front 5 rfl).front 6 rfl)⟩)
     ·skip
      refine value_ (w1:=?_) (v:=?_) (by rfl) rfl ?_ ?_
      rotate_left 2
      ·go_simp
       constructor
       ·rfl
       ·rfl
      obtain ⟨g8,hg⟩:∃ g_:Nat,g_=(w_6).heap.size:=⟨_,rfl⟩;(try rw [← hg]);have ho:=HO_6.out.add_box (w1:=w_6.alloc (.cells #[.int .i64 0,.slice none 0 0] 41)) (g:=g8) (T:=41) (cs:=#[.int .i64 0,.slice none 0 0]) hg zei_ (pA (Below.refl _ _) _);generalize World.alloc w_6 _=w_7 at ho ⊢;have HO_7:=aM ho;clear ho hg
      refine hK.out _ _ ⟨(HO_7.out.cell 4 rfl 0 rfl),(HO_7.out.cell 4 rfl 1 rfl),(HO_7.out.cell 4 rfl 2 rfl),(HO_7.out.cell 3 rfl 0 rfl),(HO_7.out.cell 3 rfl 1 rfl),(HO_7.out.cell 3 rfl 2 rfl)⟩ (fun hHeld=>?_)
      clear hK K
      refine nz_ 8 ?_
      refine oo_ 4 24 (fun K hK=>?_)
      refine goes_ Try.func56 (by kernel_rfl) rfl #[.agg #[.int .i64 a2_0,.slice A2_1 l2_1.length c2_1,.int .i64 a2_2]] (by rfl) rfl rfl zh_ ?_
      (with_reducible refine (impl_tableOfDiagram.calls k a2_0 A2_1 c2_1 l2_1 a2_2 t24_0 t24_1 _ (by exact (Kd.C_below HR2_1.out HO_7.out.base)) HC2_1.out A24.out).mono ?_)
      rintro e w_8 ⟨x_24,rfl,ho1,hb⟩
      refine ⟨_,rfl,?_⟩
      have ho:=HO_7.out.add_row ho1 hb;clear ho1 hb;obtain ⟨A_24,c_24,e_24⟩:=ho.row_slice 0 rfl;subst e_24;have HO_8:=aM ho;clear ho
      refine hK.out _ _ ⟨(HO_8.out.cell 5 rfl 0 rfl),(HO_8.out.cell 5 rfl 1 rfl),(HO_8.out.cell 5 rfl 2 rfl),(HO_8.out.cell 4 rfl 0 rfl),(HO_8.out.cell 4 rfl 1 rfl),(HO_8.out.cell 4 rfl 2 rfl)⟩ (fun hHeld=>?_)
      clear hK K
      refine nz_ 24 ?_
      refine oo_ 5 25 (fun K hK=>?_)
      refine goes_ Try.func17 (by kernel_rfl) rfl #[.int .i64 a0,.agg #[.int .i64 t22_0,.slice A_22 t22_1.length c_22],.agg #[.int .i64 t24_0,.slice A_24 t24_1.length c_24]] (by rfl) rfl rfl zh_ ?_
      (with_reducible refine (impl_CombineTables.calls k a0 t22_0 A_22 c_22 t22_1 t24_0 A_24 c_24 t24_1 t25_0 t25_1 t25_2 _ (HO_8.out.row_reads 2 rfl).2.2 (HO_8.out.row_reads 2 rfl).2.1 (HO_8.out.row_reads 0 rfl).2.2 (HO_8.out.row_reads 0 rfl).2.1 A25.out).mono ?_)
      rintro e w_9 ⟨x_25,rfl,ho1,hb⟩
      refine ⟨_,rfl,?_⟩
      have ho:=HO_8.out.add_row ho1 hb;clear ho1 hb;obtain ⟨A_25,c_25,e_25⟩:=ho.row_slice 0 rfl;subst e_25;have HO_9:=aM ho;clear ho
      refine hK.out _ _ ⟨(HO_9.out.cell 6 rfl 0 rfl),(HO_9.out.cell 6 rfl 1 rfl),(HO_9.out.cell 6 rfl 2 rfl),(HO_9.out.cell 5 rfl 0 rfl),(HO_9.out.cell 5 rfl 1 rfl),(HO_9.out.cell 5 rfl 2 rfl)⟩ (fun hHeld=>?_)
      clear hK K
      refine nz_ 25 ?_
      refine oz_ 6 19 ?_
      refine oz_ 7 26 ?_
      refine oz_ 8 27 ?_
      exact norm_ (by simp only [putAll,Act.put,sI,s0,sS]) (hCont (g8,(.slice A_25 t25_1.length c_25:Value),(.slice A_24 t24_1.length c_24:Value),(.slice A_22 t22_1.length c_22:Value)) _ ⟨⟨(HO_9.out.cell 6 rfl 0 rfl),(HO_9.out.cell 6 rfl 1 rfl),(HO_9.out.cell 6 rfl 2 rfl),(HO_9.out.cell 5 rfl 0 rfl),(HO_9.out.cell 5 rfl 1 rfl),(HO_9.out.cell 5 rfl 2 rfl)⟩,(((((((HO_9.out.front 6 rfl).front 6 rfl).front 6 rfl).front 6 rfl).front 5 rfl).front 5 rfl).front 6 rfl)⟩)
    ·skip
     refine value_ (w1:=?_) (v:=?_) (by rfl) rfl ?_ ?_
     rotate_left 2
     ·go_simp
      constructor
      ·rfl
      ·rfl
     obtain ⟨g8,hg⟩:∃ g_:Nat,g_=(wd_3_7).heap.size:=⟨_,rfl⟩;(try rw [← hg]);have ho:=HD_3_6.out.add_box (w1:=wd_3_7.alloc (.cells #[.int .i64 0,.slice none 0 0] 41)) (g:=g8) (T:=41) (cs:=#[.int .i64 0,.slice none 0 0]) hg zei_ (pA (Below.refl _ _) _);generalize World.alloc wd_3_7 _=w_6 at ho ⊢;have HO_6:=aM ho;clear ho hg
     refine hK.out _ _ ⟨(HO_6.out.cell 3 rfl 0 rfl),(HO_6.out.cell 3 rfl 1 rfl),(HO_6.out.cell 3 rfl 2 rfl),(HO_6.out.cell 2 rfl 0 rfl),(HO_6.out.cell 2 rfl 1 rfl),(HO_6.out.cell 2 rfl 2 rfl)⟩ (fun hHeld=>?_)
     clear hK K
     refine nz_ 8 ?_
     refine oo_ 2 22 (fun K hK=>?_)
     refine goes_ Try.func56 (by kernel_rfl) rfl #[.agg #[.int .i64 a1_0,.slice A1_1 l1_1.length c1_1,.int .i64 a1_2]] (by rfl) rfl rfl zh_ ?_
     (with_reducible refine (impl_tableOfDiagram.calls k a1_0 A1_1 c1_1 l1_1 a1_2 t22_0 t22_1 _ (by exact (Kd.C_below HR1_1.out HO_6.out.base)) HC1_1.out A22.out).mono ?_)
     rintro e w_7 ⟨x_22,rfl,ho1,hb⟩
     refine ⟨_,rfl,?_⟩
     have ho:=HO_6.out.add_row ho1 hb;clear ho1 hb;obtain ⟨A_22,c_22,e_22⟩:=ho.row_slice 0 rfl;subst e_22;have HO_7:=aM ho;clear ho
     refine hK.out _ _ ⟨(HO_7.out.cell 4 rfl 0 rfl),(HO_7.out.cell 4 rfl 1 rfl),(HO_7.out.cell 4 rfl 2 rfl),(HO_7.out.cell 3 rfl 0 rfl),(HO_7.out.cell 3 rfl 1 rfl),(HO_7.out.cell 3 rfl 2 rfl)⟩ (fun hHeld=>?_)
     clear hK K
     refine nz_ 22 ?_
     refine oo_ 4 24 (fun K hK=>?_)
     refine goes_ Try.func56 (by kernel_rfl) rfl #[.agg #[.int .i64 a2_0,.slice A2_1 l2_1.length c2_1,.int .i64 a2_2]] (by rfl) rfl rfl zh_ ?_
     (with_reducible refine (impl_tableOfDiagram.calls k a2_0 A2_1 c2_1 l2_1 a2_2 t24_0 t24_1 _ (by exact (Kd.C_below HR2_1.out HO_7.out.base)) HC2_1.out A24.out).mono ?_)
     rintro e w_8 ⟨x_24,rfl,ho1,hb⟩
     refine ⟨_,rfl,?_⟩
     have ho:=HO_7.out.add_row ho1 hb;clear ho1 hb;obtain ⟨A_24,c_24,e_24⟩:=ho.row_slice 0 rfl;subst e_24;have HO_8:=aM ho;clear ho
     refine hK.out _ _ ⟨(HO_8.out.cell 5 rfl 0 rfl),(HO_8.out.cell 5 rfl 1 rfl),(HO_8.out.cell 5 rfl 2 rfl),(HO_8.out.cell 4 rfl 0 rfl),(HO_8.out.cell 4 rfl 1 rfl),(HO_8.out.cell 4 rfl 2 rfl)⟩ (fun hHeld=>?_)
     clear hK K
     refine nz_ 24 ?_
     refine oo_ 5 25 (fun K hK=>?_)
     refine goes_ Try.func17 (by kernel_rfl) rfl #[.int .i64 a0,.agg #[.int .i64 t22_0,.slice A_22 t22_1.length c_22],.agg #[.int .i64 t24_0,.slice A_24 t24_1.length c_24]] (by rfl) rfl rfl zh_ ?_
     (with_reducible refine (impl_CombineTables.calls k a0 t22_0 A_22 c_22 t22_1 t24_0 A_24 c_24 t24_1 t25_0 t25_1 t25_2 _ (HO_8.out.row_reads 1 rfl).2.2 (HO_8.out.row_reads 1 rfl).2.1 (HO_8.out.row_reads 0 rfl).2.2 (HO_8.out.row_reads 0 rfl).2.1 A25.out).mono ?_)
     rintro e w_9 ⟨x_25,rfl,ho1,hb⟩
     refine ⟨_,rfl,?_⟩
     have ho:=HO_8.out.add_row ho1 hb;clear ho1 hb;obtain ⟨A_25,c_25,e_25⟩:=ho.row_slice 0 rfl;subst e_25;have HO_9:=aM ho;clear ho
     refine hK.out _ _ ⟨(HO_9.out.cell 6 rfl 0 rfl),(HO_9.out.cell 6 rfl 1 rfl),(HO_9.out.cell 6 rfl 2 rfl),(HO_9.out.cell 5 rfl 0 rfl),(HO_9.out.cell 5 rfl 1 rfl),(HO_9.out.cell 5 rfl 2 rfl)⟩ (fun hHeld=>?_)
     clear hK K
     refine nz_ 25 ?_
     refine oz_ 6 19 ?_
     refine oz_ 7 26 ?_
     refine oz_ 8 27 ?_
     exact norm_ (by simp only [putAll,Act.put,sI,s0,sS]) (hCont (g8,(.slice A_25 t25_1.length c_25:Value),(.slice A_24 t24_1.length c_24:Value),(.slice A_22 t22_1.length c_22:Value)) _ ⟨⟨(HO_9.out.cell 6 rfl 0 rfl),(HO_9.out.cell 6 rfl 1 rfl),(HO_9.out.cell 6 rfl 2 rfl),(HO_9.out.cell 5 rfl 0 rfl),(HO_9.out.cell 5 rfl 1 rfl),(HO_9.out.cell 5 rfl 2 rfl)⟩,(((((((HO_9.out.front 6 rfl).front 6 rfl).front 6 rfl).front 5 rfl).front 5 rfl).front 5 rfl).front 6 rfl)⟩)
   rintro ⟨g8,xr25,xr24,xr22⟩ wj_8 ⟨hHeld,ho⟩
   obtain ⟨A_25,c_25,rfl⟩:=ho.row_slice 1 rfl;obtain ⟨A_24,c_24,rfl⟩:=ho.row_slice 2 rfl;obtain ⟨A_22,c_22,rfl⟩:=ho.row_slice 3 rfl;have HOJ_8:=aM ho;clear ho
   refine norm_ (a':=?_) ?_ ?_
   rotate_left
   ·simp only [putAll,Act.put,sI,s0,sS]
    rfl
   refine one_ (i:=10) (N:=none) #[ti,ti,ti,ti,ti,ti,ti,ti,ti,ti,ti,fi] rfl rfl (by kernel_rfl) (by decide) (fun K hK=>?_)
   refine Sep.own_store_step HOJ_8.out 0 g8 41 _ #[.int .i64 t25_0,.slice A_25 t25_1.length c_25] rfl (by rfl) rfl 41 (.tmp 8) (.tmp 26) rfl rfl _ rfl rfl rfl (by kernel_rfl) (by simp [Value.oneCell']) ?_
   intro w_60 ho
   have HO_60:=aM ho;clear ho
   refine hK.out _ _ ⟨(HO_60.out.cell 6 rfl 0 rfl),(HO_60.out.cell 6 rfl 1 rfl),(HO_60.out.cell 6 rfl 2 rfl),(HO_60.out.cell 5 rfl 0 rfl),(HO_60.out.cell 5 rfl 1 rfl),(HO_60.out.cell 5 rfl 2 rfl)⟩ (fun hHeld=>?_)
   clear hK K
   refine oz_ 11 9 ?_
   refine done_ (by kernel_rfl) ?_
   go_upto_region 4 with (fail)
   by_cases c25_2:t25_2=true
   ·subst c25_2
    rw [if_pos rfl] at H;obtain ⟨⟨t32_0,t32_1,t32_2⟩,A_,H_⟩:=oB.mp H;clear H;have H:=H_;clear H_;(try dsimp only at H);have A32:=aM A_;clear A_
    injection H with H
    injection H with e_0 H
    injection H with e_1 H
    injection H with e_2 H
    subst e_0;subst e_1;subst e_2;subst H;have z_9:w_60.cell? ⟨g8,0,none⟩=some (.int .i64 t25_0):=(HO_60.out.cell 0 rfl 0 rfl);have z_10:w_60.cell? ⟨g8,1,none⟩=some (.slice A_25 t25_1.length c_25):=(HO_60.out.cell 0 rfl 1 rfl)
    go_wp2_with (first | ((with_reducible refine gate_callee (f:=57) rfl ?_);refine goesL_ (some 32) rfl rfl Try.func57 (by kernel_rfl) rfl #[.agg #[.int .i64 t25_0,.slice A_25 t25_1.length c_25]] rfl ze_ ?_;(with_reducible refine (impl_diagramOf.calls k t25_0 A_25 c_25 t25_1 t32_0 t32_1 t32_2 _ (HO_60.out.row_reads 1 rfl).2.2 (HO_60.out.row_reads 1 rfl).2.1 A32.out).mono ?_);rintro e w_61 ⟨x_32,rfl,ho1,hb⟩;refine ⟨_,rfl,?_⟩;have ho:=HO_60.out.add_row ho1 hb;clear ho1 hb;obtain ⟨A_32,c_32,e_32⟩:=ho.row_slice 0 rfl;subst e_32;have HO_61:=aM ho;clear ho)|((with_reducible refine gate_store (t:=28) (p:=6) (v := .tmp 32) rfl ?_);refine Sep.own_store HO_61.out 5 g6 28 _ #[.int .i64 t32_0,.slice A_32 t32_1.length c_32,.int .i64 t32_2] rfl rfl rfl 28 (.tmp 6) (.tmp 32) rfl rfl _ rfl rfl rfl (by kernel_rfl) (by simp [Value.oneCell']) ?_;intro w_62 ho;have HO_62:=aM ho;clear ho))
    (try simp only [Act.put,sI,s0,sS]);obtain ⟨f_,hf_⟩:=HO_62.out.2;(try simp only [Exit.inBlock,Exit.then])
    refine bodyPost_ret (results_list (rs:=[.cell 6 28,.tmp 7]) rfl (by simp) (.cell g6 28 #[.int .i64 t32_0,.slice A_32 t32_1.length c_32,.int .i64 t32_2] (0,0) _ rfl (HO_62.out.blk 5 rfl) Try.underlying28 rfl (by kernel_rfl) (.tmp .nil))) rfl ?_
    exact ⟨_,rfl,Kd.R_mono (hf_ 0 _ rfl) (fun k_ hk_=>trivial),HO_62.out.base⟩
   ·replace c25_2:=Bool.eq_false_iff.mpr c25_2
    subst c25_2;rw [if_neg (show ¬ (false=true) by decide)] at H
    injection H with H
    injection H with e_0 H
    injection H with e_1 H
    injection H with e_2 H
    subst e_0;subst e_1;subst e_2;subst H
    go_wp2_with (first | ((with_reducible refine gate_store (t:=28) (p:=6) (v := .tmp 30) rfl ?_);refine Sep.own_store HO_60.out 4 g6 28 _ #[.int .i64 0,.slice none 0 0,.int .i64 0] rfl rfl rfl 28 (.tmp 6) (.tmp 30) rfl rfl _ rfl rfl rfl (by kernel_rfl) (by simp [Value.oneCell']) ?_;intro w_61 ho;have HO_61:=aM ho;clear ho))
    (try simp only [Act.put,sI,s0,sS]);(try simp only [Exit.inBlock,Exit.then])
    refine bodyPost_ret (results_list (rs:=[.cell 6 28,.tmp 7]) rfl (by simp) (.cell g6 28 #[.int .i64 0,.slice none 0 0,.int .i64 0] (0,0) _ rfl (HO_61.out.blk 4 rfl) Try.underlying28 rfl (by kernel_rfl) (.tmp .nil))) rfl ?_
    exact ⟨_,rfl,Kd.R_nil _ _ _ _ _,HO_61.out.base⟩
  ·replace c15_0:=Bool.eq_false_iff.mpr c15_0
   subst c15_0;rw [if_neg (show ¬ (false=true) by decide)] at H
   injection H with H
   injection H with e_0 H
   injection H with e_1 H
   injection H with e_2 H
   subst e_0;subst e_1;subst e_2;subst H;have z_1:w_3.cell? ⟨g4,0,none⟩=some (.int .i64 a1_0):=(HO_3.out.cell 2 rfl 0 rfl);have z_2:w_3.cell? ⟨g4,1,none⟩=some (.slice A1_1 l1_1.length c1_1):=(HO_3.out.cell 2 rfl 1 rfl);have z_3:w_3.cell? ⟨g4,2,none⟩=some (.int .i64 a1_2):=(HO_3.out.cell 2 rfl 2 rfl)
   go_wp2_with (first | ((with_reducible refine gate_callee (f:=22) rfl ?_);refine goesL_ (some 11) rfl rfl Try.func22 (by kernel_rfl) rfl #[.agg #[.int .i64 a1_0,.slice A1_1 l1_1.length c1_1,.int .i64 a1_2]] rfl ze_ ?_;(with_reducible refine (impl_IsDiagram.calls k a1_0 A1_1 c1_1 l1_1 a1_2 true _ zdf_ HC1_1.out A11.out).mono ?_);rintro e w_4 ⟨rfl,hb⟩;refine ⟨_,rfl,?_⟩;have ho:=HO_3.out.below hb;clear hb;have HO_4:=aM ho;clear ho;have z_4:w_4.cell? ⟨g5,0,none⟩=some (.int .i64 a2_0):=(HO_4.out.cell 1 rfl 0 rfl);have z_5:w_4.cell? ⟨g5,1,none⟩=some (.slice A2_1 l2_1.length c2_1):=(HO_4.out.cell 1 rfl 1 rfl);have z_6:w_4.cell? ⟨g5,2,none⟩=some (.int .i64 a2_2):=(HO_4.out.cell 1 rfl 2 rfl))|(go_at_call 22;(with_reducible refine (impl_IsDiagram.calls k a2_0 A2_1 c2_1 l2_1 a2_2 false _ zea_ HC2_1.out A15.out).mono ?_);rintro e w_5 ⟨rfl,hb⟩;have ho:=HO_4.out.below hb;clear hb;have HO_5:=aM ho;clear ho)|((with_reducible refine gate_store (t:=28) (p:=6) (v := .tmp 18) rfl ?_);refine Sep.own_store HO_5.out 0 g6 28 _ #[.int .i64 0,.slice none 0 0,.int .i64 0] rfl rfl rfl 28 (.tmp 6) (.tmp 18) rfl rfl _ rfl rfl rfl (by kernel_rfl) (by simp [Value.oneCell']) ?_;intro w_6 ho;have HO_6:=aM ho;clear ho))
   (try simp only [Act.put,sI,s0,sS]);(try simp only [Exit.inBlock,Exit.then])
   refine bodyPost_ret (results_list (rs:=[.cell 6 28,.tmp 7]) rfl (by simp) (.cell g6 28 #[.int .i64 0,.slice none 0 0,.int .i64 0] (0,0) _ rfl (HO_6.out.blk 0 rfl) Try.underlying28 rfl (by kernel_rfl) (.tmp .nil))) rfl ?_
   exact ⟨_,rfl,Kd.R_nil _ _ _ _ _,HO_6.out.base⟩
 ·replace c11_0:=Bool.eq_false_iff.mpr c11_0
  subst c11_0;rw [if_neg (show ¬ (false=true) by decide)] at H
  injection H with H
  injection H with e_0 H
  injection H with e_1 H
  injection H with e_2 H
  subst e_0;subst e_1;subst e_2;subst H;have z_1:w_3.cell? ⟨g4,0,none⟩=some (.int .i64 a1_0):=(HO_3.out.cell 2 rfl 0 rfl);have z_2:w_3.cell? ⟨g4,1,none⟩=some (.slice A1_1 l1_1.length c1_1):=(HO_3.out.cell 2 rfl 1 rfl);have z_3:w_3.cell? ⟨g4,2,none⟩=some (.int .i64 a1_2):=(HO_3.out.cell 2 rfl 2 rfl)
  go_wp2_with (first | ((with_reducible refine gate_callee (f:=22) rfl ?_);refine goesL_ (some 11) rfl rfl Try.func22 (by kernel_rfl) rfl #[.agg #[.int .i64 a1_0,.slice A1_1 l1_1.length c1_1,.int .i64 a1_2]] rfl ze_ ?_;(with_reducible refine (impl_IsDiagram.calls k a1_0 A1_1 c1_1 l1_1 a1_2 false _ zdf_ HC1_1.out A11.out).mono ?_);rintro e w_4 ⟨rfl,hb⟩;refine ⟨_,rfl,?_⟩;have ho:=HO_3.out.below hb;clear hb;have HO_4:=aM ho;clear ho)|((with_reducible refine gate_store (t:=28) (p:=6) (v := .tmp 18) rfl ?_);refine Sep.own_store HO_4.out 0 g6 28 _ #[.int .i64 0,.slice none 0 0,.int .i64 0] rfl rfl rfl 28 (.tmp 6) (.tmp 18) rfl rfl _ rfl rfl rfl (by kernel_rfl) (by simp [Value.oneCell']) ?_;intro w_5 ho;have HO_5:=aM ho;clear ho))
  (try simp only [Act.put,sI,s0,sS]);(try simp only [Exit.inBlock,Exit.then])
  refine bodyPost_ret (results_list (rs:=[.cell 6 28,.tmp 7]) rfl (by simp) (.cell g6 28 #[.int .i64 0,.slice none 0 0,.int .i64 0] (0,0) _ rfl (HO_5.out.blk 0 rfl) Try.underlying28 rfl (by kernel_rfl) (.tmp .nil))) rfl ?_
  exact ⟨_,rfl,Kd.R_nil _ _ _ _ _,HO_5.out.base⟩
def laws_big.f (l0:List Int) (l1:List Int):Option (Bool):=if (l0.length:Int)>1048576 then (some true) else (some (decide ((l1.length:Int)>(wrap64 (1048576 - (l0.length:Int))))))
theorem laws_big.calls (A0:Option Addr) (c0:Nat) (l0:List Int) (A1:Option Addr) (c1:Nat) (l1:List Int) (r:Bool) (w:World) (hr0:Kd.C (Kd.int .u8) w A0 l0.length l0) (hc0:l0.length≤c0) (hr1:Kd.C (Kd.int .u8) w A1 l1.length l1) (hc1:l1.length≤c1) (h:laws_big.f l0 l1=some r) :
  Calls Try.prog 13 #[.slice A0 l0.length c0,.slice A1 l1.length c1] w fun e w'=>e = .returned (.bool r)∧Drawn0 w w':=by
 have HR0:=aM hr0
 have HC0:=aM hc0
 clear hr0 hc0
 have HR1:=aM hr1
 have HC1:=aM hc1
 clear hr1 hc1
 have H:(if (l0.length:Int)>1048576 then (some true) else (some (decide ((l1.length:Int)>(wrap64 (1048576 - (l0.length:Int)))))))=some r:=h
 clear h
 by_cases c3:(l0.length:Int)>1048576
 ·rw [if_pos c3] at H
  have c3b0:decide (1048576<(l0.length:Int))=true:=decide_eq_true c3;have c3b1:decide (1048576<l0.length)=true:=decide_eq_true (by omega);clear c3;obtain rfl:=Option.some.inj H
  go_enter Try.func13,Try.ntmps13
  go_wp2
  go_ret
  exact ⟨zd_,zi_⟩
 ·rw [if_neg c3] at H
  have c3b0:decide (1048576<(l0.length:Int))=false:=decide_eq_false c3;have c3b1:decide (1048576<l0.length)=false:=decide_eq_false (by omega);clear c3;obtain rfl:=Option.some.inj H
  go_enter Try.func13,Try.ntmps13
  go_wp2
  go_ret
  exact ⟨zd_,zi_⟩
def IsS86 (w0 W:World) (g:Nat) (f0:List Int) (f1:Int) (f2:Int):Prop:=∃ A0 c0,W.heap[g]?=some (.cells #[.slice A0 f0.length c0,.int .i64 f1,.int .u64 f2] 86 (0,0))∧w0.heap.size≤g∧Kd.C (Kd.int .u8) w0 A0 f0.length f0
theorem IsS86.grown {w0 W:World} {g:Nat} {f0:List Int} {f1:Int} {f2:Int} {W1:World} {row:Option Nat} (h:IsS86 w0 W g f0 f1 f2) (hw:W.grownBy W1 row) (hne:some g≠row):IsS86 w0 W1 g f0 f1 f2:=by
 obtain ⟨A0,c0,hb,hg,hr0⟩:=h
 exact ⟨A0,c0,blk_grown hb hw hne,hg,hr0⟩
theorem IsS86.own_neN {w0 W:World} {g:Nat} {f0:List Int} {f1:Int} {f2:Int} {α:Type} {d:Kd α} {e:Nat} {base:Nat} {ok:Nat→Prop} {v:Value} {xs:List α} (h:IsS86 w0 W g f0 f1 f2) (ho:Kd.N d e W base ok v xs) (ht:e≠86):some g≠v.ownBlock:=by
 obtain ⟨A0,c0,hb,hg,hr0⟩:=h
 exact Kd.N_ne ho hb ht
theorem IsS86.fresh {w0 W:World} {g:Nat} {f0:List Int} {f1:Int} {f2:Int} (h:IsS86 w0 W g f0 f1 f2):∀ k,W.heap.size≤k→k≠g:=by
 obtain ⟨A0,c0,hb,hg,hr0⟩:=h
 exact Kd.freshB hb
theorem IsS86.kept {w0 W:World} {g:Nat} {f0:List Int} {f1:Int} {f2:Int} {W1:World} {S:Nat→Prop} (h:IsS86 w0 W g f0 f1 f2) (hk:Kept W W1 S) (hne:¬ S g):IsS86 w0 W1 g f0 f1 f2:=by
 obtain ⟨A0,c0,hb,hg,hr0⟩:=h
 exact ⟨A0,c0,blk_kept hb hk hne,hg,hr0⟩
theorem IsS86.below {w0 W:World} {g:Nat} {f0:List Int} {f1:Int} {f2:Int} {W1:World} (h:IsS86 w0 W g f0 f1 f2) (hw:Below W.heap.size W W1):IsS86 w0 W1 g f0 f1 f2:=h.grown (grown_of_below hw none) (by simp)
theorem IsS86.alloc {w0 W:World} {g:Nat} {f0:List Int} {f1:Int} {f2:Int} (h:IsS86 w0 W g f0 f1 f2) (o:Obj):IsS86 w0 (W.alloc o) g f0 f1 f2:=h.below (pA (Below.refl _ _) o)
theorem IsS86.drewN {w0 W:World} {g:Nat} {f0:List Int} {f1:Int} {f2:Int} (h:IsS86 w0 W g f0 f1 f2) (m:Nat):IsS86 w0 (W.drewN m) g f0 f1 f2:=h
theorem IsS86.drew {w0 W:World} {g:Nat} {f0:List Int} {f1:Int} {f2:Int} (h:IsS86 w0 W g f0 f1 f2):IsS86 w0 W.drew g f0 f1 f2:=h
theorem IsS86.at_ {w0 W:World} {g:Nat} {f0:List Int} {f1:Int} {f2:Int} {w':World} {m:Nat} (hq:W.drewN m=w') (h:IsS86 w0 W g f0 f1 f2):IsS86 w0 w' g f0 f1 f2:=by subst hq;exact IsS86.drewN h m
theorem IsS86.apart {w0 W:World} {g:Nat} {f0:List Int} {f1:Int} {f2:Int} {α:Type} {d:Kd α} {e:Nat} {base:Nat} {ok:Nat→Prop} {v:Value} {xs:List α} (h:IsS86 w0 W g f0 f1 f2) (ho:d.R e W base ok v xs) (ht:∀ q,q∈e :: d.E→q≠86):d.R e W base (fun k=>ok k∧k≠g) v xs:=by
 obtain ⟨A0,c0,hb,hg,hr0⟩:=h
 exact Kd.R_types ho hb ht
theorem IsS86.own_ne {w0 W:World} {g:Nat} {f0:List Int} {f1:Int} {f2:Int} {α:Type} {d:Kd α} {e:Nat} {base:Nat} {ok:Nat→Prop} {v:Value} {xs:List α} (h:IsS86 w0 W g f0 f1 f2) (ho:d.R e W base ok v xs) (ht:e≠86):some g≠v.ownBlock:=by
 obtain ⟨A0,c0,hb,hg,hr0⟩:=h
 exact Kd.R_ne ho hb ht
theorem IsS86.apartQ {w0 W:World} {g:Nat} {f0:List Int} {f1:Int} {f2:Int} {α:Type} {d:Kd α} {e:Nat} {base:Nat} {ok:Nat→Prop} {v:Value} {xs:List α} (h:IsS86 w0 W g f0 f1 f2) (ho:d.Q e W base ok v xs) (ht:∀ q,q∈e :: d.E→q≠86):d.Q e W base (fun k=>ok k∧k≠g) v xs:=by
 obtain ⟨A0,c0,hb,hg,hr0⟩:=h
 exact Kd.Q_types ho hb ht
theorem IsS86.own_neQ {w0 W:World} {g:Nat} {f0:List Int} {f1:Int} {f2:Int} {α:Type} {d:Kd α} {e:Nat} {base:Nat} {ok:Nat→Prop} {v:Value} {xs:List α} (h:IsS86 w0 W g f0 f1 f2) (ho:d.Q e W base ok v xs) (ht:e≠86):some g≠v.ownBlock:=by
 obtain ⟨A0,c0,hb,hg,hr0⟩:=h
 exact Kd.Q_ne ho hb ht
theorem IsS86.apartS {w0 W:World} {g:Nat} {f0:List Int} {f1:Int} {f2:Int} {α:Type} {d:Kd α} {e:Nat} {base:Nat} {ok:Nat→Prop} {v:Value} {xs:List α} (h:IsS86 w0 W g f0 f1 f2) (ho:d.S e W base ok v xs) (ht:∀ q,q∈e :: d.E→q≠86):d.S e W base (fun k=>ok k∧k≠g) v xs:=by
 obtain ⟨A0,c0,hb,hg,hr0⟩:=h
 exact Kd.S_types ho hb ht
theorem IsS86.own_neS {w0 W:World} {g:Nat} {f0:List Int} {f1:Int} {f2:Int} {α:Type} {d:Kd α} {e:Nat} {base:Nat} {ok:Nat→Prop} {v:Value} {xs:List α} (h:IsS86 w0 W g f0 f1 f2) (ho:d.S e W base ok v xs) (ht:e≠86):some g≠v.ownBlock:=by
 obtain ⟨A0,c0,hb,hg,hr0⟩:=h
 exact Kd.S_ne ho hb ht
theorem IsS86.lt {w0 W:World} {g:Nat} {f0:List Int} {f1:Int} {f2:Int} (h:IsS86 w0 W g f0 f1 f2):g<W.heap.size:=by
 obtain ⟨A0,c0,hb,hg,hr0⟩:=h
 exact blk_lt hb
theorem IsS86.ge {w0 W:World} {g:Nat} {f0:List Int} {f1:Int} {f2:Int} (h:IsS86 w0 W g f0 f1 f2):w0.heap.size≤g:=by
 obtain ⟨A0,c0,hb,hg,hr0⟩:=h
 exact hg
theorem IsS86.ne_blk {w0 W:World} {g:Nat} {f0:List Int} {f1:Int} {f2:Int} {a:Nat} {cs:Array Value} {t:TypeId} {fr:Nat×Nat} (h:IsS86 w0 W g f0 f1 f2) (hb2:W.heap[a]?=some (.cells cs t fr)) (ht:t≠86):g≠a:=by
 obtain ⟨A0,c0,hb,hg,hr0⟩:=h
 rintro rfl
 rw [hb] at hb2
 injection hb2 with hb2
 injection hb2 with _ ht2
 exact ht ht2.symm
theorem IsS86.far {w0 W:World} {g:Nat} {f0:List Int} {f1:Int} {f2:Int} {p:Addr} (h:IsS86 w0 W g f0 f1 f2) (hne:g≠p.block) (u:Value):IsS86 w0 (W.setCell p u) g f0 f1 f2:=by
 obtain ⟨A0,c0,hb,hg,hr0⟩:=h
 exact ⟨A0,c0,blk_far hb hne u,hg,hr0⟩
theorem cellS86_0 {W:World} {g:Nat} {A0:Option Addr} {c0:Nat} {f0:List Int} {f1:Int} {f2:Int} (h:W.heap[g]?=some (.cells #[.slice A0 f0.length c0,.int .i64 f1,.int .u64 f2] 86 (0,0))):W.cell? ⟨g,0,none⟩=some (.slice A0 f0.length c0):=(blk_cell h 0).trans rfl
theorem cellS86_1 {W:World} {g:Nat} {A0:Option Addr} {c0:Nat} {f0:List Int} {f1:Int} {f2:Int} (h:W.heap[g]?=some (.cells #[.slice A0 f0.length c0,.int .i64 f1,.int .u64 f2] 86 (0,0))):W.cell? ⟨g,1,none⟩=some (.int .i64 f1):=(blk_cell h 1).trans rfl
theorem IsS86.set_1 {w0 W:World} {g:Nat} {f0:List Int} {f1:Int} {f2:Int} (h:IsS86 w0 W g f0 f1 f2) (x:Int):IsS86 w0 (W.setCell ⟨g,1,none⟩ (.int .i64 x)) g f0 x f2:=by
 obtain ⟨A0,c0,hb,hg,hr0⟩:=h
 exact ⟨A0,c0,by simpa using blk_set hb 1 (.int .i64 x),hg,hr0⟩
theorem cellS86_2 {W:World} {g:Nat} {A0:Option Addr} {c0:Nat} {f0:List Int} {f1:Int} {f2:Int} (h:W.heap[g]?=some (.cells #[.slice A0 f0.length c0,.int .i64 f1,.int .u64 f2] 86 (0,0))):W.cell? ⟨g,2,none⟩=some (.int .u64 f2):=(blk_cell h 2).trans rfl
theorem IsS86.set_2 {w0 W:World} {g:Nat} {f0:List Int} {f1:Int} {f2:Int} (h:IsS86 w0 W g f0 f1 f2) (x:Int):IsS86 w0 (W.setCell ⟨g,2,none⟩ (.int .u64 x)) g f0 f1 x:=by
 obtain ⟨A0,c0,hb,hg,hr0⟩:=h
 exact ⟨A0,c0,by simpa using blk_set hb 2 (.int .u64 x),hg,hr0⟩
theorem IsS86.new (w0 W:World) (A0:Option Addr) (c0:Nat) (f0:List Int) (f1:Int) (f2:Int) (hB:Below w0.heap.size w0 W) (hr0:Kd.C (Kd.int .u8) w0 A0 f0.length f0):IsS86 w0 (W.alloc (.cells #[.slice A0 f0.length c0,.int .i64 f1,.int .u64 f2] 86)) W.heap.size f0 f1 f2:=⟨A0,c0,by simpa using heap_alloc_new W _,hB.size,hr0⟩
def spec_l1Cur_next.f (s0_0:List Int) (s0_1:Int) (s0_2:Int):Option (Int×Int×Int):=if s0_1<(s0_0.length:Int) then (if 0≤s0_1 then (if (wrap64 (s0_1+1))≤(s0_0.length:Int) then (some (wrap64 (rd s0_0 s0_1),wrap64 (s0_1+1),IntKind.u64.wrap ((IntKind.u64.wrap ((IntKind.u64.wrap (s0_2 * 6364136223846793005))+(IntKind.u64.wrap (wrap64 (rd s0_0 s0_1)))))+1442695040888963407))) else (some (wrap64 (Go.bits .and .u64 ((IntKind.u64.wrap ((IntKind.u64.wrap ((IntKind.u64.wrap (s0_2 * 6364136223846793005))+(IntKind.u64.wrap (wrap64 (rd s0_0 s0_1)))))+1442695040888963407)) / 1099511627776) 255),wrap64 (s0_1+1),IntKind.u64.wrap ((IntKind.u64.wrap ((IntKind.u64.wrap (s0_2 * 6364136223846793005))+(IntKind.u64.wrap (wrap64 (rd s0_0 s0_1)))))+1442695040888963407)))) else (none)) else (if (wrap64 (s0_1+1))≤(s0_0.length:Int) then (some (0,wrap64 (s0_1+1),IntKind.u64.wrap ((IntKind.u64.wrap (IntKind.u64.wrap (s0_2 * 6364136223846793005)))+1442695040888963407))) else (some (wrap64 (Go.bits .and .u64 ((IntKind.u64.wrap ((IntKind.u64.wrap (IntKind.u64.wrap (s0_2 * 6364136223846793005)))+1442695040888963407)) / 1099511627776) 255),wrap64 (s0_1+1),IntKind.u64.wrap ((IntKind.u64.wrap (IntKind.u64.wrap (s0_2 * 6364136223846793005)))+1442695040888963407))))
theorem spec_l1Cur_next.calls (g:Nat) (s0_0:List Int) (s0_1:Int) (s0_2:Int) (r1:Int) (r2:Int) (r3:Int) (w0 w:World) (hI:IsS86 w0 w g s0_0 s0_1 s0_2) (hB:Below w0.heap.size w0 w) (h:spec_l1Cur_next.f s0_0 s0_1 s0_2=some (r1,r2,r3)) :
  Calls Try.prog 114 #[.pointer (some ⟨g,0,none⟩)] w fun e w'=>e = .returned (.int .i64 r1)∧IsS86 w0 w' g s0_0 r2 r3∧Below w0.heap.size w0 w'∧KeepBut w w' g none:=by
 have HI0:=aM hI
 have HK:=aM (KeepBut.refl w g none)
 have HL:=aM hB.size
 clear hI
 have HW0:=aM hB.size
 have HB:=aM hB
 clear hB
 have H:(if s0_1<(s0_0.length:Int) then (if 0≤s0_1 then (if (wrap64 (s0_1+1))≤(s0_0.length:Int) then (some (wrap64 (rd s0_0 s0_1),wrap64 (s0_1+1),IntKind.u64.wrap ((IntKind.u64.wrap ((IntKind.u64.wrap (s0_2 * 6364136223846793005))+(IntKind.u64.wrap (wrap64 (rd s0_0 s0_1)))))+1442695040888963407))) else (some (wrap64 (Go.bits .and .u64 ((IntKind.u64.wrap ((IntKind.u64.wrap ((IntKind.u64.wrap (s0_2 * 6364136223846793005))+(IntKind.u64.wrap (wrap64 (rd s0_0 s0_1)))))+1442695040888963407)) / 1099511627776) 255),wrap64 (s0_1+1),IntKind.u64.wrap ((IntKind.u64.wrap ((IntKind.u64.wrap (s0_2 * 6364136223846793005))+(IntKind.u64.wrap (wrap64 (rd s0_0 s0_1)))))+1442695040888963407)))) else (none)) else (if (wrap64 (s0_1+1))≤(s0_0.length:Int) then (some (0,wrap64 (s0_1+1),IntKind.u64.wrap ((IntKind.u64.wrap (IntKind.u64.wrap (s0_2 * 6364136223846793005)))+1442695040888963407))) else (some (wrap64 (Go.bits .and .u64 ((IntKind.u64.wrap ((IntKind.u64.wrap (IntKind.u64.wrap (s0_2 * 6364136223846793005)))+1442695040888963407)) / 1099511627776) 255),wrap64 (s0_1+1),IntKind.u64.wrap ((IntKind.u64.wrap (IntKind.u64.wrap (s0_2 * 6364136223846793005)))+1442695040888963407)))))=some (r1,r2,r3):=h
 clear h
 by_cases c2:s0_1<(s0_0.length:Int)
 ·rw [if_pos c2] at H
  have c2b0:=decide_eq_true c2;clear c2
  by_cases c3:0≤s0_1
  ·rw [if_pos c3] at H
   have c3b0:=decide_eq_true c3;clear c3
   by_cases c4:(wrap64 (s0_1+1))≤(s0_0.length:Int)
   ·rw [if_pos c4] at H
    have c4b0:=decide_eq_true c4;clear c4
    simp only [Option.some.injEq,Prod.mk.injEq] at H
    obtain ⟨rfl,rfl,rfl⟩:=H;obtain ⟨ASz5_0,cSz5_0,HGz5,hgz5,HSz5_0⟩:=HI0.out;have hcz5_0:=cellS86_0 HGz5;have hcz5_1:=cellS86_1 HGz5;have hcz5_2:=cellS86_2 HGz5;have hfz5_1:=blk_frozen HGz5 1;have hfz5_2:=blk_frozen HGz5 2;clear HGz5 hgz5;have p191:0≤(s0_1:Int):=of_decide_eq_true zc_;have q191:s0_1<(s0_0.length:Int):=of_decide_eq_true zc_;obtain ⟨ad191,e191,hx191_0⟩:=Kd.at_int HSz5_0 s0_1 p191 q191
    cases e191
    replace hx191_0:=pw_cell_below HB.out hx191_0;replace p191:=eq_true p191;replace q191:=eq_true q191
    go_enter Try.func114,Try.ntmps114
    go_wp2
    repeat (go_quiet (fail);try go_wp2)
    go_ret
    exact ⟨zg_,zba_,zca_,zbb_⟩
   ·rw [if_neg c4] at H
    have c4b0:=decide_eq_false c4;clear c4
    simp only [Option.some.injEq,Prod.mk.injEq] at H
    obtain ⟨rfl,rfl,rfl⟩:=H;obtain ⟨ASz6_0,cSz6_0,HGz6,hgz6,HSz6_0⟩:=HI0.out;have hcz6_0:=cellS86_0 HGz6;have hcz6_1:=cellS86_1 HGz6;have hcz6_2:=cellS86_2 HGz6;have hfz6_1:=blk_frozen HGz6 1;have hfz6_2:=blk_frozen HGz6 2;clear HGz6 hgz6;have p191:0≤(s0_1:Int):=of_decide_eq_true zc_;have q191:s0_1<(s0_0.length:Int):=of_decide_eq_true zc_;obtain ⟨ad191,e191,hx191_0⟩:=Kd.at_int HSz6_0 s0_1 p191 q191
    cases e191
    replace hx191_0:=pw_cell_below HB.out hx191_0;replace p191:=eq_true p191;replace q191:=eq_true q191
    go_enter Try.func114,Try.ntmps114
    go_wp2
    repeat (go_quiet (fail);try go_wp2)
    go_ret
    exact ⟨zg_,zba_,zca_,zbb_⟩
  ·rw [if_neg c3] at H
   exact q3n_ H
 ·rw [if_neg c2] at H
  have c2b0:=decide_eq_false c2;clear c2
  by_cases c7:(wrap64 (s0_1+1))≤(s0_0.length:Int)
  ·rw [if_pos c7] at H
   have c7b0:=decide_eq_true c7;clear c7
   simp only [Option.some.injEq,Prod.mk.injEq] at H
   obtain ⟨rfl,rfl,rfl⟩:=H;obtain ⟨ASz8_0,cSz8_0,HGz8,hgz8,HSz8_0⟩:=HI0.out;have hcz8_0:=cellS86_0 HGz8;have hcz8_1:=cellS86_1 HGz8;have hcz8_2:=cellS86_2 HGz8;have hfz8_1:=blk_frozen HGz8 1;have hfz8_2:=blk_frozen HGz8 2;clear HGz8 hgz8
   go_enter Try.func114,Try.ntmps114
   go_wp2
   repeat (go_quiet (fail);try go_wp2)
   go_ret
   exact ⟨zg_,zba_,zca_,zbb_⟩
  ·rw [if_neg c7] at H
   have c7b0:=decide_eq_false c7;clear c7
   simp only [Option.some.injEq,Prod.mk.injEq] at H
   obtain ⟨rfl,rfl,rfl⟩:=H;obtain ⟨ASz9_0,cSz9_0,HGz9,hgz9,HSz9_0⟩:=HI0.out;have hcz9_0:=cellS86_0 HGz9;have hcz9_1:=cellS86_1 HGz9;have hcz9_2:=cellS86_2 HGz9;have hfz9_1:=blk_frozen HGz9 1;have hfz9_2:=blk_frozen HGz9 2;clear HGz9 hgz9
   go_enter Try.func114,Try.ntmps114
   go_wp2
   repeat (go_quiet (fail);try go_wp2)
   go_ret
   exact ⟨zg_,zba_,zca_,zbb_⟩
def spec_l1Cur_pick.f (s0_0:List Int) (s0_1:Int) (s0_2:Int) (a1:Int):Option (Int×Int×Int):=if a1≤1 then (some (0,s0_1,s0_2)) else ((spec_l1Cur_next.f s0_0 s0_1 s0_2).bind fun bt192=>(if a1>200 then ((spec_l1Cur_next.f s0_0 bt192.2.1 bt192.2.2).bind fun bt195=>(if a1=0 then (none) else (some (Int.tmod (wrap64 ((wrap64 (bt192.1 * 256))+bt195.1)) a1,bt195.2.1,bt195.2.2)))) else (if a1=0 then (none) else (some (Int.tmod bt192.1 a1,bt192.2.1,bt192.2.2)))))
theorem spec_l1Cur_pick.calls (g:Nat) (s0_0:List Int) (s0_1:Int) (s0_2:Int) (a1:Int) (r1:Int) (r2:Int) (r3:Int) (w0 w:World) (hI:IsS86 w0 w g s0_0 s0_1 s0_2) (hB:Below w0.heap.size w0 w) (h:spec_l1Cur_pick.f s0_0 s0_1 s0_2 a1=some (r1,r2,r3)) :
  Calls Try.prog 68 #[.pointer (some ⟨g,0,none⟩),.int .i64 a1] w fun e w'=>e = .returned (.int .i64 r1)∧IsS86 w0 w' g s0_0 r2 r3∧Below w0.heap.size w0 w'∧KeepBut w w' g none:=by
 have HI0:=aM hI
 have HK:=aM (KeepBut.refl w g none)
 have HL:=aM hB.size
 clear hI
 have HW0:=aM hB.size
 have HB:=aM hB
 clear hB
 have H:(if a1≤1 then (some (0,s0_1,s0_2)) else ((spec_l1Cur_next.f s0_0 s0_1 s0_2).bind fun bt192=>(if a1>200 then ((spec_l1Cur_next.f s0_0 bt192.2.1 bt192.2.2).bind fun bt195=>(if a1=0 then (none) else (some (Int.tmod (wrap64 ((wrap64 (bt192.1 * 256))+bt195.1)) a1,bt195.2.1,bt195.2.2)))) else (if a1=0 then (none) else (some (Int.tmod bt192.1 a1,bt192.2.1,bt192.2.2))))))=some (r1,r2,r3):=h
 clear h
 by_cases c3:a1≤1
 ·rw [if_pos c3] at H
  have c3b0:=decide_eq_true c3;clear c3
  simp only [Option.some.injEq,Prod.mk.injEq] at H
  obtain ⟨rfl,rfl,rfl⟩:=H
  go_enter Try.func68,Try.ntmps68
  go_wp2
  go_ret
  exact ⟨zg_,zba_,zca_,zbb_⟩
 ·rw [if_neg c3] at H
  have c3b0:=decide_eq_false c3;clear c3;replace H:=oB.mp H;obtain ⟨⟨t192,t193,t194⟩,A40,H⟩:=H;replace H:(if a1>200 then ((spec_l1Cur_next.f s0_0 t193 t194).bind fun bt195=>(if a1=0 then (none) else (some (Int.tmod (wrap64 ((wrap64 (t192 * 256))+bt195.1)) a1,bt195.2.1,bt195.2.2)))) else (if a1=0 then (none) else (some (Int.tmod t192 a1,t193,t194))))=some (r1,r2,r3):=H;have A4:=aM A40;clear A40
  by_cases c5:a1>200
  ·rw [if_pos c5] at H
   have c5b0:decide (200<a1)=true:=decide_eq_true c5;clear c5;replace H:=oB.mp H;obtain ⟨⟨t195,t196,t197⟩,A60,H⟩:=H;replace H:(if a1=0 then (none) else (some (Int.tmod (wrap64 ((wrap64 (t192 * 256))+t195)) a1,t196,t197)))=some (r1,r2,r3):=H;have A6:=aM A60;clear A60
   by_cases c7:a1=0
   ·rw [if_pos c7] at H
    exact q3n_ H
   ·rw [if_neg c7] at H
    have c7b0:=beq_eq_false_iff_ne.mpr c7;have c7b1:=bne_iff_ne.mpr c7
    simp only [Option.some.injEq,Prod.mk.injEq] at H
    obtain ⟨rfl,rfl,rfl⟩:=H
    go_enter Try.func68,Try.ntmps68
    go_wp2_with (first | ((with_reducible refine gate_callee (f:=114) rfl ?_);refine goesL_ (some 9) rfl rfl Try.func114 (by kernel_rfl) rfl #[.pointer (some ⟨g,0,none⟩)] rfl zf_ ?_;(with_reducible refine (spec_l1Cur_next.calls g s0_0 s0_1 s0_2 t192 t193 t194 w0 _ ?side1 ?side2 A4.out).mono ?_);(case side1=>exact zba_);(case side2=>exact zca_);rintro e w8 ⟨rfl,hi,hb,hk⟩;refine ⟨_,rfl,?_⟩;have n_:=z (KeepBut.trans zbb_ hk (.inl rfl))<|z (hb)<|z1 (hi);clear HK HB HI0;obtain ⟨HK,HB,HI0⟩:=n_;clear hb hk hi)|((with_reducible refine gate_callee (f:=114) rfl ?_);refine goesL_ (some 15) rfl rfl Try.func114 (by kernel_rfl) rfl #[.pointer (some ⟨g,0,none⟩)] rfl zf_ ?_;(with_reducible refine (spec_l1Cur_next.calls g s0_0 t193 t194 t195 t196 t197 w0 _ ?side1 ?side2 A6.out).mono ?_);(case side1=>exact zba_);(case side2=>exact zca_);rintro e w9 ⟨rfl,hi,hb,hk⟩;refine ⟨_,rfl,?_⟩;have n_:=z (KeepBut.trans zbb_ hk (.inl rfl))<|z (hb)<|z1 (hi);clear HK HB HI0;obtain ⟨HK,HB,HI0⟩:=n_;clear hb hk hi))
    go_ret
    exact ⟨zg_,zba_,zca_,zbb_⟩
  ·rw [if_neg c5] at H
   have c5b0:decide (200<a1)=false:=decide_eq_false c5;clear c5
   by_cases c10:a1=0
   ·rw [if_pos c10] at H
    exact q3n_ H
   ·rw [if_neg c10] at H
    have c10b0:=beq_eq_false_iff_ne.mpr c10;have c10b1:=bne_iff_ne.mpr c10
    simp only [Option.some.injEq,Prod.mk.injEq] at H
    obtain ⟨rfl,rfl,rfl⟩:=H
    go_enter Try.func68,Try.ntmps68
    go_wp2_with (first | ((with_reducible refine gate_callee (f:=114) rfl ?_);refine goesL_ (some 9) rfl rfl Try.func114 (by kernel_rfl) rfl #[.pointer (some ⟨g,0,none⟩)] rfl zf_ ?_;(with_reducible refine (spec_l1Cur_next.calls g s0_0 s0_1 s0_2 t192 t193 t194 w0 _ ?side1 ?side2 A4.out).mono ?_);(case side1=>exact zba_);(case side2=>exact zca_);rintro e w11 ⟨rfl,hi,hb,hk⟩;refine ⟨_,rfl,?_⟩;have n_:=z (KeepBut.trans zbb_ hk (.inl rfl))<|z (hb)<|z1 (hi);clear HK HB HI0;obtain ⟨HK,HB,HI0⟩:=n_;clear hb hk hi))
    go_ret
    exact ⟨zg_,zba_,zca_,zbb_⟩
def spec_l1Cur_among.f (s0_0:List Int) (s0_1:Int) (s0_2:Int) (l1:List Int):Option (Int×Int×Int):=(spec_l1Cur_pick.f s0_0 s0_1 s0_2 (l1.length:Int)).bind fun bt198=>(if 0≤bt198.1 then (if bt198.1<(l1.length:Int) then (some (rd l1 bt198.1,bt198.2.1,bt198.2.2)) else (none)) else (none))
theorem spec_l1Cur_among.calls (g:Nat) (s0_0:List Int) (s0_1:Int) (s0_2:Int) (A1:Option Addr) (c1:Nat) (l1:List Int) (r1:Int) (r2:Int) (r3:Int) (w0 w:World) (hI:IsS86 w0 w g s0_0 s0_1 s0_2) (hB:Below w0.heap.size w0 w) (hr1:Kd.C (Kd.int .i64) w A1 l1.length l1) (hc1:l1.length≤c1) (hf1:∀ ad,A1=some ad→0<l1.length→ad.block≠g) (h:spec_l1Cur_among.f s0_0 s0_1 s0_2 l1=some (r1,r2,r3)) :
  Calls Try.prog 66 #[.pointer (some ⟨g,0,none⟩),.slice A1 l1.length c1] w fun e w'=>e = .returned (.int .i64 r1)∧IsS86 w0 w' g s0_0 r2 r3∧Below w0.heap.size w0 w'∧KeepBut w w' g none:=by
 have HR1:=aM hr1
 have HC1:=aM hc1
 clear hr1 hc1
 have HI0:=aM hI
 have HK:=aM (KeepBut.refl w g none)
 have HL:=aM hB.size
 clear hI
 have HW0:=aM hB.size
 have HB:=aM hB
 clear hB
 have H:((spec_l1Cur_pick.f s0_0 s0_1 s0_2 (l1.length:Int)).bind fun bt198=>(if 0≤bt198.1 then (if bt198.1<(l1.length:Int) then (some (rd l1 bt198.1,bt198.2.1,bt198.2.2)) else (none)) else (none)))=some (r1,r2,r3):=h
 clear h
 replace H:=oB.mp H
 obtain ⟨⟨t198,t199,t200⟩,A30,H⟩:=H
 replace H:(if 0≤t198 then (if t198<(l1.length:Int) then (some (rd l1 t198,t199,t200)) else (none)) else (none))=some (r1,r2,r3):=H
 have A3:=aM A30
 clear A30
 by_cases c4:0≤t198
 ·rw [if_pos c4] at H
  have c4b0:=decide_eq_true c4;clear c4
  by_cases c5:t198<(l1.length:Int)
  ·rw [if_pos c5] at H
   have c5b0:=decide_eq_true c5;clear c5
   simp only [Option.some.injEq,Prod.mk.injEq] at H
   obtain ⟨rfl,rfl,rfl⟩:=H
   go_enter Try.func66,Try.ntmps66
   go_wp2_with (first | ((with_reducible refine gate_callee (f:=68) rfl ?_);refine goesL_ (some 9) rfl rfl Try.func68 (by kernel_rfl) rfl #[.pointer (some ⟨g,0,none⟩),.int .i64 (l1.length:Int)] rfl zf_ ?_;(with_reducible refine (spec_l1Cur_pick.calls g s0_0 s0_1 s0_2 (l1.length:Int) t198 t199 t200 w0 _ ?side1 ?side2 A3.out).mono ?_);(case side1=>exact zba_);(case side2=>exact zca_);rintro e w6 ⟨rfl,hi,hb,hk⟩;refine ⟨_,rfl,?_⟩;have n_:=z (KeepBut.trans zbb_ hk (.inl rfl))<|z (hb)<|z1 (hi);clear HK HB HI0;obtain ⟨HK,HB,HI0⟩:=n_;clear hb hk hi;have p201:0≤(t198:Int):=of_decide_eq_true zc_;have q201:t198<(l1.length:Int):=of_decide_eq_true zc_;obtain ⟨ad201,e201,hx201_0⟩:=Kd.at_int HR1.out t198 p201 q201;cases e201;replace hx201_0:=keep_cell HK.out hx201_0 (by first | (rw [add_block];exact hf1 _ rfl (by omega)) | exact hf1 _ rfl (by omega) | exact hf1 ad201 rfl (by omega));replace p201:=eq_true p201;replace q201:=eq_true q201))
   go_ret
   exact ⟨zg_,zba_,zca_,zbb_⟩
  ·rw [if_neg c5] at H
   exact q3n_ H
 ·rw [if_neg c4] at H
  exact q3n_ H
def spec_l1Cur_one.f (s0_0:List Int) (s0_1:Int) (s0_2:Int) (a1:Int):Option (Bool×Int×Int):=(spec_l1Cur_pick.f s0_0 s0_1 s0_2 a1).bind fun bt202=>(some ((bt202.1 == 0),bt202.2.1,bt202.2.2))
theorem spec_l1Cur_one.calls (g:Nat) (s0_0:List Int) (s0_1:Int) (s0_2:Int) (a1:Int) (r1:Bool) (r2:Int) (r3:Int) (w0 w:World) (hI:IsS86 w0 w g s0_0 s0_1 s0_2) (hB:Below w0.heap.size w0 w) (h:spec_l1Cur_one.f s0_0 s0_1 s0_2 a1=some (r1,r2,r3)) :
  Calls Try.prog 65 #[.pointer (some ⟨g,0,none⟩),.int .i64 a1] w fun e w'=>e = .returned (.bool r1)∧IsS86 w0 w' g s0_0 r2 r3∧Below w0.heap.size w0 w'∧KeepBut w w' g none:=by
 have HI0:=aM hI
 have HK:=aM (KeepBut.refl w g none)
 have HL:=aM hB.size
 clear hI
 have HW0:=aM hB.size
 have HB:=aM hB
 clear hB
 have H:((spec_l1Cur_pick.f s0_0 s0_1 s0_2 a1).bind fun bt202=>(some ((bt202.1 == 0),bt202.2.1,bt202.2.2)))=some (r1,r2,r3):=h
 clear h
 replace H:=oB.mp H
 obtain ⟨⟨t202,t203,t204⟩,A30,H⟩:=H
 replace H:(some ((t202 == 0),t203,t204))=some (r1,r2,r3):=H
 have A3:=aM A30
 clear A30
 simp only [Option.some.injEq,Prod.mk.injEq] at H
 obtain ⟨rfl,rfl,rfl⟩:=H
 go_enter Try.func65,Try.ntmps65
 go_wp2_with (first | ((with_reducible refine gate_callee (f:=68) rfl ?_);refine goesL_ (some 7) rfl rfl Try.func68 (by kernel_rfl) rfl #[.pointer (some ⟨g,0,none⟩),.int .i64 a1] rfl zf_ ?_;(with_reducible refine (spec_l1Cur_pick.calls g s0_0 s0_1 s0_2 a1 t202 t203 t204 w0 _ ?side1 ?side2 A3.out).mono ?_);(case side1=>exact zba_);(case side2=>exact zca_);rintro e w4 ⟨rfl,hi,hb,hk⟩;refine ⟨_,rfl,?_⟩;have n_:=z (KeepBut.trans zbb_ hk (.inl rfl))<|z (hb)<|z1 (hi);clear HK HB HI0;obtain ⟨HK,HB,HI0⟩:=n_;clear hb hk hi))
 go_ret
 exact ⟨zg_,zba_,zca_,zbb_⟩
mutual
def spec_l1Cur_tableOf.l0:Nat→Int→Int→Int→List Int→Int→Int→Int→List Int→Option (Int×List Int×Int×Int)
 | 0,_,_,_,_,_,_,_,_=>none
 | k+1,x1,x6,x7,x1000,x1001,x1002,x207000,x207001=>if 0≤(IntKind.u64.wrap (x1)) then (if x7<(shl .i64 1 (IntKind.u64.wrap (x1))) then (if x6=8 then (spec_l1Cur_tableOf.l1 k x1 x6 x7 0 0 x1000 x1001 x1002 x207000 x207001) else ((spec_l1Cur_one.f x1000 x1001 x1002 x6).bind fun bt217=>(if bt217.1=true then (if x207001.length<17592186044416 then (spec_l1Cur_tableOf.l0 k x1 x6 (wrap64 (x7+1)) x1000 bt217.2.1 bt217.2.2 x207000 (x207001 ++ [1])) else (none)) else (if x207001.length<17592186044416 then (spec_l1Cur_tableOf.l0 k x1 x6 (wrap64 (x7+1)) x1000 bt217.2.1 bt217.2.2 x207000 (x207001 ++ [0])) else (none))))) else (some (x207000,x207001,x1001,x1002))) else (none)
def spec_l1Cur_tableOf.l1:Nat→Int→Int→Int→Int→Int→List Int→Int→Int→Int→List Int→Option (Int×List Int×Int×Int)
 | 0,_,_,_,_,_,_,_,_,_,_=>none
 | k+1,x1,x6,x7,x8,x9,x1000,x1001,x1002,x207000,x207001=>if x9<x1 then ((spec_ttBit.f x7 x9).bind fun t213=>(spec_l1Cur_tableOf.l1 k x1 x6 x7 (wrap64 (x8+t213)) (wrap64 (x9+1)) x1000 x1001 x1002 x207000 x207001)) else (if x207001.length<17592186044416 then (spec_l1Cur_tableOf.l0 k x1 x6 (wrap64 (x7+1)) x1000 x1001 x1002 x207000 (x207001 ++ [Int.tmod (wrap64 (Int.tdiv x8 2)) 2])) else (none))
end
def spec_l1Cur_tableOf.f (k:Nat) (s0_0:List Int) (s0_1:Int) (s0_2:Int) (a1:Int):Option (Int×List Int×Int×Int):=(spec_l1Cur_among.f s0_0 s0_1 s0_2 (([2,2,4,8]:List Int))).bind fun bt210=>(spec_l1Cur_tableOf.l0 k a1 bt210.1 0 s0_0 bt210.2.1 bt210.2.2 a1 ([]:List Int))
theorem spec_l1Cur_tableOf.calls (k:Nat) (g:Nat) (s0_0:List Int) (s0_1:Int) (s0_2:Int) (a1:Int) (r1:Int) (r2:List Int) (r3:Int) (r4:Int) (w0 w:World) (hI:IsS86 w0 w g s0_0 s0_1 s0_2) (hB:Below w0.heap.size w0 w) (h:spec_l1Cur_tableOf.f k s0_0 s0_1 s0_2 a1=some (r1,r2,r3,r4)) :
  Calls Try.prog 62 #[.pointer (some ⟨g,0,none⟩),.int .i64 a1] w fun e w' => ∃ v1_:Value,e = .returned (.agg #[.int .i64 r1,v1_])∧Kd.R (Kd.int .i64) 3 w' w.heap.size (fun _=>True) v1_ r2∧IsS86 w0 w' g s0_0 r3 r4∧Below w0.heap.size w0 w'∧KeepBut w w' g none:=by
 have hu41:=Try.underlying41
 have HI0:=aM hI
 have HK:=aM (KeepBut.refl w g none)
 have HL:=aM hB.size
 clear hI
 have HW0:=aM hB.size
 have HB:=aM hB
 clear hB
 have H:((spec_l1Cur_among.f s0_0 s0_1 s0_2 (([2,2,4,8]:List Int))).bind fun bt210=>(spec_l1Cur_tableOf.l0 k a1 bt210.1 0 s0_0 bt210.2.1 bt210.2.2 a1 ([]:List Int)))=some (r1,r2,r3,r4):=h
 clear h
 obtain ⟨y207,hy207⟩:∃ y_:List Int,y_=(([2,2,4,8]:List Int)):=⟨_,rfl⟩
 replace H:((spec_l1Cur_among.f s0_0 s0_1 s0_2 y207).bind fun bt210=>(spec_l1Cur_tableOf.l0 k a1 bt210.1 0 s0_0 bt210.2.1 bt210.2.2 a1 ([]:List Int)))=some (r1,r2,r3,r4):=q3y_ hy207 H
 have Ny207:=aM hy207
 clear hy207
 replace H:=oB.mp H
 obtain ⟨⟨t210,t211,t212⟩,A30,H⟩:=H
 replace H:(spec_l1Cur_tableOf.l0 k a1 t210 0 s0_0 t211 t212 a1 ([]:List Int))=some (r1,r2,r3,r4):=H
 have A3:=aM A30
 clear A30
 have H':=aM H
 clear H
 go_enter Try.func62,Try.ntmps62
 go_wp2_with (first | ((with_reducible refine gate_dst (N:=4) rfl ?_);refine box_event ?hg (N:=4) ?hd (cs:=#[.int .i64 0,.slice none 0 0]) (t:=41) ?hr ?_;(case hd=>rfl);(case hg=>rfl);(case hr=>exact za_);intro gb205 hg w4 hbox hb;have n_:=z (IsS86.below zba_ hb)<|z (KeepBut.trans zbb_ (KeepBut.of_below hb g none) (.inl rfl))<|z (below_step zca_ hb)<|z (hbox)<|z ((by rw [hg];exact (keep_size (w:=w) (g:=g) (row:=none) zbb_):w.heap.size≤gb205))<|z ((Nat.le_trans HW0.out (by rw [hg];exact (keep_size (w:=w) (g:=g) (row:=none) zbb_):w.heap.size≤gb205):w0.heap.size≤gb205))<|z ((by rw [hg];exact Nat.ne_of_lt (IsS86.lt (show IsS86 w0 _ g s0_0 s0_1 s0_2 from zba_)):g≠gb205))<|z1 ((by rw [hg];exact Nat.ne_of_gt (IsS86.lt (show IsS86 w0 _ g s0_0 s0_1 s0_2 from zba_)):gb205≠g));clear HI0 HK HB;obtain ⟨HI0,HK,HB,BK205,GW205,GE205,NB0_205,NB205_0⟩:=n_;clear hb hbox hg)|((with_reducible refine gate_dst (N:=5) rfl ?_);refine box_event ?hg (N:=5) ?hd (cs:=#[.int .i64 0,.slice none 0 0]) (t:=41) ?hr ?_;(case hd=>rfl);(case hg=>rfl);(case hr=>exact za_);intro gb206 hg w5 hbox hb;have n_:=z (IsS86.below zjj_ hb)<|z (blk_below (zb BK205.out) hb)<|z (KeepBut.trans zbaa_ (KeepBut.of_below hb g none) (.inl rfl))<|z (below_step (by repeat (first | (with_reducible first | exact HB.out | apply pA | apply pN | apply p1 | refine below_set ?_ (IsS86.ge HI0.out) | refine below_set ?_ GE205.out) | exact HB.out)) hb)<|z (hbox)<|z ((by rw [hg];exact (keep_size (w:=w) (g:=g) (row:=none) zbaa_):w.heap.size≤gb206))<|z ((Nat.le_trans HW0.out (by rw [hg];exact (keep_size (w:=w) (g:=g) (row:=none) zbaa_):w.heap.size≤gb206):w0.heap.size≤gb206))<|z ((by rw [hg];exact Nat.ne_of_lt (blk_lt (zb BK205.out)):gb205≠gb206))<|z ((by rw [hg];exact Nat.ne_of_gt (blk_lt (zb BK205.out)):gb206≠gb205))<|z ((by rw [hg];exact Nat.ne_of_lt (IsS86.lt (show IsS86 w0 _ g s0_0 s0_1 s0_2 from zjj_)):g≠gb206))<|z1 ((by rw [hg];exact Nat.ne_of_gt (IsS86.lt (show IsS86 w0 _ g s0_0 s0_1 s0_2 from zjj_)):gb206≠g));clear HI0 BK205 HK HB;obtain ⟨HI0,BK205,HK,HB,BK206,GW206,GE206,NB205_206,NB206_205,NB0_206,NB206_0⟩:=n_;clear hb hbox hg;have hnb6:=NB206_205.out;have hnc6:=NB205_206.out;have hnb7:=NB206_0.out;have hnc7:=NB0_206.out;obtain ⟨hcz8_0,hcz8_1,hfz8_0,hfz8_1⟩:=zk2 BK206.out)|((with_reducible refine gate_dst (N:=13) rfl ?_);refine Kd.R_lit (Kd.int .i64) _ 3 ?hg (N:=13) ?hd (xs:=([2,2,4,8]:List Int)) (inner:=[.int .i64 2,.int .i64 2,.int .i64 4,.int .i64 8]) (ok:=fun _=>True) (okp:=fun _=>True) ?hr ?hp (fun _ hk=>hk) trivial (Below.refl _ _) (Nat.le_refl _) (by simp) ?_;(case hd=>rfl);(case hg=>rfl);(case hr=>exact za_);(case hp=>exact (Reps.one (show Kd.M (Kd.int .i64) _ _ _ 2 [.int .i64 2] from rfl) (Reps.one (show Kd.M (Kd.int .i64) _ _ _ 2 [.int .i64 2] from rfl) (Reps.one (show Kd.M (Kd.int .i64) _ _ _ 4 [.int .i64 4] from rfl) (Reps.one (show Kd.M (Kd.int .i64) _ _ _ 8 [.int .i64 8] from rfl) (Reps.none _ _))))));intro v208 w9 ho10 hb hg_ hnew_;clear hg_ hnew_;(first | rw [← Ny207.out] at ho10 | (simp only [Int.reduceToNat] at ho10;rw [← Ny207.out] at ho10));have n_:=z (Kd.R_lower ho10 (keep_size (w:=w) (g:=g) (row:=none) zda_))<|z (IsS86.below (show IsS86 w0 ((w5.setCell ⟨gb206,0,none⟩ (.int .i64 a1)).setCell ⟨gb206,1,none⟩ (.slice none 0 0)) g s0_0 s0_1 s0_2 from zcj_) hb)<|z (blk_below (g:=gb205) (o := .cells #[.int .i64 0,.slice none 0 0] 41 (0,0)) (by refine zb ?_;refine blk_far ?_ NB205_206.out _;refine zb ?_;refine blk_far ?_ NB205_206.out _;refine zb ?_;exact BK205.out) hb)<|z (blk_below (g:=gb206) (o := .cells #[.int .i64 a1,.slice none 0 0] 41 (0,0)) (by refine zb ?_;refine blk_put (cs:=#[.int .i64 a1,.slice none 0 0]) ?_ 1 _ rfl;refine zb ?_;refine blk_put (cs:=#[.int .i64 0,.slice none 0 0]) ?_ 0 _ rfl;refine zb ?_;exact BK206.out) hb)<|z (KeepBut.trans zda_ (KeepBut.of_below hb g none) (.inl rfl))<|z1 (below_step zdb_ hb);clear HI0 BK205 BK206 HK HB;obtain ⟨HO209,HI0,BK205,BK206,HK,HB⟩:=n_;clear hb ho10;obtain ⟨Ao11,co11,eo11⟩:=Kd.R_slice HO209.out;subst eo11)|((with_reducible refine gate_callee (f:=66) rfl ?_);refine goesL_ (some 14) rfl rfl Try.func66 (by kernel_rfl) rfl #[.pointer (some ⟨g,0,none⟩),.slice Ao11 y207.length co11] rfl zf_ ?_;(with_reducible refine (spec_l1Cur_among.calls g s0_0 s0_1 s0_2 _ _ y207 t210 t211 t212 w0 _ ?side1 ?side2 ?side3 ?side4 ?side5 A3.out).mono ?_);(case side1=>exact zcj_);(case side2=>exact zdb_);(case side3=>repeat (first | exact (Kd.R_reads' HO209.out).2.2 | (with_reducible refine cA ?_ _)|(with_reducible refine cN ?_ _)|(with_reducible refine cD ?_)));(case side4=>exact (Kd.R_reads' HO209.out).2.1);(case side5=>exact far_slice (IsS86.own_ne HI0.out HO209.out (by decide)));rintro e w12 ⟨rfl,hi,hb,hk⟩;refine ⟨_,rfl,?_⟩;have n_:=z (KeepBut.blk hk (zb BK205.out) NB205_0.out (by simp))<|z (KeepBut.blk hk (zb BK206.out) NB206_0.out (by simp))<|z (Kd.R_mono (Kd.R_keep (IsS86.apart (show IsS86 w0 _ g s0_0 s0_1 s0_2 from zcj_) (zr HO209.out) (by decide)) hk (fun _ h=>h.2)) (fun _ h=>h.1))<|z (KeepBut.trans zda_ hk (.inl rfl))<|z (hb)<|z1 (hi);clear BK205 BK206 HO209 HK HB HI0;obtain ⟨BK205,BK206,HO209,HK,HB,HI0⟩:=n_;clear hb hk hi))
 go_loopg [7] k (fun kq v7 w' => ∃ (x7_1:Int) (x1001_1:Int) (x1002_1:Int) (x207001_1:List Int) (u207001:Value),v7 = .int .i64 x7_1∧Aside0 (spec_l1Cur_tableOf.l0 kq a1 t210 x7_1 s0_0 x1001_1 x1002_1 a1 x207001_1=some (r1,r2,r3,r4))∧Aside0 (kq≤k)∧Aside0 (Kd.R (Kd.int .i64) 3 w' w.heap.size (fun _=>True) u207001 x207001_1)∧Aside0 (w'.heap[gb205]?=some (.cells #[.int .i64 0,(.slice none 0 0)] 41 (0,0)))∧Aside0 (w'.heap[gb206]?=some (.cells #[.int .i64 a1,u207001] 41 (0,0)))∧Aside0 (IsS86 w0 w' g s0_0 x1001_1 x1002_1)∧Aside0 (KeepBut w w' g none)∧Aside0 (Below w0.heap.size w0 w'))
 case atStart=>exact ⟨(0),(t211),(t212),(([]:List Int)),(.slice none 0 0),zd_,H',⟨Nat.le_refl _⟩,⟨zdd_⟩,⟨zb BK205.out⟩,⟨zb BK206.out⟩,⟨zcj_⟩,⟨zda_⟩,⟨zdb_⟩⟩
 case round =>
  clear H';(try clear hcz8_0);(try clear hcz8_1);(try clear hfz8_0);(try clear hfz8_1);obtain ⟨x7_1,x1001_1,x1002_1,x207001_1,u207001,rfl,HA,HK1,HO_207001,BK205,BK206,HI0,HK,HB⟩:=hrel
  cases gk with
  | zero=>exact absurd HA.out (by simp [spec_l1Cur_tableOf.l0])
  | succ k1 =>
   have H:=HA.out;clear HA
   simp only [spec_l1Cur_tableOf.l0] at H
   obtain ⟨ji13,hji13⟩:∃ j_:Int,(IntKind.u64.wrap (a1))=j_:=⟨_,rfl⟩;replace H:(if 0≤(ji13) then (if x7_1<(shl .i64 1 (ji13)) then (if t210=8 then (spec_l1Cur_tableOf.l1 k1 a1 t210 x7_1 0 0 s0_0 x1001_1 x1002_1 a1 x207001_1) else ((spec_l1Cur_one.f s0_0 x1001_1 x1002_1 t210).bind fun bt217=>(if bt217.1=true then (if x207001_1.length<17592186044416 then (spec_l1Cur_tableOf.l0 k1 a1 t210 (wrap64 (x7_1+1)) s0_0 bt217.2.1 bt217.2.2 a1 (x207001_1 ++ [1])) else (none)) else (if x207001_1.length<17592186044416 then (spec_l1Cur_tableOf.l0 k1 a1 t210 (wrap64 (x7_1+1)) s0_0 bt217.2.1 bt217.2.2 a1 (x207001_1 ++ [0])) else (none))))) else (some (a1,x207001_1,x1001_1,x1002_1))) else (none))=some (r1,r2,r3,r4):=by first | (rw [hji13] at H;exact H)|(simp only [hji13] at H ⊢;exact H)
   by_cases c14:0≤(ji13)
   ·rw [if_pos c14] at H
    have c14b0:=eq_true c14;have c14b1:=decide_eq_true c14;clear c14;obtain ⟨ji15,hji15⟩:∃ j_:Int,(shl .i64 1 (ji13))=j_:=⟨_,rfl⟩;replace H:(if x7_1<(ji15) then (if t210=8 then (spec_l1Cur_tableOf.l1 k1 a1 t210 x7_1 0 0 s0_0 x1001_1 x1002_1 a1 x207001_1) else ((spec_l1Cur_one.f s0_0 x1001_1 x1002_1 t210).bind fun bt217=>(if bt217.1=true then (if x207001_1.length<17592186044416 then (spec_l1Cur_tableOf.l0 k1 a1 t210 (wrap64 (x7_1+1)) s0_0 bt217.2.1 bt217.2.2 a1 (x207001_1 ++ [1])) else (none)) else (if x207001_1.length<17592186044416 then (spec_l1Cur_tableOf.l0 k1 a1 t210 (wrap64 (x7_1+1)) s0_0 bt217.2.1 bt217.2.2 a1 (x207001_1 ++ [0])) else (none))))) else (some (a1,x207001_1,x1001_1,x1002_1)))=some (r1,r2,r3,r4):=by first | (rw [hji15] at H;exact H)|(simp only [hji15] at H ⊢;exact H)
    have hji15_:(IntKind.i64.wrap (1 * 2 ^ min (ji13).toNat 64))=ji15:=hji15;have hji15z:(ji13)≤64→(IntKind.i64.wrap (1 * 2 ^ (ji13).toNat))=ji15:=shl_small hji15;have hji15u:(IntKind.i64.wrap (2 ^ min (ji13).toNat 64))=ji15:=by have h_:=hji15_;rw [Int.one_mul] at h_;exact h_
    have hji15v:(ji13)≤64→(IntKind.i64.wrap (2 ^ (ji13).toNat))=ji15:=fun hle_=>by have h_:=hji15z hle_;rw [Int.one_mul] at h_;exact h_
    have hji15y:(wrap64 (1 * 2 ^ min (ji13).toNat 64))=ji15:=(i64_w _).symm.trans hji15_;have hji15x:(ji13)≤64→(wrap64 (1 * 2 ^ (ji13).toNat))=ji15:=fun h_=>(i64_w _).symm.trans (hji15z h_)
    by_cases c16:x7_1<(ji15)
    ·rw [if_pos c16] at H
     have c16b0:=decide_eq_true c16;clear c16
     by_cases c17:t210=8
     ·rw [if_pos c17] at H
      have c17b0:=beq_iff_eq.mpr c17;have c17b1:=bne_eq_false_iff_eq.mpr c17;clear c17;have H':=aM H;clear H
      go_wp2
      go_loopg [8,9] k1 (fun kq v8 v9 w' => ∃ (x8_2:Int) (x9_2:Int),v8 = .int .i64 x8_2∧v9 = .int .i64 x9_2∧Aside0 (spec_l1Cur_tableOf.l1 kq a1 t210 x7_1 x8_2 x9_2 s0_0 x1001_1 x1002_1 a1 x207001_1=some (r1,r2,r3,r4))∧Aside0 (kq≤k1)∧Aside0 (Kd.R (Kd.int .i64) 3 w' w.heap.size (fun _=>True) u207001 x207001_1)∧Aside0 (w'.heap[gb205]?=some (.cells #[.int .i64 0,(.slice none 0 0)] 41 (0,0)))∧Aside0 (w'.heap[gb206]?=some (.cells #[.int .i64 a1,u207001] 41 (0,0)))∧Aside0 (IsS86 w0 w' g s0_0 x1001_1 x1002_1)∧Aside0 (KeepBut w w' g none)∧Aside0 (Below w0.heap.size w0 w'))
      case atStart=>exact ⟨(0),(0),zd_,zd_,H',⟨Nat.le_refl _⟩,⟨zr HO_207001.out⟩,⟨zb BK205.out⟩,⟨zb BK206.out⟩,⟨zcj_⟩,⟨zda_⟩,⟨zdb_⟩⟩
      case round =>
       clear H';(try clear c14b0);(try clear c14b1);(try clear c16b0);(try clear c17b0);(try clear c17b1);obtain ⟨x8_2,x9_2,rfl,rfl,HA,HK2,HO_207001,BK205,BK206,HI0,HK,HB⟩:=hrel
       cases gk with
       | zero=>exact absurd HA.out (by simp [spec_l1Cur_tableOf.l1])
       | succ k2 =>
        have H:=HA.out;clear HA
        simp only [spec_l1Cur_tableOf.l1] at H
        by_cases c18:x9_2<a1
        ·rw [if_pos c18] at H
         have c18b0:=decide_eq_true c18;clear c18;replace H:=oB.mp H;obtain ⟨t213,A190,H⟩:=H;replace H:(spec_l1Cur_tableOf.l1 k2 a1 t210 x7_1 (wrap64 (x8_2+t213)) (wrap64 (x9_2+1)) s0_0 x1001_1 x1002_1 a1 x207001_1)=some (r1,r2,r3,r4):=H;have A19:=aM A190;clear A190;have H':=aM H;clear H
         go_wp2_with (first | ((with_reducible refine gate_callee (f:=112) rfl ?_);refine goesL_ (some 33) rfl rfl Try.func112 (by kernel_rfl) rfl #[.int .i64 x7_1,.int .i64 x9_2] rfl zf_ ?_;(with_reducible refine (spec_ttBit.calls x7_1 x9_2 t213 _ A19.out).mono ?_);rintro e w' ⟨rfl,⟨nd,rfl⟩⟩;refine ⟨_,rfl,?_⟩))
         go_roundg k2
         case measure=>have:=HK1.out;have:=HK2.out;omega
         case rel=>exact ⟨(wrap64 (x8_2+t213)),(wrap64 (x9_2+1)),zd_,zd_,H',⟨zgd_⟩,⟨zr HO_207001.out⟩,⟨zb BK205.out⟩,⟨zb BK206.out⟩,⟨zcj_⟩,⟨zda_⟩,⟨zdb_⟩⟩
        ·rw [if_neg c18] at H
         have c18b0:=decide_eq_false c18;clear c18
         by_cases c20:x207001_1.length<17592186044416
         ·rw [if_pos c20] at H
          have LMc20:=aM c20;clear c20;obtain ⟨y214,hy214⟩:∃ y_:List Int,y_=(x207001_1 ++ [Int.tmod (wrap64 (Int.tdiv x8_2 2)) 2]):=⟨_,rfl⟩;replace H:(spec_l1Cur_tableOf.l0 k2 a1 t210 (wrap64 (x7_1+1)) s0_0 x1001_1 x1002_1 a1 y214)=some (r1,r2,r3,r4):=q3y_ hy214 H
          have Ny214:=aM hy214;clear hy214;have H':=aM H;clear H;have hnb21:=NB206_205.out;have hnc21:=NB205_206.out;have hnb22:=NB206_0.out;have hnc22:=NB0_206.out;obtain ⟨hcz23_0,hcz23_1,hfz23_0,hfz23_1⟩:=zk2 BK206.out
          go_wp2_with (first | ((with_reducible refine gate_builtin (b := .append) (xs:=#[.tmp 43,.tmp 45]) rfl ?_);at_builtin;refine Kd.R_append (Kd.int .i64) w.heap.size rfl (.tmp 43) (.tmp 45) 39 3 (.int .i64 0) 8 rfl Try.underlying39 info3 rfl (by decide) (by omega) u207001 x207001_1 (Int.tmod (wrap64 (Int.tdiv x8_2 2)) 2) [.int .i64 (Int.tmod (wrap64 (Int.tdiv x8_2 2)) 2)] (fun _=>True) (fun _=>False) rfl rfl ?aP (fun _ hk=>hk.elim) ?aF ?aO (Below.refl _ _) ?aS ?aL ?_;(case aP=>exact rfl);(case aF=>exact zdi_);(case aO=>exact (zr HO_207001.out));(case aS=>exact zbab_);(case aL=>have:=LMc20.out;omega);intro v215 w24 ho hb hg hat;rw [← Ny214.out] at ho;have n_:=z (blk_grown (g:=gb205) (o := .cells #[.int .i64 0,.slice none 0 0] 41 (0,0)) (zb BK205.out) hg (Kd.R_ne HO_207001.out BK205.out (by decide)))<|z (blk_grown (g:=gb206) (o := .cells #[.int .i64 a1,u207001] 41 (0,0)) (zb BK206.out) hg (Kd.R_ne HO_207001.out BK206.out (by decide)))<|z (IsS86.grown zcj_ hg (IsS86.own_ne HI0.out HO_207001.out (by decide)))<|z (below_weaken zdb_ HL.out hb)<|z (KeepBut.trans zda_ (KeepBut.of_grown hg g) (Kd.R_base2 HO_207001.out))<|z1 (ho);clear BK205 BK206 HI0 HB HK HO_207001;obtain ⟨BK205,BK206,HI0,HB,HK,HO216⟩:=n_;clear ho hb hg hat;obtain ⟨Ao25,co25,eo25⟩:=Kd.R_slice HO216.out;subst eo25;obtain ⟨hcz26_0,hcz26_1,hfz26_0,hfz26_1⟩:=zk2 BK206.out))
          go_roundg k2
          case measure=>have:=HK1.out;have:=HK2.out;omega
          case rel=>exact ⟨(wrap64 (x7_1+1)),(x1001_1),(x1002_1),(y214),(.slice Ao25 y214.length co25),zd_,H',⟨zgd_⟩,⟨by refine zr ?_;exact Kd.R_mono (Kd.R_far (p:=⟨gb206,1,none⟩) (Kd.R_types HO216.out BK206.out (by decide)) (fun _ hk=>hk.2) (.slice Ao25 y214.length co25)) (fun _ hk=>trivial)⟩,⟨by refine zb ?_;refine blk_far ?_ NB205_206.out _;refine zb ?_;exact BK205.out⟩,⟨zbac_⟩,⟨zcj_⟩,⟨zda_⟩,⟨zdb_⟩⟩
         ·rw [if_neg c20] at H
          exact q3n_ H
     ·rw [if_neg c17] at H
      have c17b0:=beq_eq_false_iff_ne.mpr c17;have c17b1:=bne_iff_ne.mpr c17;replace H:=oB.mp H;obtain ⟨⟨t217,t218,t219⟩,A270,H⟩:=H;replace H:(if t217=true then (if x207001_1.length<17592186044416 then (spec_l1Cur_tableOf.l0 k1 a1 t210 (wrap64 (x7_1+1)) s0_0 t218 t219 a1 (x207001_1 ++ [1])) else (none)) else (if x207001_1.length<17592186044416 then (spec_l1Cur_tableOf.l0 k1 a1 t210 (wrap64 (x7_1+1)) s0_0 t218 t219 a1 (x207001_1 ++ [0])) else (none)))=some (r1,r2,r3,r4):=H;have A27:=aM A270;clear A270
      by_cases c28:t217=true
      ·subst c28
       have H1:(if x207001_1.length<17592186044416 then (spec_l1Cur_tableOf.l0 k1 a1 t210 (wrap64 (x7_1+1)) s0_0 t218 t219 a1 (x207001_1 ++ [1])) else (none))=some (r1,r2,r3,r4):=by rw [if_pos rfl] at H;exact H
       clear H;have H:=H1;clear H1
       by_cases c29:x207001_1.length<17592186044416
       ·rw [if_pos c29] at H
        have LMc29:=aM c29;clear c29;obtain ⟨y220,hy220⟩:∃ y_:List Int,y_=(x207001_1 ++ [1]):=⟨_,rfl⟩;replace H:(spec_l1Cur_tableOf.l0 k1 a1 t210 (wrap64 (x7_1+1)) s0_0 t218 t219 a1 y220)=some (r1,r2,r3,r4):=q3y_ hy220 H
        have Ny220:=aM hy220;clear hy220;have H':=aM H;clear H
        go_wp2_with (first | ((with_reducible refine gate_callee (f:=65) rfl ?_);refine goesL_ (some 41) rfl rfl Try.func65 (by kernel_rfl) rfl #[.pointer (some ⟨g,0,none⟩),.int .i64 t210] rfl zf_ ?_;(with_reducible refine (spec_l1Cur_one.calls g s0_0 x1001_1 x1002_1 t210 true t218 t219 w0 _ ?side1 ?side2 A27.out).mono ?_);(case side1=>exact zcj_);(case side2=>exact zdb_);rintro e w30 ⟨rfl,hi,hb,hk⟩;refine ⟨_,rfl,?_⟩;have n_:=z (Kd.R_mono (Kd.R_keep (IsS86.apart (show IsS86 w0 _ g s0_0 x1001_1 x1002_1 from zcj_) (zr HO_207001.out) (by decide)) hk (fun _ h=>h.2)) (fun _ h=>h.1))<|z (KeepBut.blk hk (zb BK205.out) NB205_0.out (by simp))<|z (KeepBut.blk hk (zb BK206.out) NB206_0.out (by simp))<|z (KeepBut.trans zda_ hk (.inl rfl))<|z (hb)<|z1 (hi);clear HO_207001 BK205 BK206 HK HB HI0;obtain ⟨HO_207001,BK205,BK206,HK,HB,HI0⟩:=n_;clear hb hk hi;have hnb31:=NB206_205.out;have hnc31:=NB205_206.out;have hnb32:=NB206_0.out;have hnc32:=NB0_206.out;obtain ⟨hcz33_0,hcz33_1,hfz33_0,hfz33_1⟩:=zk2 BK206.out)|((with_reducible refine gate_builtin (b := .append) (xs:=#[.tmp 43,.tmp 45]) rfl ?_);at_builtin;refine Kd.R_append (Kd.int .i64) w.heap.size rfl (.tmp 43) (.tmp 45) 39 3 (.int .i64 0) 8 rfl Try.underlying39 info3 rfl (by decide) (by omega) u207001 x207001_1 1 [.int .i64 1] (fun _=>True) (fun _=>False) rfl rfl ?aP (fun _ hk=>hk.elim) ?aF ?aO (Below.refl _ _) ?aS ?aL ?_;(case aP=>exact rfl);(case aF=>exact zdi_);(case aO=>exact (zr HO_207001.out));(case aS=>exact zbab_);(case aL=>have:=LMc29.out;omega);intro v221 w34 ho hb hg hat;rw [← Ny220.out] at ho;have n_:=z (blk_grown (g:=gb205) (o := .cells #[.int .i64 0,.slice none 0 0] 41 (0,0)) (zb BK205.out) hg (Kd.R_ne HO_207001.out BK205.out (by decide)))<|z (blk_grown (g:=gb206) (o := .cells #[.int .i64 a1,u207001] 41 (0,0)) (zb BK206.out) hg (Kd.R_ne HO_207001.out BK206.out (by decide)))<|z (IsS86.grown zcj_ hg (IsS86.own_ne HI0.out HO_207001.out (by decide)))<|z (below_weaken zdb_ HL.out hb)<|z (KeepBut.trans zda_ (KeepBut.of_grown hg g) (Kd.R_base2 HO_207001.out))<|z1 (ho);clear BK205 BK206 HI0 HB HK HO_207001;obtain ⟨BK205,BK206,HI0,HB,HK,HO222⟩:=n_;clear ho hb hg hat;obtain ⟨Ao35,co35,eo35⟩:=Kd.R_slice HO222.out;subst eo35;obtain ⟨hcz36_0,hcz36_1,hfz36_0,hfz36_1⟩:=zk2 BK206.out))
        go_roundg k1
        case measure=>have:=HK1.out;omega
        case rel=>exact ⟨(wrap64 (x7_1+1)),(t218),(t219),(y220),(.slice Ao35 y220.length co35),zd_,H',⟨zci_⟩,⟨by refine zr ?_;exact Kd.R_mono (Kd.R_far (p:=⟨gb206,1,none⟩) (Kd.R_types HO222.out BK206.out (by decide)) (fun _ hk=>hk.2) (.slice Ao35 y220.length co35)) (fun _ hk=>trivial)⟩,⟨by refine zb ?_;refine blk_far ?_ NB205_206.out _;refine zb ?_;exact BK205.out⟩,⟨zbac_⟩,⟨zcj_⟩,⟨zda_⟩,⟨zdb_⟩⟩
       ·rw [if_neg c29] at H
        exact q3n_ H
      ·replace c28:=Bool.eq_false_iff.mpr c28
       subst c28;have H1:(if x207001_1.length<17592186044416 then (spec_l1Cur_tableOf.l0 k1 a1 t210 (wrap64 (x7_1+1)) s0_0 t218 t219 a1 (x207001_1 ++ [0])) else (none))=some (r1,r2,r3,r4):=by rw [if_neg (show ¬ (false=true) by decide)] at H;exact H
       clear H;have H:=H1;clear H1
       by_cases c37:x207001_1.length<17592186044416
       ·rw [if_pos c37] at H
        have LMc37:=aM c37;clear c37;obtain ⟨y223,hy223⟩:∃ y_:List Int,y_=(x207001_1 ++ [0]):=⟨_,rfl⟩;replace H:(spec_l1Cur_tableOf.l0 k1 a1 t210 (wrap64 (x7_1+1)) s0_0 t218 t219 a1 y223)=some (r1,r2,r3,r4):=q3y_ hy223 H
        have Ny223:=aM hy223;clear hy223;have H':=aM H;clear H
        go_wp2_with (first | ((with_reducible refine gate_callee (f:=65) rfl ?_);refine goesL_ (some 41) rfl rfl Try.func65 (by kernel_rfl) rfl #[.pointer (some ⟨g,0,none⟩),.int .i64 t210] rfl zf_ ?_;(with_reducible refine (spec_l1Cur_one.calls g s0_0 x1001_1 x1002_1 t210 false t218 t219 w0 _ ?side1 ?side2 A27.out).mono ?_);(case side1=>exact zcj_);(case side2=>exact zdb_);rintro e w38 ⟨rfl,hi,hb,hk⟩;refine ⟨_,rfl,?_⟩;have n_:=z (Kd.R_mono (Kd.R_keep (IsS86.apart (show IsS86 w0 _ g s0_0 x1001_1 x1002_1 from zcj_) (zr HO_207001.out) (by decide)) hk (fun _ h=>h.2)) (fun _ h=>h.1))<|z (KeepBut.blk hk (zb BK205.out) NB205_0.out (by simp))<|z (KeepBut.blk hk (zb BK206.out) NB206_0.out (by simp))<|z (KeepBut.trans zda_ hk (.inl rfl))<|z (hb)<|z1 (hi);clear HO_207001 BK205 BK206 HK HB HI0;obtain ⟨HO_207001,BK205,BK206,HK,HB,HI0⟩:=n_;clear hb hk hi;have hnb39:=NB206_205.out;have hnc39:=NB205_206.out;have hnb40:=NB206_0.out;have hnc40:=NB0_206.out;obtain ⟨hcz41_0,hcz41_1,hfz41_0,hfz41_1⟩:=zk2 BK206.out)|((with_reducible refine gate_builtin (b := .append) (xs:=#[.tmp 43,.tmp 45]) rfl ?_);at_builtin;refine Kd.R_append (Kd.int .i64) w.heap.size rfl (.tmp 43) (.tmp 45) 39 3 (.int .i64 0) 8 rfl Try.underlying39 info3 rfl (by decide) (by omega) u207001 x207001_1 0 [.int .i64 0] (fun _=>True) (fun _=>False) rfl rfl ?aP (fun _ hk=>hk.elim) ?aF ?aO (Below.refl _ _) ?aS ?aL ?_;(case aP=>exact rfl);(case aF=>exact zdi_);(case aO=>exact (zr HO_207001.out));(case aS=>exact zbab_);(case aL=>have:=LMc37.out;omega);intro v224 w42 ho hb hg hat;rw [← Ny223.out] at ho;have n_:=z (blk_grown (g:=gb205) (o := .cells #[.int .i64 0,.slice none 0 0] 41 (0,0)) (zb BK205.out) hg (Kd.R_ne HO_207001.out BK205.out (by decide)))<|z (blk_grown (g:=gb206) (o := .cells #[.int .i64 a1,u207001] 41 (0,0)) (zb BK206.out) hg (Kd.R_ne HO_207001.out BK206.out (by decide)))<|z (IsS86.grown zcj_ hg (IsS86.own_ne HI0.out HO_207001.out (by decide)))<|z (below_weaken zdb_ HL.out hb)<|z (KeepBut.trans zda_ (KeepBut.of_grown hg g) (Kd.R_base2 HO_207001.out))<|z1 (ho);clear BK205 BK206 HI0 HB HK HO_207001;obtain ⟨BK205,BK206,HI0,HB,HK,HO225⟩:=n_;clear ho hb hg hat;obtain ⟨Ao43,co43,eo43⟩:=Kd.R_slice HO225.out;subst eo43;obtain ⟨hcz44_0,hcz44_1,hfz44_0,hfz44_1⟩:=zk2 BK206.out))
        go_roundg k1
        case measure=>have:=HK1.out;omega
        case rel=>exact ⟨(wrap64 (x7_1+1)),(t218),(t219),(y223),(.slice Ao43 y223.length co43),zd_,H',⟨zci_⟩,⟨by refine zr ?_;exact Kd.R_mono (Kd.R_far (p:=⟨gb206,1,none⟩) (Kd.R_types HO225.out BK206.out (by decide)) (fun _ hk=>hk.2) (.slice Ao43 y223.length co43)) (fun _ hk=>trivial)⟩,⟨by refine zb ?_;refine blk_far ?_ NB205_206.out _;refine zb ?_;exact BK205.out⟩,⟨zbac_⟩,⟨zcj_⟩,⟨zda_⟩,⟨zdb_⟩⟩
       ·rw [if_neg c37] at H
        exact q3n_ H
    ·rw [if_neg c16] at H
     have c16b0:=decide_eq_false c16;clear c16
     simp only [Option.some.injEq,Prod.mk.injEq] at H
     obtain ⟨rfl,rfl,rfl,rfl⟩:=H;have hnb45:=NB206_205.out;have hnc45:=NB205_206.out;have hnb46:=NB206_0.out;have hnc46:=NB0_206.out;obtain ⟨hcz47_0,hcz47_1,hfz47_0,hfz47_1⟩:=zk2 BK206.out;have hnb48:=NB205_0.out;have hnc48:=NB0_205.out;obtain ⟨hcz49_0,hcz49_1,hfz49_0,hfz49_1⟩:=zk2 BK205.out;obtain ⟨Ao50,co50,eo50⟩:=Kd.R_slice HO_207001.out;subst eo50
     go_wp2
     refine bodyPost_ret (results_cell_row rfl _ _ gb205 41 #[.int .i64 a1,.slice Ao50 x207001_1.length co50] (0,0) _ rfl (by refine zb ?_;refine blk_put (cs:=#[.int .i64 a1,.slice none 0 0]) ?_ 1 _ rfl;refine zb ?_;refine blk_put (cs:=#[.int .i64 0,.slice none 0 0]) ?_ 0 _ rfl;refine zb ?_;exact BK205.out) Try.underlying41 rfl (by kernel_rfl)) rfl ?_
     exact ⟨_,by first | rfl | (simp [errW_none,errW_some] <;> rfl)|(simp only [← hji13,← hji15];first | rfl | (simp [errW_none,errW_some] <;> rfl))|(simp [*,errW_none,errW_some] <;> rfl),by refine zr ?_;exact Kd.R_mono (Kd.R_far (p:=⟨gb205,1,none⟩) (Kd.R_far (p:=⟨gb205,0,none⟩) (Kd.R_types HO_207001.out BK205.out (by decide)) (fun _ hk=>hk.2) (.int .i64 a1)) (fun _ hk=>hk.2) (.slice Ao50 x207001_1.length co50)) (fun _ hk=>trivial),zcj_,zdb_,zda_⟩
   ·rw [if_neg c14] at H
    exact q3n_ H
def spec_l1Cur_table.f (k:Nat) (s0_0:List Int) (s0_1:Int) (s0_2:Int):Option (Int×List Int×Int×Int):=(spec_l1Cur_among.f s0_0 s0_1 s0_2 (([0,1,2,2,3,3,4]:List Int))).bind fun bt230=>((spec_l1Cur_tableOf.f k s0_0 bt230.2.1 bt230.2.2 bt230.1).bind fun bt233=>(some (bt233.1,bt233.2.1,bt233.2.2.1,bt233.2.2.2)))
theorem spec_l1Cur_table.calls (k:Nat) (g:Nat) (s0_0:List Int) (s0_1:Int) (s0_2:Int) (r1:Int) (r2:List Int) (r3:Int) (r4:Int) (w0 w:World) (hI:IsS86 w0 w g s0_0 s0_1 s0_2) (hB:Below w0.heap.size w0 w) (h:spec_l1Cur_table.f k s0_0 s0_1 s0_2=some (r1,r2,r3,r4)) :
  Calls Try.prog 111 #[.pointer (some ⟨g,0,none⟩)] w fun e w' => ∃ v1_:Value,e = .returned (.agg #[.int .i64 r1,v1_])∧Kd.R (Kd.int .i64) 3 w' w.heap.size (fun _=>True) v1_ r2∧IsS86 w0 w' g s0_0 r3 r4∧Below w0.heap.size w0 w'∧KeepBut w w' g none:=by
 have hu41:=Try.underlying41
 have HI0:=aM hI
 have HK:=aM (KeepBut.refl w g none)
 have HL:=aM hB.size
 clear hI
 have HW0:=aM hB.size
 have HB:=aM hB
 clear hB
 have H:((spec_l1Cur_among.f s0_0 s0_1 s0_2 (([0,1,2,2,3,3,4]:List Int))).bind fun bt230=>((spec_l1Cur_tableOf.f k s0_0 bt230.2.1 bt230.2.2 bt230.1).bind fun bt233=>(some (bt233.1,bt233.2.1,bt233.2.2.1,bt233.2.2.2))))=some (r1,r2,r3,r4):=h
 clear h
 obtain ⟨y227,hy227⟩:∃ y_:List Int,y_=(([0,1,2,2,3,3,4]:List Int)):=⟨_,rfl⟩
 replace H:((spec_l1Cur_among.f s0_0 s0_1 s0_2 y227).bind fun bt230=>((spec_l1Cur_tableOf.f k s0_0 bt230.2.1 bt230.2.2 bt230.1).bind fun bt233=>(some (bt233.1,bt233.2.1,bt233.2.2.1,bt233.2.2.2))))=some (r1,r2,r3,r4):=q3y_ hy227 H
 have Ny227:=aM hy227
 clear hy227
 replace H:=oB.mp H
 obtain ⟨⟨t230,t231,t232⟩,A20,H⟩:=H
 replace H:((spec_l1Cur_tableOf.f k s0_0 t231 t232 t230).bind fun bt233=>(some (bt233.1,bt233.2.1,bt233.2.2.1,bt233.2.2.2)))=some (r1,r2,r3,r4):=H
 have A2:=aM A20
 clear A20
 replace H:=oB.mp H
 obtain ⟨⟨t233,t234,t237,t238⟩,A30,H⟩:=H
 replace H:(some (t233,t234,t237,t238))=some (r1,r2,r3,r4):=H
 have A3:=aM A30
 clear A30
 simp only [Option.some.injEq,Prod.mk.injEq] at H
 obtain ⟨rfl,rfl,rfl,rfl⟩:=H
 go_enter Try.func111,Try.ntmps111
 go_wp2_with (first | ((with_reducible refine gate_dst (N:=2) rfl ?_);refine box_event ?hg (N:=2) ?hd (cs:=#[.int .i64 0,.slice none 0 0]) (t:=41) ?hr ?_;(case hd=>rfl);(case hg=>rfl);(case hr=>exact za_);intro gb226 hg w4 hbox hb;have n_:=z (IsS86.below zba_ hb)<|z (KeepBut.trans zbb_ (KeepBut.of_below hb g none) (.inl rfl))<|z (below_step zca_ hb)<|z (hbox)<|z ((by rw [hg];exact (keep_size (w:=w) (g:=g) (row:=none) zbb_):w.heap.size≤gb226))<|z ((Nat.le_trans HW0.out (by rw [hg];exact (keep_size (w:=w) (g:=g) (row:=none) zbb_):w.heap.size≤gb226):w0.heap.size≤gb226))<|z ((by rw [hg];exact Nat.ne_of_lt (IsS86.lt (show IsS86 w0 _ g s0_0 s0_1 s0_2 from zba_)):g≠gb226))<|z1 ((by rw [hg];exact Nat.ne_of_gt (IsS86.lt (show IsS86 w0 _ g s0_0 s0_1 s0_2 from zba_)):gb226≠g));clear HI0 HK HB;obtain ⟨HI0,HK,HB,BK226,GW226,GE226,NB0_226,NB226_0⟩:=n_;clear hb hbox hg)|((with_reducible refine gate_dst (N:=5) rfl ?_);refine Kd.R_lit (Kd.int .i64) _ 3 ?hg (N:=5) ?hd (xs:=([0,1,2,2,3,3,4]:List Int)) (inner:=[.int .i64 0,.int .i64 1,.int .i64 2,.int .i64 2,.int .i64 3,.int .i64 3,.int .i64 4]) (ok:=fun _=>True) (okp:=fun _=>True) ?hr ?hp (fun _ hk=>hk) trivial (Below.refl _ _) (Nat.le_refl _) (by simp) ?_;(case hd=>rfl);(case hg=>rfl);(case hr=>exact za_);(case hp=>exact (Reps.one (show Kd.M (Kd.int .i64) _ _ _ 0 [.int .i64 0] from rfl) (Reps.one (show Kd.M (Kd.int .i64) _ _ _ 1 [.int .i64 1] from rfl) (Reps.one (show Kd.M (Kd.int .i64) _ _ _ 2 [.int .i64 2] from rfl) (Reps.one (show Kd.M (Kd.int .i64) _ _ _ 2 [.int .i64 2] from rfl) (Reps.one (show Kd.M (Kd.int .i64) _ _ _ 3 [.int .i64 3] from rfl) (Reps.one (show Kd.M (Kd.int .i64) _ _ _ 3 [.int .i64 3] from rfl) (Reps.one (show Kd.M (Kd.int .i64) _ _ _ 4 [.int .i64 4] from rfl) (Reps.none _ _)))))))));intro v228 w5 ho6 hb hg_ hnew_;clear hg_ hnew_;(first | rw [← Ny227.out] at ho6 | (simp only [Int.reduceToNat] at ho6;rw [← Ny227.out] at ho6));have n_:=z (Kd.R_lower ho6 (keep_size (w:=w) (g:=g) (row:=none) zge_))<|z (IsS86.below zgf_ hb)<|z (blk_below (zb BK226.out) hb)<|z (KeepBut.trans zge_ (KeepBut.of_below hb g none) (.inl rfl))<|z1 (below_step zij_ hb);clear HI0 BK226 HK HB;obtain ⟨HO229,HI0,BK226,HK,HB⟩:=n_;clear hb ho6;obtain ⟨Ao7,co7,eo7⟩:=Kd.R_slice HO229.out;subst eo7)|((with_reducible refine gate_callee (f:=66) rfl ?_);refine goesL_ (some 6) rfl rfl Try.func66 (by kernel_rfl) rfl #[.pointer (some ⟨g,0,none⟩),.slice Ao7 y227.length co7] rfl zf_ ?_;(with_reducible refine (spec_l1Cur_among.calls g s0_0 s0_1 s0_2 _ _ y227 t230 t231 t232 w0 _ ?side1 ?side2 ?side3 ?side4 ?side5 A2.out).mono ?_);(case side1=>exact zgf_);(case side2=>exact zij_);(case side3=>repeat (first | exact (Kd.R_reads' HO229.out).2.2 | (with_reducible refine cA ?_ _)|(with_reducible refine cN ?_ _)|(with_reducible refine cD ?_)));(case side4=>exact (Kd.R_reads' HO229.out).2.1);(case side5=>exact far_slice (IsS86.own_ne HI0.out HO229.out (by decide)));rintro e w8 ⟨rfl,hi,hb,hk⟩;refine ⟨_,rfl,?_⟩;have n_:=z (KeepBut.blk hk (zb BK226.out) NB226_0.out (by simp))<|z (Kd.R_mono (Kd.R_keep (IsS86.apart (show IsS86 w0 _ g s0_0 s0_1 s0_2 from zgf_) (zr HO229.out) (by decide)) hk (fun _ h=>h.2)) (fun _ h=>h.1))<|z (KeepBut.trans zge_ hk (.inl rfl))<|z (hb)<|z1 (hi);clear BK226 HO229 HK HB HI0;obtain ⟨BK226,HO229,HK,HB,HI0⟩:=n_;clear hb hk hi)|((with_reducible refine gate_callee (f:=62) rfl ?_);refine goesL_ (some 7) rfl rfl Try.func62 (by kernel_rfl) rfl #[.pointer (some ⟨g,0,none⟩),.int .i64 t230] rfl zf_ ?_;(with_reducible refine (spec_l1Cur_tableOf.calls k g s0_0 t231 t232 t230 t233 t234 t237 t238 w0 _ ?side1 ?side2 A3.out).mono ?_);(case side1=>exact zgf_);(case side2=>exact zij_);rintro e w9 ⟨v235,rfl,ho0,hi,hb,hk⟩;refine ⟨_,rfl,?_⟩;have n_:=z (KeepBut.blk hk (zb BK226.out) NB226_0.out (by simp))<|z (Kd.R_mono (Kd.R_told (Kd.R_oldK (IsS86.apart (show IsS86 w0 _ g s0_0 t231 t232 from zgf_) (zr HO229.out) (by decide)) hk) (Kd.R_base ho0)) (fun _ h_=>h_.1))<|z (Kd.R_lower (Kd.R_new' ho0 (Kd.R_lt (zr HO229.out))) (keep_size (w:=w) (g:=g) (row:=none) zge_))<|z (KeepBut.trans zge_ hk (.inl rfl))<|z (hb)<|z1 (hi);clear BK226 HO229 HK HB HI0;obtain ⟨BK226,HO229,HO236,HK,HB,HI0⟩:=n_;clear hb hk hi;(try clear ho0);have hnb10:=NB226_0.out;have hnc10:=NB0_226.out;obtain ⟨hcz11_0,hcz11_1,hfz11_0,hfz11_1⟩:=zk2 BK226.out;obtain ⟨Ao12,co12,eo12⟩:=Kd.R_slice HO236.out;subst eo12))
 refine bodyPost_ret (results_cell_row rfl _ _ gb226 41 #[.int .i64 t233,.slice Ao12 t234.length co12] (0,0) _ rfl (by refine zb ?_;refine blk_put (cs:=#[.int .i64 t233,.slice none 0 0]) ?_ 1 _ rfl;refine zb ?_;refine blk_put (cs:=#[.int .i64 0,.slice none 0 0]) ?_ 0 _ rfl;refine zb ?_;exact BK226.out) Try.underlying41 rfl (by kernel_rfl)) rfl ?_
 exact ⟨_,zg_,by refine zr ?_;exact Kd.R_mono (Kd.R_far (p:=⟨gb226,1,none⟩) (Kd.R_far (p:=⟨gb226,0,none⟩) (Kd.R_types HO236.out BK226.out (by decide)) (fun _ hk=>hk.2) (.int .i64 t233)) (fun _ hk=>hk.2) (.slice Ao12 t234.length co12)) (fun _ hk=>trivial),zgf_,zij_,zge_⟩
end Go.Proofs.Ytlnhpkjioppbiaa.QFnDiagramOrders
