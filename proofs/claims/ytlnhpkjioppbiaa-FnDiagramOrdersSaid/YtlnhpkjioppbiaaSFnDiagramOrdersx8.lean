/- Functions of FnDiagramOrders, each as a Lean function, with the proof that the Go code comes to its answers. -/
import Derived.Test.YtlnhpkjioppbiaaSFnDiagramOrdersx3
import Derived.Test.YtlnhpkjioppbiaaSFnDiagramOrdersx6
namespace Go.Proofs.Ytlnhpkjioppbiaa.QFnDiagramOrders
open Go.RowKit Go.Proofs.YtlnhpkjioppbiaaW.PrintWords Go.Proofs.YtlnhpkjioppbiaaW.PrintLast Go.Proofs.YtlnhpkjioppbiaaW.PrintMore
open Go.Proofs.YtlnhpkjioppbiaaW.PrintWords renaming pw_below_drewN→pN,below_drew1→p1,below_alloc→pA
open Go.Proofs.YtlnhpkjioppbiaaW.PrintWords.Kd renaming R_alloc→kA,R_drewN→kN,R_drew→kD,Q_alloc→qA,Q_drewN→qN,Q_drew→qD,C_alloc→cA,C_drewN→cN,C_drew→cD
open Go.Proofs.YtlnhpkjioppbiaaW.PrintWords.Aside0 renaming mk→aM
open List renaming setIfInBounds_toArray→sI,set_cons_zero→s0,set_cons_succ→sS,map_toArray→mT,length_take→lT,length_drop→lD,map_cons→mC,map_nil→mN
open Option renaming bind_eq_some_iff→oB
attribute [local go_sem] max2_int min2_int max_two min_two max_three min_three max_four min_four
set_option maxHeartbeats 8000000
set_option maxRecDepth 100000
set_option linter.unusedVariables false
set_option linter.unusedSimpArgs false
def spec_CombineDiagrams.f (k:Nat) (a0:Int) (a1_0:Int) (l1_1:List (S93)) (a1_2:Int) (a2_0:Int) (l2_1:List (S93)) (a2_2:Int):Option (Int×(List (S93))×Int×Bool):=(spec_ddGood.f k a1_0 l1_1 a1_2).bind fun b11=>if b11=true then ((spec_ddGood.f k a2_0 l2_1 a2_2).bind fun b15=>if b15=true then ((spec_ddTable.f k a1_0 l1_1 a1_2).bind fun b22=>(spec_ddTable.f k a2_0 l2_1 a2_2).bind fun b24=>(spec_CombineTables.f k a0 b22.1 b22.2 b24.1 b24.2).bind fun b25=>if b25.2.2=true then ((spec_ddMake.f k b25.1 b25.2.1).bind fun b32=>some (b32.1,b32.2.1,b32.2.2,true)) else (some (0,[],0,false))) else (some (0,[],0,false))) else (some (0,[],0,false))
open Go.Proofs.Ytlnhpkjioppbiaa.Sep in
set_option maxHeartbeats 32000000 in
set_option maxRecDepth 100000 in
theorem spec_CombineDiagrams.calls (k:Nat) (a0:Int) (a1_0:Int) (A1_1:Option Addr) (c1_1:Nat) (l1_1:List (S93)) (a1_2:Int) (a2_0:Int) (A2_1:Option Addr) (c2_1:Nat) (l2_1:List (S93)) (a2_2:Int) (r1:Int) (r2:List (S93)) (r3:Int) (r4:Bool) (w:World) (hr1_1:Kd.C k93 w A1_1 l1_1.length l1_1) (hc1_1:l1_1.length≤c1_1) (hr2_1:Kd.C k93 w A2_1 l2_1.length l2_1) (hc2_1:l2_1.length≤c2_1) (h:spec_CombineDiagrams.f k a0 a1_0 l1_1 a1_2 a2_0 l2_1 a2_2=some (r1,r2,r3,r4)) :
  Calls Try.prog 7 #[.int .i64 a0,.agg #[.int .i64 a1_0,.slice A1_1 l1_1.length c1_1,.int .i64 a1_2],.agg #[.int .i64 a2_0,.slice A2_1 l2_1.length c2_1,.int .i64 a2_2]] w fun e w' => ∃ v1_:Value,e = .returned (.tuple #[.agg #[.int .i64 r1,v1_,.int .i64 r3],.bool r4])∧Kd.R k93 93 w' w.heap.size (fun _=>True) v1_ r2∧Below w.heap.size w w':=by
 have HR1_1:=aM hr1_1
 have HC1_1:=aM hc1_1
 clear hr1_1 hc1_1
 have HR2_1:=aM hr2_1
 have HC2_1:=aM hc2_1
 clear hr2_1 hc2_1
 unfold spec_CombineDiagrams.f at h
 have H:=h
 clear h
 obtain ⟨t11,A_,H_⟩:=oB.mp H
 clear H
 have H:=H_
 clear H_
 (try dsimp only at H)
 have A11:=aM A_
 clear A_
 go_enter Try.func7,Try.ntmps7
 go_upto_region 1 with (first | ((with_reducible refine gate_dst (N:=4) rfl ?_);refine box_event ?hg (N:=4) ?hd (cs:=#[.int .i64 a1_0,.slice A1_1 l1_1.length c1_1,.int .i64 a1_2]) (t:=28) ?hr ?_;(case hd=>rfl);(case hg=>rfl);(case hr=>exact za_);intro g4 hg w_1 hbox hb;have HO_1:=aM ((Sep.Own.nil w).add_box (T:=28) (cs:=#[.int .i64 a1_0,.slice A1_1 l1_1.length c1_1,.int .i64 a1_2]) hg hbox hb);clear hg hbox hb)|((with_reducible refine gate_dst (N:=5) rfl ?_);refine box_event ?hg (N:=5) ?hd (cs:=#[.int .i64 a2_0,.slice A2_1 l2_1.length c2_1,.int .i64 a2_2]) (t:=28) ?hr ?_;(case hd=>rfl);(case hg=>rfl);(case hr=>exact za_);intro g5 hg w_2 hbox hb;have HO_2:=aM (HO_1.out.add_box (T:=28) (cs:=#[.int .i64 a2_0,.slice A2_1 l2_1.length c2_1,.int .i64 a2_2]) hg hbox hb);clear hg hbox hb)|((with_reducible refine gate_dst (N:=6) rfl ?_);refine box_event ?hg (N:=6) ?hd (cs:=#[.int .i64 0,.slice none 0 0,.int .i64 0]) (t:=28) ?hr ?_;(case hd=>rfl);(case hg=>rfl);(case hr=>exact za_);intro g6 hg w_3 hbox hb;have HO_3:=aM (HO_2.out.add_box (T:=28) (cs:=#[.int .i64 0,.slice none 0 0,.int .i64 0]) hg hbox hb);clear hg hbox hb))
 by_cases c11_0:t11=true
 ·subst c11_0
  rw [if_pos rfl] at H;obtain ⟨t15,A_,H_⟩:=oB.mp H;clear H;have H:=H_;clear H_;(try dsimp only at H);have A15:=aM A_;clear A_
  by_cases c15_0:t15=true
  ·subst c15_0
   rw [if_pos rfl] at H;obtain ⟨⟨t22_0,t22_1⟩,A_,H_⟩:=oB.mp H;clear H;have H:=H_;clear H_;(try dsimp only at H);have A22:=aM A_;clear A_;obtain ⟨⟨t24_0,t24_1⟩,A_,H_⟩:=oB.mp H;clear H;have H:=H_;clear H_;(try dsimp only at H);have A24:=aM A_;clear A_;obtain ⟨⟨t25_0,t25_1,t25_2⟩,A_,H_⟩:=oB.mp H;clear H;have H:=H_;clear H_;(try dsimp only at H);have A25:=aM A_;clear A_;have z_1:w_3.cell? ⟨g4,0,none⟩=some (.int .i64 a1_0):=(HO_3.out.cell 2 rfl 0 rfl);have z_2:w_3.cell? ⟨g4,1,none⟩=some (.slice A1_1 l1_1.length c1_1):=(HO_3.out.cell 2 rfl 1 rfl);have z_3:w_3.cell? ⟨g4,2,none⟩=some (.int .i64 a1_2):=(HO_3.out.cell 2 rfl 2 rfl)
   go_wp2_with (first | ((with_reducible refine gate_callee (f:=51) rfl ?_);refine goesL_ (some 11) rfl rfl Try.func51 (by kernel_rfl) rfl #[.agg #[.int .i64 a1_0,.slice A1_1 l1_1.length c1_1,.int .i64 a1_2]] rfl ze_ ?_;(with_reducible refine (spec_ddGood.calls k a1_0 A1_1 c1_1 l1_1 a1_2 true _ zdf_ HC1_1.out A11.out).mono ?_);rintro e w_4 ⟨rfl,hb⟩;refine ⟨_,rfl,?_⟩;have ho:=HO_3.out.below hb;clear hb;have HO_4:=aM ho;clear ho;have z_4:w_4.cell? ⟨g5,0,none⟩=some (.int .i64 a2_0):=(HO_4.out.cell 1 rfl 0 rfl);have z_5:w_4.cell? ⟨g5,1,none⟩=some (.slice A2_1 l2_1.length c2_1):=(HO_4.out.cell 1 rfl 1 rfl);have z_6:w_4.cell? ⟨g5,2,none⟩=some (.int .i64 a2_2):=(HO_4.out.cell 1 rfl 2 rfl))|(go_at_call 51;(with_reducible refine (spec_ddGood.calls k a2_0 A2_1 c2_1 l2_1 a2_2 true _ zea_ HC2_1.out A15.out).mono ?_);rintro e w_5 ⟨rfl,hb⟩;have ho:=HO_4.out.below hb;clear hb;have HO_5:=aM ho;clear ho))
   have HD_3_6:=aM (HO_5.out.drew)
   refine start_ (n:=12) (S:=fun w'=>w'.cell? ⟨g4,0,none⟩=some (.int .i64 a1_0)∧w'.cell? ⟨g4,1,none⟩=some (.slice A1_1 l1_1.length c1_1)∧w'.cell? ⟨g4,2,none⟩=some (.int .i64 a1_2)∧w'.cell? ⟨g5,0,none⟩=some (.int .i64 a2_0)∧w'.cell? ⟨g5,1,none⟩=some (.slice A2_1 l2_1.length c2_1)∧w'.cell? ⟨g5,2,none⟩=some (.int .i64 a2_2)) (ds:=[]) #[fi,fi,fi,fi,fi,fi,fi,fi,fi,fi,fi,fi] (by kernel_rfl) rfl rfl ⟨(HD_3_6.out.cell 2 rfl 0 rfl),(HD_3_6.out.cell 2 rfl 1 rfl),(HD_3_6.out.cell 2 rfl 2 rfl),(HD_3_6.out.cell 1 rfl 0 rfl),(HD_3_6.out.cell 1 rfl 1 rfl),(HD_3_6.out.cell 1 rfl 2 rfl)⟩ (fun hHeld=>?_)
   generalize w_5.drew=wd_3_7 at HD_3_6 hHeld ⊢
   refine oz_ 0 20 ?_
   refine tz6_ 1 21 hHeld ?_
   refine tz6_ 3 23 hHeld ?_
   refine join_ (σ:=Nat×Value×Value×Value) 2 #[ti,ti,ti,ti,ti,ti,ti,ti,ti,ti,fi,fi] (fun s => [(22,.agg #[.int .i64 t22_0,s.2.2.2]),(24,.agg #[.int .i64 t24_0,s.2.2.1]),(25,.tuple #[.agg #[.int .i64 t25_0,s.2.1],.bool t25_2]),(8,.pointer (some ⟨s.1,0,none⟩)),(19,.tuple #[.agg #[.int .i64 t25_0,s.2.1],.bool t25_2]),(26,.agg #[.int .i64 t25_0,s.2.1]),(27,.bool t25_2)]) (fun s w'=>(w'.cell? ⟨g4,0,none⟩=some (.int .i64 a1_0)∧w'.cell? ⟨g4,1,none⟩=some (.slice A1_1 l1_1.length c1_1)∧w'.cell? ⟨g4,2,none⟩=some (.int .i64 a1_2)∧w'.cell? ⟨g5,0,none⟩=some (.int .i64 a2_0)∧w'.cell? ⟨g5,1,none⟩=some (.slice A2_1 l2_1.length c2_1)∧w'.cell? ⟨g5,2,none⟩=some (.int .i64 a2_2))∧Own w w' [Item.box s.1 41 #[.int .i64 0,.slice none 0 0],Item.row (Kd.int .i64) 3 (s.2.1) t25_1,Item.row (Kd.int .i64) 3 (s.2.2.1) t24_1,Item.row (Kd.int .i64) 3 (s.2.2.2) t22_1,Item.box g6 28 #[.int .i64 0,.slice none 0 0,.int .i64 0],Item.box g5 28 #[.int .i64 a2_0,.slice A2_1 l2_1.length c2_1,.int .i64 a2_2],Item.box g4 28 #[.int .i64 a1_0,.slice A1_1 l1_1.length c1_1,.int .i64 a1_2]]) ?_ ?_
   rotate_left
   ·intro hCont
    refine two_ (i:=2) (j:=9) (Ni:=some 22) (Nj:=some 8) #[ti,ti,ti,ti,fi,fi,fi,fi,fi,fi,fi,fi] #[ti,ti,fi,ti,fi,fi,fi,fi,fi,ti,fi,fi] rfl rfl rfl rfl (by kernel_rfl) (by decide) (by decide) (fun K hK=>?_) (fun K hK=>?_)
    ·skip
     refine goes_ Try.func53 (by kernel_rfl) rfl #[.agg #[.int .i64 a1_0,.slice A1_1 l1_1.length c1_1,.int .i64 a1_2]] (by rfl) rfl rfl zh_ ?_
     (with_reducible refine (spec_ddTable.calls k a1_0 A1_1 c1_1 l1_1 a1_2 t22_0 t22_1 _ (by exact (Kd.C_below HR1_1.out HD_3_6.out.base)) HC1_1.out A22.out).mono ?_)
     rintro e w_6 ⟨x_22,rfl,ho1,hb⟩
     refine ⟨_,rfl,?_⟩
     have ho:=HD_3_6.out.add_row ho1 hb;clear ho1 hb;obtain ⟨A_22,c_22,e_22⟩:=ho.row_slice 0 rfl;subst e_22;have HO_6:=aM ho;clear ho
     refine hK.out _ _ ⟨(HO_6.out.cell 3 rfl 0 rfl),(HO_6.out.cell 3 rfl 1 rfl),(HO_6.out.cell 3 rfl 2 rfl),(HO_6.out.cell 2 rfl 0 rfl),(HO_6.out.cell 2 rfl 1 rfl),(HO_6.out.cell 2 rfl 2 rfl)⟩ (fun hHeld=>?_)
     clear hK K
     refine nz_ 22 ?_
     refine two_ (i:=4) (j:=9) (Ni:=some 24) (Nj:=some 8) #[ti,ti,ti,ti,ti,fi,fi,fi,fi,fi,fi,fi] #[ti,ti,ti,ti,fi,fi,fi,fi,fi,ti,fi,fi] rfl rfl rfl rfl (by kernel_rfl) (by decide) (by decide) (fun K hK=>?_) (fun K hK=>?_)
     ·skip
      refine goes_ Try.func53 (by kernel_rfl) rfl #[.agg #[.int .i64 a2_0,.slice A2_1 l2_1.length c2_1,.int .i64 a2_2]] (by rfl) rfl rfl zh_ ?_
      (with_reducible refine (spec_ddTable.calls k a2_0 A2_1 c2_1 l2_1 a2_2 t24_0 t24_1 _ (by exact (Kd.C_below HR2_1.out HO_6.out.base)) HC2_1.out A24.out).mono ?_)
      rintro e w_7 ⟨x_24,rfl,ho1,hb⟩
      refine ⟨_,rfl,?_⟩
      have ho:=HO_6.out.add_row ho1 hb;clear ho1 hb;obtain ⟨A_24,c_24,e_24⟩:=ho.row_slice 0 rfl;subst e_24;have HO_7:=aM ho;clear ho
      refine hK.out _ _ ⟨(HO_7.out.cell 4 rfl 0 rfl),(HO_7.out.cell 4 rfl 1 rfl),(HO_7.out.cell 4 rfl 2 rfl),(HO_7.out.cell 3 rfl 0 rfl),(HO_7.out.cell 3 rfl 1 rfl),(HO_7.out.cell 3 rfl 2 rfl)⟩ (fun hHeld=>?_)
      clear hK K
      refine nz_ 24 ?_
      refine two_ (i:=5) (j:=9) (Ni:=some 25) (Nj:=some 8) #[ti,ti,ti,ti,ti,ti,fi,fi,fi,fi,fi,fi] #[ti,ti,ti,ti,ti,fi,fi,fi,fi,ti,fi,fi] rfl rfl rfl rfl (by kernel_rfl) (by decide) (by decide) (fun K hK=>?_) (fun K hK=>?_)
      ·skip
       refine goes_ Try.func52 (by kernel_rfl) rfl #[.int .i64 a0,.agg #[.int .i64 t22_0,.slice A_22 t22_1.length c_22],.agg #[.int .i64 t24_0,.slice A_24 t24_1.length c_24]] (by rfl) rfl rfl zh_ ?_
       (with_reducible refine (spec_CombineTables.calls k a0 t22_0 A_22 c_22 t22_1 t24_0 A_24 c_24 t24_1 t25_0 t25_1 t25_2 _ (HO_7.out.row_reads 1 rfl).2.2 (HO_7.out.row_reads 1 rfl).2.1 (HO_7.out.row_reads 0 rfl).2.2 (HO_7.out.row_reads 0 rfl).2.1 A25.out).mono ?_)
       rintro e w_8 ⟨x_25,rfl,ho1,hb⟩
       refine ⟨_,rfl,?_⟩
       have ho:=HO_7.out.add_row ho1 hb;clear ho1 hb;obtain ⟨A_25,c_25,e_25⟩:=ho.row_slice 0 rfl;subst e_25;have HO_8:=aM ho;clear ho
       refine hK.out _ _ ⟨(HO_8.out.cell 5 rfl 0 rfl),(HO_8.out.cell 5 rfl 1 rfl),(HO_8.out.cell 5 rfl 2 rfl),(HO_8.out.cell 4 rfl 0 rfl),(HO_8.out.cell 4 rfl 1 rfl),(HO_8.out.cell 4 rfl 2 rfl)⟩ (fun hHeld=>?_)
       clear hK K
       refine nz_ 25 ?_
       refine oz_ 6 19 ?_
       refine oz_ 7 26 ?_
       refine oz_ 8 27 ?_
       refine oo_ 9 8 (fun K hK=>?_)
       refine value_ (w1:=?_) (v:=?_) (by rfl) rfl ?_ ?_
       rotate_left 2
       ·go_simp
        constructor
        ·rfl
        ·rfl
       obtain ⟨g8,hg⟩:∃ g_:Nat,g_=(w_8).heap.size:=⟨_,rfl⟩;(try rw [← hg]);have ho:=HO_8.out.add_box (w1:=w_8.alloc (.cells #[.int .i64 0,.slice none 0 0] 41)) (g:=g8) (T:=41) (cs:=#[.int .i64 0,.slice none 0 0]) hg zei_ (pA (Below.refl _ _) _);generalize World.alloc w_8 _=w_9 at ho ⊢;have HO_9:=aM ho;clear ho hg
       refine hK.out _ _ ⟨(HO_9.out.cell 6 rfl 0 rfl),(HO_9.out.cell 6 rfl 1 rfl),(HO_9.out.cell 6 rfl 2 rfl),(HO_9.out.cell 5 rfl 0 rfl),(HO_9.out.cell 5 rfl 1 rfl),(HO_9.out.cell 5 rfl 2 rfl)⟩ (fun hHeld=>?_)
       clear hK K
       refine nz_ 8 ?_
       exact norm_ (by simp only [putAll,Act.put,sI,s0,sS]) (hCont (g8,(.slice A_25 t25_1.length c_25:Value),(.slice A_24 t24_1.length c_24:Value),(.slice A_22 t22_1.length c_22:Value)) _ ⟨⟨(HO_9.out.cell 6 rfl 0 rfl),(HO_9.out.cell 6 rfl 1 rfl),(HO_9.out.cell 6 rfl 2 rfl),(HO_9.out.cell 5 rfl 0 rfl),(HO_9.out.cell 5 rfl 1 rfl),(HO_9.out.cell 5 rfl 2 rfl)⟩,(((((((HO_9.out.front 6 rfl).front 6 rfl).front 6 rfl).front 6 rfl).front 6 rfl).front 6 rfl).front 6 rfl)⟩)
      ·skip
       refine value_ (w1:=?_) (v:=?_) (by rfl) rfl ?_ ?_
       rotate_left 2
       ·go_simp
        constructor
        ·rfl
        ·rfl
       obtain ⟨g8,hg⟩:∃ g_:Nat,g_=(w_7).heap.size:=⟨_,rfl⟩;(try rw [← hg]);have ho:=HO_7.out.add_box (w1:=w_7.alloc (.cells #[.int .i64 0,.slice none 0 0] 41)) (g:=g8) (T:=41) (cs:=#[.int .i64 0,.slice none 0 0]) hg zei_ (pA (Below.refl _ _) _);generalize World.alloc w_7 _=w_8 at ho ⊢;have HO_8:=aM ho;clear ho hg
       refine hK.out _ _ ⟨(HO_8.out.cell 5 rfl 0 rfl),(HO_8.out.cell 5 rfl 1 rfl),(HO_8.out.cell 5 rfl 2 rfl),(HO_8.out.cell 4 rfl 0 rfl),(HO_8.out.cell 4 rfl 1 rfl),(HO_8.out.cell 4 rfl 2 rfl)⟩ (fun hHeld=>?_)
       clear hK K
       refine nz_ 8 ?_
       refine oo_ 5 25 (fun K hK=>?_)
       refine goes_ Try.func52 (by kernel_rfl) rfl #[.int .i64 a0,.agg #[.int .i64 t22_0,.slice A_22 t22_1.length c_22],.agg #[.int .i64 t24_0,.slice A_24 t24_1.length c_24]] (by rfl) rfl rfl zh_ ?_
       (with_reducible refine (spec_CombineTables.calls k a0 t22_0 A_22 c_22 t22_1 t24_0 A_24 c_24 t24_1 t25_0 t25_1 t25_2 _ (HO_8.out.row_reads 2 rfl).2.2 (HO_8.out.row_reads 2 rfl).2.1 (HO_8.out.row_reads 1 rfl).2.2 (HO_8.out.row_reads 1 rfl).2.1 A25.out).mono ?_)
       rintro e w_9 ⟨x_25,rfl,ho1,hb⟩
       refine ⟨_,rfl,?_⟩
       have ho:=HO_8.out.add_row ho1 hb;clear ho1 hb;obtain ⟨A_25,c_25,e_25⟩:=ho.row_slice 0 rfl;subst e_25;have HO_9:=aM ho;clear ho
       refine hK.out _ _ ⟨(HO_9.out.cell 6 rfl 0 rfl),(HO_9.out.cell 6 rfl 1 rfl),(HO_9.out.cell 6 rfl 2 rfl),(HO_9.out.cell 5 rfl 0 rfl),(HO_9.out.cell 5 rfl 1 rfl),(HO_9.out.cell 5 rfl 2 rfl)⟩ (fun hHeld=>?_)
       clear hK K
       refine nz_ 25 ?_
       refine oz_ 6 19 ?_
       refine oz_ 7 26 ?_
       refine oz_ 8 27 ?_
       exact norm_ (by simp only [putAll,Act.put,sI,s0,sS]) (hCont (g8,(.slice A_25 t25_1.length c_25:Value),(.slice A_24 t24_1.length c_24:Value),(.slice A_22 t22_1.length c_22:Value)) _ ⟨⟨(HO_9.out.cell 6 rfl 0 rfl),(HO_9.out.cell 6 rfl 1 rfl),(HO_9.out.cell 6 rfl 2 rfl),(HO_9.out.cell 5 rfl 0 rfl),(HO_9.out.cell 5 rfl 1 rfl),(HO_9.out.cell 5 rfl 2 rfl)⟩,(((((((HO_9.out.front 6 rfl).front 6 rfl).front 6 rfl).front 6 rfl).front 6 rfl).front 5 rfl).front 6 rfl)⟩)
     ·skip
      refine value_ (w1:=?_) (v:=?_) (by rfl) rfl ?_ ?_
      rotate_left 2
      ·go_simp
       constructor
       ·rfl
       ·rfl
      obtain ⟨g8,hg⟩:∃ g_:Nat,g_=(w_6).heap.size:=⟨_,rfl⟩;(try rw [← hg]);have ho:=HO_6.out.add_box (w1:=w_6.alloc (.cells #[.int .i64 0,.slice none 0 0] 41)) (g:=g8) (T:=41) (cs:=#[.int .i64 0,.slice none 0 0]) hg zei_ (pA (Below.refl _ _) _);generalize World.alloc w_6 _=w_7 at ho ⊢;have HO_7:=aM ho;clear ho hg
      refine hK.out _ _ ⟨(HO_7.out.cell 4 rfl 0 rfl),(HO_7.out.cell 4 rfl 1 rfl),(HO_7.out.cell 4 rfl 2 rfl),(HO_7.out.cell 3 rfl 0 rfl),(HO_7.out.cell 3 rfl 1 rfl),(HO_7.out.cell 3 rfl 2 rfl)⟩ (fun hHeld=>?_)
      clear hK K
      refine nz_ 8 ?_
      refine oo_ 4 24 (fun K hK=>?_)
      refine goes_ Try.func53 (by kernel_rfl) rfl #[.agg #[.int .i64 a2_0,.slice A2_1 l2_1.length c2_1,.int .i64 a2_2]] (by rfl) rfl rfl zh_ ?_
      (with_reducible refine (spec_ddTable.calls k a2_0 A2_1 c2_1 l2_1 a2_2 t24_0 t24_1 _ (by exact (Kd.C_below HR2_1.out HO_7.out.base)) HC2_1.out A24.out).mono ?_)
      rintro e w_8 ⟨x_24,rfl,ho1,hb⟩
      refine ⟨_,rfl,?_⟩
      have ho:=HO_7.out.add_row ho1 hb;clear ho1 hb;obtain ⟨A_24,c_24,e_24⟩:=ho.row_slice 0 rfl;subst e_24;have HO_8:=aM ho;clear ho
      refine hK.out _ _ ⟨(HO_8.out.cell 5 rfl 0 rfl),(HO_8.out.cell 5 rfl 1 rfl),(HO_8.out.cell 5 rfl 2 rfl),(HO_8.out.cell 4 rfl 0 rfl),(HO_8.out.cell 4 rfl 1 rfl),(HO_8.out.cell 4 rfl 2 rfl)⟩ (fun hHeld=>?_)
      clear hK K
      refine nz_ 24 ?_
      refine oo_ 5 25 (fun K hK=>?_)
      refine goes_ Try.func52 (by kernel_rfl) rfl #[.int .i64 a0,.agg #[.int .i64 t22_0,.slice A_22 t22_1.length c_22],.agg #[.int .i64 t24_0,.slice A_24 t24_1.length c_24]] (by rfl) rfl rfl zh_ ?_
      (with_reducible refine (spec_CombineTables.calls k a0 t22_0 A_22 c_22 t22_1 t24_0 A_24 c_24 t24_1 t25_0 t25_1 t25_2 _ (HO_8.out.row_reads 2 rfl).2.2 (HO_8.out.row_reads 2 rfl).2.1 (HO_8.out.row_reads 0 rfl).2.2 (HO_8.out.row_reads 0 rfl).2.1 A25.out).mono ?_)
      rintro e w_9 ⟨x_25,rfl,ho1,hb⟩
      refine ⟨_,rfl,?_⟩
      have ho:=HO_8.out.add_row ho1 hb;clear ho1 hb;obtain ⟨A_25,c_25,e_25⟩:=ho.row_slice 0 rfl;subst e_25;have HO_9:=aM ho;clear ho
      refine hK.out _ _ ⟨(HO_9.out.cell 6 rfl 0 rfl),(HO_9.out.cell 6 rfl 1 rfl),(HO_9.out.cell 6 rfl 2 rfl),(HO_9.out.cell 5 rfl 0 rfl),(HO_9.out.cell 5 rfl 1 rfl),(HO_9.out.cell 5 rfl 2 rfl)⟩ (fun hHeld=>?_)
      clear hK K
      refine nz_ 25 ?_
      refine oz_ 6 19 ?_
      refine oz_ 7 26 ?_
      refine oz_ 8 27 ?_
      exact norm_ (by simp only [putAll,Act.put,sI,s0,sS]) (hCont (g8,(.slice A_25 t25_1.length c_25:Value),(.slice A_24 t24_1.length c_24:Value),(.slice A_22 t22_1.length c_22:Value)) _ ⟨⟨(HO_9.out.cell 6 rfl 0 rfl),(HO_9.out.cell 6 rfl 1 rfl),(HO_9.out.cell 6 rfl 2 rfl),(HO_9.out.cell 5 rfl 0 rfl),(HO_9.out.cell 5 rfl 1 rfl),(HO_9.out.cell 5 rfl 2 rfl)⟩,(((((((HO_9.out.front 6 rfl).front 6 rfl).front 6 rfl).front 6 rfl).front 5 rfl).front 5 rfl).front 6 rfl)⟩)
    ·skip
     refine value_ (w1:=?_) (v:=?_) (by rfl) rfl ?_ ?_
     rotate_left 2
     ·go_simp
      constructor
      ·rfl
      ·rfl
     obtain ⟨g8,hg⟩:∃ g_:Nat,g_=(wd_3_7).heap.size:=⟨_,rfl⟩;(try rw [← hg]);have ho:=HD_3_6.out.add_box (w1:=wd_3_7.alloc (.cells #[.int .i64 0,.slice none 0 0] 41)) (g:=g8) (T:=41) (cs:=#[.int .i64 0,.slice none 0 0]) hg zei_ (pA (Below.refl _ _) _);generalize World.alloc wd_3_7 _=w_6 at ho ⊢;have HO_6:=aM ho;clear ho hg
     refine hK.out _ _ ⟨(HO_6.out.cell 3 rfl 0 rfl),(HO_6.out.cell 3 rfl 1 rfl),(HO_6.out.cell 3 rfl 2 rfl),(HO_6.out.cell 2 rfl 0 rfl),(HO_6.out.cell 2 rfl 1 rfl),(HO_6.out.cell 2 rfl 2 rfl)⟩ (fun hHeld=>?_)
     clear hK K
     refine nz_ 8 ?_
     refine oo_ 2 22 (fun K hK=>?_)
     refine goes_ Try.func53 (by kernel_rfl) rfl #[.agg #[.int .i64 a1_0,.slice A1_1 l1_1.length c1_1,.int .i64 a1_2]] (by rfl) rfl rfl zh_ ?_
     (with_reducible refine (spec_ddTable.calls k a1_0 A1_1 c1_1 l1_1 a1_2 t22_0 t22_1 _ (by exact (Kd.C_below HR1_1.out HO_6.out.base)) HC1_1.out A22.out).mono ?_)
     rintro e w_7 ⟨x_22,rfl,ho1,hb⟩
     refine ⟨_,rfl,?_⟩
     have ho:=HO_6.out.add_row ho1 hb;clear ho1 hb;obtain ⟨A_22,c_22,e_22⟩:=ho.row_slice 0 rfl;subst e_22;have HO_7:=aM ho;clear ho
     refine hK.out _ _ ⟨(HO_7.out.cell 4 rfl 0 rfl),(HO_7.out.cell 4 rfl 1 rfl),(HO_7.out.cell 4 rfl 2 rfl),(HO_7.out.cell 3 rfl 0 rfl),(HO_7.out.cell 3 rfl 1 rfl),(HO_7.out.cell 3 rfl 2 rfl)⟩ (fun hHeld=>?_)
     clear hK K
     refine nz_ 22 ?_
     refine oo_ 4 24 (fun K hK=>?_)
     refine goes_ Try.func53 (by kernel_rfl) rfl #[.agg #[.int .i64 a2_0,.slice A2_1 l2_1.length c2_1,.int .i64 a2_2]] (by rfl) rfl rfl zh_ ?_
     (with_reducible refine (spec_ddTable.calls k a2_0 A2_1 c2_1 l2_1 a2_2 t24_0 t24_1 _ (by exact (Kd.C_below HR2_1.out HO_7.out.base)) HC2_1.out A24.out).mono ?_)
     rintro e w_8 ⟨x_24,rfl,ho1,hb⟩
     refine ⟨_,rfl,?_⟩
     have ho:=HO_7.out.add_row ho1 hb;clear ho1 hb;obtain ⟨A_24,c_24,e_24⟩:=ho.row_slice 0 rfl;subst e_24;have HO_8:=aM ho;clear ho
     refine hK.out _ _ ⟨(HO_8.out.cell 5 rfl 0 rfl),(HO_8.out.cell 5 rfl 1 rfl),(HO_8.out.cell 5 rfl 2 rfl),(HO_8.out.cell 4 rfl 0 rfl),(HO_8.out.cell 4 rfl 1 rfl),(HO_8.out.cell 4 rfl 2 rfl)⟩ (fun hHeld=>?_)
     clear hK K
     refine nz_ 24 ?_
     refine oo_ 5 25 (fun K hK=>?_)
     refine goes_ Try.func52 (by kernel_rfl) rfl #[.int .i64 a0,.agg #[.int .i64 t22_0,.slice A_22 t22_1.length c_22],.agg #[.int .i64 t24_0,.slice A_24 t24_1.length c_24]] (by rfl) rfl rfl zh_ ?_
     (with_reducible refine (spec_CombineTables.calls k a0 t22_0 A_22 c_22 t22_1 t24_0 A_24 c_24 t24_1 t25_0 t25_1 t25_2 _ (HO_8.out.row_reads 1 rfl).2.2 (HO_8.out.row_reads 1 rfl).2.1 (HO_8.out.row_reads 0 rfl).2.2 (HO_8.out.row_reads 0 rfl).2.1 A25.out).mono ?_)
     rintro e w_9 ⟨x_25,rfl,ho1,hb⟩
     refine ⟨_,rfl,?_⟩
     have ho:=HO_8.out.add_row ho1 hb;clear ho1 hb;obtain ⟨A_25,c_25,e_25⟩:=ho.row_slice 0 rfl;subst e_25;have HO_9:=aM ho;clear ho
     refine hK.out _ _ ⟨(HO_9.out.cell 6 rfl 0 rfl),(HO_9.out.cell 6 rfl 1 rfl),(HO_9.out.cell 6 rfl 2 rfl),(HO_9.out.cell 5 rfl 0 rfl),(HO_9.out.cell 5 rfl 1 rfl),(HO_9.out.cell 5 rfl 2 rfl)⟩ (fun hHeld=>?_)
     clear hK K
     refine nz_ 25 ?_
     refine oz_ 6 19 ?_
     refine oz_ 7 26 ?_
     refine oz_ 8 27 ?_
     exact norm_ (by simp only [putAll,Act.put,sI,s0,sS]) (hCont (g8,(.slice A_25 t25_1.length c_25:Value),(.slice A_24 t24_1.length c_24:Value),(.slice A_22 t22_1.length c_22:Value)) _ ⟨⟨(HO_9.out.cell 6 rfl 0 rfl),(HO_9.out.cell 6 rfl 1 rfl),(HO_9.out.cell 6 rfl 2 rfl),(HO_9.out.cell 5 rfl 0 rfl),(HO_9.out.cell 5 rfl 1 rfl),(HO_9.out.cell 5 rfl 2 rfl)⟩,(((((((HO_9.out.front 6 rfl).front 6 rfl).front 6 rfl).front 5 rfl).front 5 rfl).front 5 rfl).front 6 rfl)⟩)
   rintro ⟨g8,xr25,xr24,xr22⟩ wj_8 ⟨hHeld,ho⟩
   obtain ⟨A_25,c_25,rfl⟩:=ho.row_slice 1 rfl;obtain ⟨A_24,c_24,rfl⟩:=ho.row_slice 2 rfl;obtain ⟨A_22,c_22,rfl⟩:=ho.row_slice 3 rfl;have HOJ_8:=aM ho;clear ho
   refine norm_ (a':=?_) ?_ ?_
   rotate_left
   ·simp only [putAll,Act.put,sI,s0,sS]
    rfl
   refine one_ (i:=10) (N:=none) #[ti,ti,ti,ti,ti,ti,ti,ti,ti,ti,ti,fi] rfl rfl (by kernel_rfl) (by decide) (fun K hK=>?_)
   refine Sep.own_store_step HOJ_8.out 0 g8 41 _ #[.int .i64 t25_0,.slice A_25 t25_1.length c_25] rfl (by rfl) rfl 41 (.tmp 8) (.tmp 26) rfl rfl _ rfl rfl rfl (by kernel_rfl) (by simp [Value.oneCell']) ?_
   intro w_60 ho
   have HO_60:=aM ho;clear ho
   refine hK.out _ _ ⟨(HO_60.out.cell 6 rfl 0 rfl),(HO_60.out.cell 6 rfl 1 rfl),(HO_60.out.cell 6 rfl 2 rfl),(HO_60.out.cell 5 rfl 0 rfl),(HO_60.out.cell 5 rfl 1 rfl),(HO_60.out.cell 5 rfl 2 rfl)⟩ (fun hHeld=>?_)
   clear hK K
   refine oz_ 11 9 ?_
   refine done_ (by kernel_rfl) ?_
   go_upto_region 4 with (fail)
   by_cases c25_2:t25_2=true
   ·subst c25_2
    rw [if_pos rfl] at H;obtain ⟨⟨t32_0,t32_1,t32_2⟩,A_,H_⟩:=oB.mp H;clear H;have H:=H_;clear H_;(try dsimp only at H);have A32:=aM A_;clear A_
    injection H with H
    injection H with e_0 H
    injection H with e_1 H
    injection H with e_2 H
    subst e_0;subst e_1;subst e_2;subst H;have z_9:w_60.cell? ⟨g8,0,none⟩=some (.int .i64 t25_0):=(HO_60.out.cell 0 rfl 0 rfl);have z_10:w_60.cell? ⟨g8,1,none⟩=some (.slice A_25 t25_1.length c_25):=(HO_60.out.cell 0 rfl 1 rfl)
    go_wp2_with (first | ((with_reducible refine gate_callee (f:=54) rfl ?_);refine goesL_ (some 32) rfl rfl Try.func54 (by kernel_rfl) rfl #[.agg #[.int .i64 t25_0,.slice A_25 t25_1.length c_25]] rfl ze_ ?_;(with_reducible refine (spec_ddMake.calls k t25_0 A_25 c_25 t25_1 t32_0 t32_1 t32_2 _ (HO_60.out.row_reads 1 rfl).2.2 (HO_60.out.row_reads 1 rfl).2.1 A32.out).mono ?_);rintro e w_61 ⟨x_32,rfl,ho1,hb⟩;refine ⟨_,rfl,?_⟩;have ho:=HO_60.out.add_row ho1 hb;clear ho1 hb;obtain ⟨A_32,c_32,e_32⟩:=ho.row_slice 0 rfl;subst e_32;have HO_61:=aM ho;clear ho)|((with_reducible refine gate_store (t:=28) (p:=6) (v := .tmp 32) rfl ?_);refine Sep.own_store HO_61.out 5 g6 28 _ #[.int .i64 t32_0,.slice A_32 t32_1.length c_32,.int .i64 t32_2] rfl rfl rfl 28 (.tmp 6) (.tmp 32) rfl rfl _ rfl rfl rfl (by kernel_rfl) (by simp [Value.oneCell']) ?_;intro w_62 ho;have HO_62:=aM ho;clear ho))
    (try simp only [Act.put,sI,s0,sS]);obtain ⟨f_,hf_⟩:=HO_62.out.2;(try simp only [Exit.inBlock,Exit.then])
    refine bodyPost_ret (results_list (rs:=[.cell 6 28,.tmp 7]) rfl (by simp) (.cell g6 28 #[.int .i64 t32_0,.slice A_32 t32_1.length c_32,.int .i64 t32_2] (0,0) _ rfl (HO_62.out.blk 5 rfl) Try.underlying28 rfl (by kernel_rfl) (.tmp .nil))) rfl ?_
    exact ⟨_,rfl,Kd.R_mono (hf_ 0 _ rfl) (fun k_ hk_=>trivial),HO_62.out.base⟩
   ·replace c25_2:=Bool.eq_false_iff.mpr c25_2
    subst c25_2;rw [if_neg (show ¬ (false=true) by decide)] at H
    injection H with H
    injection H with e_0 H
    injection H with e_1 H
    injection H with e_2 H
    subst e_0;subst e_1;subst e_2;subst H
    go_wp2_with (first | ((with_reducible refine gate_store (t:=28) (p:=6) (v := .tmp 30) rfl ?_);refine Sep.own_store HO_60.out 4 g6 28 _ #[.int .i64 0,.slice none 0 0,.int .i64 0] rfl rfl rfl 28 (.tmp 6) (.tmp 30) rfl rfl _ rfl rfl rfl (by kernel_rfl) (by simp [Value.oneCell']) ?_;intro w_61 ho;have HO_61:=aM ho;clear ho))
    (try simp only [Act.put,sI,s0,sS]);(try simp only [Exit.inBlock,Exit.then])
    refine bodyPost_ret (results_list (rs:=[.cell 6 28,.tmp 7]) rfl (by simp) (.cell g6 28 #[.int .i64 0,.slice none 0 0,.int .i64 0] (0,0) _ rfl (HO_61.out.blk 4 rfl) Try.underlying28 rfl (by kernel_rfl) (.tmp .nil))) rfl ?_
    exact ⟨_,rfl,Kd.R_nil _ _ _ _ _,HO_61.out.base⟩
  ·replace c15_0:=Bool.eq_false_iff.mpr c15_0
   subst c15_0;rw [if_neg (show ¬ (false=true) by decide)] at H
   injection H with H
   injection H with e_0 H
   injection H with e_1 H
   injection H with e_2 H
   subst e_0;subst e_1;subst e_2;subst H;have z_1:w_3.cell? ⟨g4,0,none⟩=some (.int .i64 a1_0):=(HO_3.out.cell 2 rfl 0 rfl);have z_2:w_3.cell? ⟨g4,1,none⟩=some (.slice A1_1 l1_1.length c1_1):=(HO_3.out.cell 2 rfl 1 rfl);have z_3:w_3.cell? ⟨g4,2,none⟩=some (.int .i64 a1_2):=(HO_3.out.cell 2 rfl 2 rfl)
   go_wp2_with (first | ((with_reducible refine gate_callee (f:=51) rfl ?_);refine goesL_ (some 11) rfl rfl Try.func51 (by kernel_rfl) rfl #[.agg #[.int .i64 a1_0,.slice A1_1 l1_1.length c1_1,.int .i64 a1_2]] rfl ze_ ?_;(with_reducible refine (spec_ddGood.calls k a1_0 A1_1 c1_1 l1_1 a1_2 true _ zdf_ HC1_1.out A11.out).mono ?_);rintro e w_4 ⟨rfl,hb⟩;refine ⟨_,rfl,?_⟩;have ho:=HO_3.out.below hb;clear hb;have HO_4:=aM ho;clear ho;have z_4:w_4.cell? ⟨g5,0,none⟩=some (.int .i64 a2_0):=(HO_4.out.cell 1 rfl 0 rfl);have z_5:w_4.cell? ⟨g5,1,none⟩=some (.slice A2_1 l2_1.length c2_1):=(HO_4.out.cell 1 rfl 1 rfl);have z_6:w_4.cell? ⟨g5,2,none⟩=some (.int .i64 a2_2):=(HO_4.out.cell 1 rfl 2 rfl))|(go_at_call 51;(with_reducible refine (spec_ddGood.calls k a2_0 A2_1 c2_1 l2_1 a2_2 false _ zea_ HC2_1.out A15.out).mono ?_);rintro e w_5 ⟨rfl,hb⟩;have ho:=HO_4.out.below hb;clear hb;have HO_5:=aM ho;clear ho)|((with_reducible refine gate_store (t:=28) (p:=6) (v := .tmp 18) rfl ?_);refine Sep.own_store HO_5.out 0 g6 28 _ #[.int .i64 0,.slice none 0 0,.int .i64 0] rfl rfl rfl 28 (.tmp 6) (.tmp 18) rfl rfl _ rfl rfl rfl (by kernel_rfl) (by simp [Value.oneCell']) ?_;intro w_6 ho;have HO_6:=aM ho;clear ho))
   (try simp only [Act.put,sI,s0,sS]);(try simp only [Exit.inBlock,Exit.then])
   refine bodyPost_ret (results_list (rs:=[.cell 6 28,.tmp 7]) rfl (by simp) (.cell g6 28 #[.int .i64 0,.slice none 0 0,.int .i64 0] (0,0) _ rfl (HO_6.out.blk 0 rfl) Try.underlying28 rfl (by kernel_rfl) (.tmp .nil))) rfl ?_
   exact ⟨_,rfl,Kd.R_nil _ _ _ _ _,HO_6.out.base⟩
 ·replace c11_0:=Bool.eq_false_iff.mpr c11_0
  subst c11_0;rw [if_neg (show ¬ (false=true) by decide)] at H
  injection H with H
  injection H with e_0 H
  injection H with e_1 H
  injection H with e_2 H
  subst e_0;subst e_1;subst e_2;subst H;have z_1:w_3.cell? ⟨g4,0,none⟩=some (.int .i64 a1_0):=(HO_3.out.cell 2 rfl 0 rfl);have z_2:w_3.cell? ⟨g4,1,none⟩=some (.slice A1_1 l1_1.length c1_1):=(HO_3.out.cell 2 rfl 1 rfl);have z_3:w_3.cell? ⟨g4,2,none⟩=some (.int .i64 a1_2):=(HO_3.out.cell 2 rfl 2 rfl)
  go_wp2_with (first | ((with_reducible refine gate_callee (f:=51) rfl ?_);refine goesL_ (some 11) rfl rfl Try.func51 (by kernel_rfl) rfl #[.agg #[.int .i64 a1_0,.slice A1_1 l1_1.length c1_1,.int .i64 a1_2]] rfl ze_ ?_;(with_reducible refine (spec_ddGood.calls k a1_0 A1_1 c1_1 l1_1 a1_2 false _ zdf_ HC1_1.out A11.out).mono ?_);rintro e w_4 ⟨rfl,hb⟩;refine ⟨_,rfl,?_⟩;have ho:=HO_3.out.below hb;clear hb;have HO_4:=aM ho;clear ho)|((with_reducible refine gate_store (t:=28) (p:=6) (v := .tmp 18) rfl ?_);refine Sep.own_store HO_4.out 0 g6 28 _ #[.int .i64 0,.slice none 0 0,.int .i64 0] rfl rfl rfl 28 (.tmp 6) (.tmp 18) rfl rfl _ rfl rfl rfl (by kernel_rfl) (by simp [Value.oneCell']) ?_;intro w_5 ho;have HO_5:=aM ho;clear ho))
  (try simp only [Act.put,sI,s0,sS]);(try simp only [Exit.inBlock,Exit.then])
  refine bodyPost_ret (results_list (rs:=[.cell 6 28,.tmp 7]) rfl (by simp) (.cell g6 28 #[.int .i64 0,.slice none 0 0,.int .i64 0] (0,0) _ rfl (HO_5.out.blk 0 rfl) Try.underlying28 rfl (by kernel_rfl) (.tmp .nil))) rfl ?_
  exact ⟨_,rfl,Kd.R_nil _ _ _ _ _,HO_5.out.base⟩
def impl_areBits.l0:Nat→List Int→Int→Int→Option (Bool)
 | 0,_,_,_=>none
 | k+1,x5,x6,x7=>if x7<x6 then (if 0≤x7 then (if x7<(x5.length:Int) then (if (rd x5 x7)=0 then (impl_areBits.l0 k x5 x6 (wrap64 (x7+1))) else (if (rd x5 x7)=1 then (impl_areBits.l0 k x5 x6 (wrap64 (x7+1))) else (some false))) else (none)) else (none)) else (some true)
def impl_areBits.f (k:Nat) (l0:List Int):Option (Bool):=impl_areBits.l0 k l0 (l0.length:Int) 0
theorem impl_areBits.calls (k:Nat) (A0:Option Addr) (c0:Nat) (l0:List Int) (r:Bool) (w:World) (hr0:Kd.C (Kd.int .i64) w A0 l0.length l0) (hc0:l0.length≤c0) (h:impl_areBits.f k l0=some r) :
  Calls Try.prog 113 #[.slice A0 l0.length c0] w fun e w'=>e = .returned (.bool r)∧Drawn0 w w':=by
 have HR0:=aM hr0
 have HC0:=aM hc0
 clear hr0 hc0
 have H:(impl_areBits.l0 k l0 (l0.length:Int) 0)=some r:=h
 clear h
 have H':=aM H
 clear H
 go_enter Try.func113,Try.ntmps113
 go_wp2
 go_loopg [7] k (fun kq v7 w' => ∃ (x7_1:Int),v7 = .int .i64 x7_1∧Aside0 (impl_areBits.l0 kq l0 (l0.length:Int) x7_1=some r)∧Aside0 (kq≤k)∧Drawn0 w w')
 case atStart=>exact ⟨(0),zd_,H',⟨Nat.le_refl _⟩,zi_⟩
 case round =>
  clear H';obtain ⟨x7_1,rfl,HA,HK1,⟨m1,rfl⟩⟩:=hrel
  cases gk with
  | zero=>exact absurd HA.out (by simp [impl_areBits.l0])
  | succ k1 =>
   have H:=HA.out;clear HA
   simp only [impl_areBits.l0] at H
   by_cases c2:x7_1<(l0.length:Int)
   ·rw [if_pos c2] at H
    have c2b0:=decide_eq_true c2;clear c2
    by_cases c3:0≤x7_1
    ·rw [if_pos c3] at H
     have c3b0:=decide_eq_true c3;clear c3
     by_cases c4:x7_1<(l0.length:Int)
     ·rw [if_pos c4] at H
      have c4b0:=decide_eq_true c4;clear c4
      by_cases c5:(rd l0 x7_1)=0
      ·rw [if_pos c5] at H
       have c5b0:=beq_iff_eq.mpr c5;have c5b1:=bne_eq_false_iff_eq.mpr c5;clear c5;have H':=aM H;clear H;have p156:0≤(x7_1:Int):=of_decide_eq_true zc_;have q156:x7_1<(l0.length:Int):=of_decide_eq_true zc_;obtain ⟨ad156,e156,hx156_0⟩:=Kd.at_int HR0.out x7_1 p156 q156
       cases e156
       replace p156:=eq_true p156;replace q156:=eq_true q156
       go_wp2
       go_roundg k1
       case measure=>have:=HK1.out;omega
       case rel=>exact ⟨(wrap64 (x7_1+1)),zd_,H',⟨zci_⟩,zi_⟩
      ·rw [if_neg c5] at H
       have c5b0:=beq_eq_false_iff_ne.mpr c5;have c5b1:=bne_iff_ne.mpr c5
       by_cases c6:(rd l0 x7_1)=1
       ·rw [if_pos c6] at H
        have c6b0:=beq_iff_eq.mpr c6;have c6b1:=bne_eq_false_iff_eq.mpr c6;clear c6;have H':=aM H;clear H;have p156:0≤(x7_1:Int):=of_decide_eq_true zc_;have q156:x7_1<(l0.length:Int):=of_decide_eq_true zc_;obtain ⟨ad156,e156,hx156_0⟩:=Kd.at_int HR0.out x7_1 p156 q156
        cases e156
        replace p156:=eq_true p156;replace q156:=eq_true q156
        go_wp2
        go_roundg k1
        case measure=>have:=HK1.out;omega
        case rel=>exact ⟨(wrap64 (x7_1+1)),zd_,H',⟨zci_⟩,zi_⟩
       ·rw [if_neg c6] at H
        have c6b0:=beq_eq_false_iff_ne.mpr c6;have c6b1:=bne_iff_ne.mpr c6;obtain rfl:=Option.some.inj H;have p156:0≤(x7_1:Int):=of_decide_eq_true zc_;have q156:x7_1<(l0.length:Int):=of_decide_eq_true zc_;obtain ⟨ad156,e156,hx156_0⟩:=Kd.at_int HR0.out x7_1 p156 q156
        cases e156
        replace p156:=eq_true p156;replace q156:=eq_true q156
        go_wp2
        go_ret
        exact ⟨zd_,zi_⟩
     ·rw [if_neg c4] at H
      exact q3n_ H
    ·rw [if_neg c3] at H
     exact q3n_ H
   ·rw [if_neg c2] at H
    have c2b0:=decide_eq_false c2;clear c2;obtain rfl:=Option.some.inj H
    go_wp2
    go_ret
    exact ⟨zd_,zi_⟩
def impl_IsTable.f (k:Nat) (a0_0:Int) (l0_1:List Int):Option (Bool):=if a0_0≥0 then (if a0_0≤4 then (if 0≤a0_0 then (if (l0_1.length:Int)=(shl .i64 1 a0_0) then ((impl_areBits.f k l0_1).bind fun t158=>(some t158)) else (some false)) else (none)) else (some false)) else (some false)
theorem impl_IsTable.calls (k:Nat) (a0_0:Int) (A0_1:Option Addr) (c0_1:Nat) (l0_1:List Int) (r:Bool) (w:World) (hr0_1:Kd.C (Kd.int .i64) w A0_1 l0_1.length l0_1) (hc0_1:l0_1.length≤c0_1) (h:impl_IsTable.f k a0_0 l0_1=some r) :
  Calls Try.prog 67 #[.agg #[.int .i64 a0_0,.slice A0_1 l0_1.length c0_1]] w fun e w'=>e = .returned (.bool r)∧Below w.heap.size w w':=by
 have hu41:=Try.underlying41
 have HR0_1:=aM hr0_1
 have HC0_1:=aM hc0_1
 clear hr0_1 hc0_1
 have HB:=aM (Below.refl w.heap.size w)
 have H:(if a0_0≥0 then (if a0_0≤4 then (if 0≤a0_0 then (if (l0_1.length:Int)=(shl .i64 1 a0_0) then ((impl_areBits.f k l0_1).bind fun t158=>(some t158)) else (some false)) else (none)) else (some false)) else (some false))=some r:=h
 clear h
 by_cases c2:a0_0≥0
 ·rw [if_pos c2] at H
  have c2b0:decide (0≤a0_0)=true:=decide_eq_true c2;clear c2
  by_cases c3:a0_0≤4
  ·rw [if_pos c3] at H
   have c3b0:=decide_eq_true c3;clear c3
   by_cases c4:0≤a0_0
   ·rw [if_pos c4] at H
    have c4b0:=eq_true c4;have c4b1:=decide_eq_true c4;clear c4;obtain ⟨ji5,hji5⟩:∃ j_:Int,(shl .i64 1 a0_0)=j_:=⟨_,rfl⟩;replace H:(if (l0_1.length:Int)=(ji5) then ((impl_areBits.f k l0_1).bind fun t158=>(some t158)) else (some false))=some r:=by first | (rw [hji5] at H;exact H)|(simp only [hji5] at H ⊢;exact H)
    have hji5_:(IntKind.i64.wrap (1 * 2 ^ min a0_0.toNat 64))=ji5:=hji5;have hji5z:a0_0≤64→(IntKind.i64.wrap (1 * 2 ^ a0_0.toNat))=ji5:=shl_small hji5;have hji5u:(IntKind.i64.wrap (2 ^ min a0_0.toNat 64))=ji5:=by have h_:=hji5_;rw [Int.one_mul] at h_;exact h_
    have hji5v:a0_0≤64→(IntKind.i64.wrap (2 ^ a0_0.toNat))=ji5:=fun hle_=>by have h_:=hji5z hle_;rw [Int.one_mul] at h_;exact h_
    have hji5y:(wrap64 (1 * 2 ^ min a0_0.toNat 64))=ji5:=(i64_w _).symm.trans hji5_;have hji5x:a0_0≤64→(wrap64 (1 * 2 ^ a0_0.toNat))=ji5:=fun h_=>(i64_w _).symm.trans (hji5z h_)
    by_cases c6:(l0_1.length:Int)=(ji5)
    ·rw [if_pos c6] at H
     have c6b0:=beq_iff_eq.mpr c6;have c6b1:=bne_eq_false_iff_eq.mpr c6;clear c6;replace H:=oB.mp H;obtain ⟨t158,A70,H⟩:=H;replace H:(some t158)=some r:=H;have A7:=aM A70;clear A70;obtain rfl:=Option.some.inj H
     go_enter Try.func67,Try.ntmps67
     go_wp2_with (first | ((with_reducible refine gate_dst (N:=1) rfl ?_);(try (refine gate_guard (by rfl) ?_;dsimp only));refine box_event ?hg (N:=1) ?hd (cs:=#[.int .i64 a0_0,.slice A0_1 l0_1.length c0_1]) (t:=41) ?hr ?_;(case hd=>rfl);(case hg=>rfl);(case hr=>exact za_);intro gb157 hg w8 hbox hb;have n_:=z (below_step zb_ hb)<|z (hbox)<|z ((by rw [hg];exact (below_size zb_):w.heap.size≤gb157))<|z1 ((by rw [hg];exact (below_size zb_):w.heap.size≤gb157));clear HB;obtain ⟨HB,BK157,GW157,GE157⟩:=n_;clear hb hbox hg;obtain ⟨hcz9_0,hcz9_1,hfz9_0,hfz9_1⟩:=zk2 BK157.out)|(go_at_call 113;(with_reducible refine (impl_areBits.calls k _ _ l0_1 t158 _ ?side1 ?side2 A7.out).mono ?_);(case side1=>exact zj_);(case side2=>exact HC0_1.out);rintro e w' ⟨rfl,⟨nd,rfl⟩⟩;(try exact q3d_)))
     repeat (go_quiet (first | ((with_reducible refine gate_dst (N:=1) rfl ?_);(try (refine gate_guard (by rfl) ?_;dsimp only));refine box_event ?hg (N:=1) ?hd (cs:=#[.int .i64 a0_0,.slice A0_1 l0_1.length c0_1]) (t:=41) ?hr ?_;(case hd=>rfl);(case hg=>rfl);(case hr=>exact za_);intro gb157 hg w8 hbox hb;have n_:=z (below_step zb_ hb)<|z (hbox)<|z ((by rw [hg];exact (below_size zb_):w.heap.size≤gb157))<|z1 ((by rw [hg];exact (below_size zb_):w.heap.size≤gb157));clear HB;obtain ⟨HB,BK157,GW157,GE157⟩:=n_;clear hb hbox hg;obtain ⟨hcz9_0,hcz9_1,hfz9_0,hfz9_1⟩:=zk2 BK157.out)|(go_at_call 113;(with_reducible refine (impl_areBits.calls k _ _ l0_1 t158 _ ?side1 ?side2 A7.out).mono ?_);(case side1=>exact zj_);(case side2=>exact HC0_1.out);rintro e w' ⟨rfl,⟨nd,rfl⟩⟩;(try exact q3d_)));try go_wp2_with (first | ((with_reducible refine gate_dst (N:=1) rfl ?_);(try (refine gate_guard (by rfl) ?_;dsimp only));refine box_event ?hg (N:=1) ?hd (cs:=#[.int .i64 a0_0,.slice A0_1 l0_1.length c0_1]) (t:=41) ?hr ?_;(case hd=>rfl);(case hg=>rfl);(case hr=>exact za_);intro gb157 hg w8 hbox hb;have n_:=z (below_step zb_ hb)<|z (hbox)<|z ((by rw [hg];exact (below_size zb_):w.heap.size≤gb157))<|z1 ((by rw [hg];exact (below_size zb_):w.heap.size≤gb157));clear HB;obtain ⟨HB,BK157,GW157,GE157⟩:=n_;clear hb hbox hg;obtain ⟨hcz9_0,hcz9_1,hfz9_0,hfz9_1⟩:=zk2 BK157.out)|(go_at_call 113;(with_reducible refine (impl_areBits.calls k _ _ l0_1 t158 _ ?side1 ?side2 A7.out).mono ?_);(case side1=>exact zj_);(case side2=>exact HC0_1.out);rintro e w' ⟨rfl,⟨nd,rfl⟩⟩;(try exact q3d_))))
     go_ret
     exact ⟨by first | rfl | (simp [errW_none,errW_some] <;> rfl)|(simp only [← hji5];first | rfl | (simp [errW_none,errW_some] <;> rfl))|(simp [*,errW_none,errW_some] <;> rfl),zig_⟩
    ·rw [if_neg c6] at H
     have c6b0:=beq_eq_false_iff_ne.mpr c6;have c6b1:=bne_iff_ne.mpr c6;obtain rfl:=Option.some.inj H
     go_enter Try.func67,Try.ntmps67
     go_wp2_with (first | ((with_reducible refine gate_dst (N:=1) rfl ?_);(try (refine gate_guard (by rfl) ?_;dsimp only));refine box_event ?hg (N:=1) ?hd (cs:=#[.int .i64 a0_0,.slice A0_1 l0_1.length c0_1]) (t:=41) ?hr ?_;(case hd=>rfl);(case hg=>rfl);(case hr=>exact za_);intro gb157 hg w10 hbox hb;have n_:=z (below_step zb_ hb)<|z (hbox)<|z ((by rw [hg];exact (below_size zb_):w.heap.size≤gb157))<|z1 ((by rw [hg];exact (below_size zb_):w.heap.size≤gb157));clear HB;obtain ⟨HB,BK157,GW157,GE157⟩:=n_;clear hb hbox hg;obtain ⟨hcz11_0,hcz11_1,hfz11_0,hfz11_1⟩:=zk2 BK157.out))
     repeat (go_quiet (first | ((with_reducible refine gate_dst (N:=1) rfl ?_);(try (refine gate_guard (by rfl) ?_;dsimp only));refine box_event ?hg (N:=1) ?hd (cs:=#[.int .i64 a0_0,.slice A0_1 l0_1.length c0_1]) (t:=41) ?hr ?_;(case hd=>rfl);(case hg=>rfl);(case hr=>exact za_);intro gb157 hg w10 hbox hb;have n_:=z (below_step zb_ hb)<|z (hbox)<|z ((by rw [hg];exact (below_size zb_):w.heap.size≤gb157))<|z1 ((by rw [hg];exact (below_size zb_):w.heap.size≤gb157));clear HB;obtain ⟨HB,BK157,GW157,GE157⟩:=n_;clear hb hbox hg;obtain ⟨hcz11_0,hcz11_1,hfz11_0,hfz11_1⟩:=zk2 BK157.out));try go_wp2_with (first | ((with_reducible refine gate_dst (N:=1) rfl ?_);(try (refine gate_guard (by rfl) ?_;dsimp only));refine box_event ?hg (N:=1) ?hd (cs:=#[.int .i64 a0_0,.slice A0_1 l0_1.length c0_1]) (t:=41) ?hr ?_;(case hd=>rfl);(case hg=>rfl);(case hr=>exact za_);intro gb157 hg w10 hbox hb;have n_:=z (below_step zb_ hb)<|z (hbox)<|z ((by rw [hg];exact (below_size zb_):w.heap.size≤gb157))<|z1 ((by rw [hg];exact (below_size zb_):w.heap.size≤gb157));clear HB;obtain ⟨HB,BK157,GW157,GE157⟩:=n_;clear hb hbox hg;obtain ⟨hcz11_0,hcz11_1,hfz11_0,hfz11_1⟩:=zk2 BK157.out)))
     go_ret
     exact ⟨by first | rfl | (simp [errW_none,errW_some] <;> rfl)|(simp only [← hji5];first | rfl | (simp [errW_none,errW_some] <;> rfl))|(simp [*,errW_none,errW_some] <;> rfl),zig_⟩
   ·rw [if_neg c4] at H
    exact q3n_ H
  ·rw [if_neg c3] at H
   have c3b0:=decide_eq_false c3;clear c3;obtain rfl:=Option.some.inj H
   go_enter Try.func67,Try.ntmps67
   go_wp2_with (first | ((with_reducible refine gate_dst (N:=1) rfl ?_);(try (refine gate_guard (by rfl) ?_;dsimp only));refine box_event ?hg (N:=1) ?hd (cs:=#[.int .i64 a0_0,.slice A0_1 l0_1.length c0_1]) (t:=41) ?hr ?_;(case hd=>rfl);(case hg=>rfl);(case hr=>exact za_);intro gb157 hg w12 hbox hb;have n_:=z (below_step zb_ hb)<|z (hbox)<|z ((by rw [hg];exact (below_size zb_):w.heap.size≤gb157))<|z1 ((by rw [hg];exact (below_size zb_):w.heap.size≤gb157));clear HB;obtain ⟨HB,BK157,GW157,GE157⟩:=n_;clear hb hbox hg;obtain ⟨hcz13_0,hcz13_1,hfz13_0,hfz13_1⟩:=zk2 BK157.out))
   repeat (go_quiet (first | ((with_reducible refine gate_dst (N:=1) rfl ?_);(try (refine gate_guard (by rfl) ?_;dsimp only));refine box_event ?hg (N:=1) ?hd (cs:=#[.int .i64 a0_0,.slice A0_1 l0_1.length c0_1]) (t:=41) ?hr ?_;(case hd=>rfl);(case hg=>rfl);(case hr=>exact za_);intro gb157 hg w12 hbox hb;have n_:=z (below_step zb_ hb)<|z (hbox)<|z ((by rw [hg];exact (below_size zb_):w.heap.size≤gb157))<|z1 ((by rw [hg];exact (below_size zb_):w.heap.size≤gb157));clear HB;obtain ⟨HB,BK157,GW157,GE157⟩:=n_;clear hb hbox hg;obtain ⟨hcz13_0,hcz13_1,hfz13_0,hfz13_1⟩:=zk2 BK157.out));try go_wp2_with (first | ((with_reducible refine gate_dst (N:=1) rfl ?_);(try (refine gate_guard (by rfl) ?_;dsimp only));refine box_event ?hg (N:=1) ?hd (cs:=#[.int .i64 a0_0,.slice A0_1 l0_1.length c0_1]) (t:=41) ?hr ?_;(case hd=>rfl);(case hg=>rfl);(case hr=>exact za_);intro gb157 hg w12 hbox hb;have n_:=z (below_step zb_ hb)<|z (hbox)<|z ((by rw [hg];exact (below_size zb_):w.heap.size≤gb157))<|z1 ((by rw [hg];exact (below_size zb_):w.heap.size≤gb157));clear HB;obtain ⟨HB,BK157,GW157,GE157⟩:=n_;clear hb hbox hg;obtain ⟨hcz13_0,hcz13_1,hfz13_0,hfz13_1⟩:=zk2 BK157.out)))
   go_ret
   exact ⟨zg_,zig_⟩
 ·rw [if_neg c2] at H
  have c2b0:decide (0≤a0_0)=false:=decide_eq_false c2;clear c2;obtain rfl:=Option.some.inj H
  go_enter Try.func67,Try.ntmps67
  go_wp2_with (first | ((with_reducible refine gate_dst (N:=1) rfl ?_);(try (refine gate_guard (by rfl) ?_;dsimp only));refine box_event ?hg (N:=1) ?hd (cs:=#[.int .i64 a0_0,.slice A0_1 l0_1.length c0_1]) (t:=41) ?hr ?_;(case hd=>rfl);(case hg=>rfl);(case hr=>exact za_);intro gb157 hg w14 hbox hb;have n_:=z (below_step zb_ hb)<|z (hbox)<|z ((by rw [hg];exact (below_size zb_):w.heap.size≤gb157))<|z1 ((by rw [hg];exact (below_size zb_):w.heap.size≤gb157));clear HB;obtain ⟨HB,BK157,GW157,GE157⟩:=n_;clear hb hbox hg;obtain ⟨hcz15_0,hcz15_1,hfz15_0,hfz15_1⟩:=zk2 BK157.out))
  repeat (go_quiet (first | ((with_reducible refine gate_dst (N:=1) rfl ?_);(try (refine gate_guard (by rfl) ?_;dsimp only));refine box_event ?hg (N:=1) ?hd (cs:=#[.int .i64 a0_0,.slice A0_1 l0_1.length c0_1]) (t:=41) ?hr ?_;(case hd=>rfl);(case hg=>rfl);(case hr=>exact za_);intro gb157 hg w14 hbox hb;have n_:=z (below_step zb_ hb)<|z (hbox)<|z ((by rw [hg];exact (below_size zb_):w.heap.size≤gb157))<|z1 ((by rw [hg];exact (below_size zb_):w.heap.size≤gb157));clear HB;obtain ⟨HB,BK157,GW157,GE157⟩:=n_;clear hb hbox hg;obtain ⟨hcz15_0,hcz15_1,hfz15_0,hfz15_1⟩:=zk2 BK157.out));try go_wp2_with (first | ((with_reducible refine gate_dst (N:=1) rfl ?_);(try (refine gate_guard (by rfl) ?_;dsimp only));refine box_event ?hg (N:=1) ?hd (cs:=#[.int .i64 a0_0,.slice A0_1 l0_1.length c0_1]) (t:=41) ?hr ?_;(case hd=>rfl);(case hg=>rfl);(case hr=>exact za_);intro gb157 hg w14 hbox hb;have n_:=z (below_step zb_ hb)<|z (hbox)<|z ((by rw [hg];exact (below_size zb_):w.heap.size≤gb157))<|z1 ((by rw [hg];exact (below_size zb_):w.heap.size≤gb157));clear HB;obtain ⟨HB,BK157,GW157,GE157⟩:=n_;clear hb hbox hg;obtain ⟨hcz15_0,hcz15_1,hfz15_0,hfz15_1⟩:=zk2 BK157.out)))
  go_ret
  exact ⟨zg_,zig_⟩
def impl_CombineTables.l0:Nat→(List Int)→Int→Int→Int→(List Int)→(List Int)→Option (Int×List Int×Bool)
 | 0,_,_,_,_,_,_=>none
 | k+1,l1_0,x1_43,a0,a1_0,l1_1,l2_1=>if x1_43<((l1_1.length:Int)) then (if 0≤x1_43∧x1_43<(l1_1.length:Int) then (if 0≤x1_43∧x1_43<(l2_1.length:Int) then (if a0=1 then (if l1_0.length+1≤17592186044416 then (impl_CombineTables.l0 k (l1_0 ++ [Go.bits .and .i64 (rd l1_1 x1_43) (rd l2_1 x1_43)]) (wrap64 (x1_43+1)) a0 a1_0 l1_1 l2_1) else (none)) else (if a0=2 then (if l1_0.length+1≤17592186044416 then (impl_CombineTables.l0 k (l1_0 ++ [Go.bits .or .i64 (rd l1_1 x1_43) (rd l2_1 x1_43)]) (wrap64 (x1_43+1)) a0 a1_0 l1_1 l2_1) else (none)) else (if a0=3 then (if l1_0.length+1≤17592186044416 then (impl_CombineTables.l0 k (l1_0 ++ [Go.bits .xor .i64 (rd l1_1 x1_43) (rd l2_1 x1_43)]) (wrap64 (x1_43+1)) a0 a1_0 l1_1 l2_1) else (none)) else (if l1_0.length+1≤17592186044416 then (impl_CombineTables.l0 k (l1_0 ++ [Go.bits .or .i64 (wrap64 (1 - (rd l1_1 x1_43))) (rd l2_1 x1_43)]) (wrap64 (x1_43+1)) a0 a1_0 l1_1 l2_1) else (none))))) else (none)) else (none)) else (some (a1_0,l1_0,true))
def impl_CombineTables.f (k:Nat) (a0:Int) (a1_0:Int) (l1_1:List Int) (a2_0:Int) (l2_1:List Int):Option (Int×List Int×Bool):=(impl_IsTable.f k a1_0 l1_1).bind fun b14=>if b14=true then ((impl_IsTable.f k a2_0 l2_1).bind fun b18=>if b18=true then (if a1_0=a2_0 then (if a0<1 then (some (0,[],false)) else (if a0>4 then (some (0,[],false)) else (impl_CombineTables.l0 k ([]) 0 a0 a1_0 l1_1 l2_1))) else (some (0,[],false))) else (some (0,[],false))) else (some (0,[],false))
open Go.Proofs.Ytlnhpkjioppbiaa.Sep in
set_option maxHeartbeats 32000000 in
set_option maxRecDepth 100000 in
theorem impl_CombineTables.calls (k:Nat) (a0:Int) (a1_0:Int) (A1_1:Option Addr) (c1_1:Nat) (l1_1:List Int) (a2_0:Int) (A2_1:Option Addr) (c2_1:Nat) (l2_1:List Int) (r1:Int) (r2:List Int) (r3:Bool) (w:World) (hr1_1:Kd.C (Kd.int .i64) w A1_1 l1_1.length l1_1) (hc1_1:l1_1.length≤c1_1) (hr2_1:Kd.C (Kd.int .i64) w A2_1 l2_1.length l2_1) (hc2_1:l2_1.length≤c2_1) (h:impl_CombineTables.f k a0 a1_0 l1_1 a2_0 l2_1=some (r1,r2,r3)) :
  Calls Try.prog 17 #[.int .i64 a0,.agg #[.int .i64 a1_0,.slice A1_1 l1_1.length c1_1],.agg #[.int .i64 a2_0,.slice A2_1 l2_1.length c2_1]] w fun e w' => ∃ v1_:Value,e = .returned (.tuple #[.agg #[.int .i64 r1,v1_],.bool r3])∧Kd.R (Kd.int .i64) 3 w' w.heap.size (fun _=>True) v1_ r2∧Below w.heap.size w w':=by
 have HR1_1:=aM hr1_1
 have HC1_1:=aM hc1_1
 clear hr1_1 hc1_1
 have HR2_1:=aM hr2_1
 have HC2_1:=aM hc2_1
 clear hr2_1 hc2_1
 unfold impl_CombineTables.f at h
 have H:=h
 clear h
 obtain ⟨t14,A_,H_⟩:=oB.mp H
 clear H
 have H:=H_
 clear H_
 (try dsimp only at H)
 have A14:=aM A_
 clear A_
 go_enter Try.func17,Try.ntmps17
 go_upto_region 1 with (first | ((with_reducible refine gate_dst (N:=4) rfl ?_);refine box_event ?hg (N:=4) ?hd (cs:=#[.int .i64 a1_0,.slice A1_1 l1_1.length c1_1]) (t:=41) ?hr ?_;(case hd=>rfl);(case hg=>rfl);(case hr=>exact za_);intro g4 hg w_1 hbox hb;have HO_1:=aM ((Sep.Own.nil w).add_box (T:=41) (cs:=#[.int .i64 a1_0,.slice A1_1 l1_1.length c1_1]) hg hbox hb);clear hg hbox hb)|((with_reducible refine gate_dst (N:=5) rfl ?_);refine box_event ?hg (N:=5) ?hd (cs:=#[.int .i64 a2_0,.slice A2_1 l2_1.length c2_1]) (t:=41) ?hr ?_;(case hd=>rfl);(case hg=>rfl);(case hr=>exact za_);intro g5 hg w_2 hbox hb;have HO_2:=aM (HO_1.out.add_box (T:=41) (cs:=#[.int .i64 a2_0,.slice A2_1 l2_1.length c2_1]) hg hbox hb);clear hg hbox hb)|((with_reducible refine gate_dst (N:=6) rfl ?_);refine box_event ?hg (N:=6) ?hd (cs:=#[.int .i64 0,.slice none 0 0]) (t:=41) ?hr ?_;(case hd=>rfl);(case hg=>rfl);(case hr=>exact za_);intro g6 hg w_3 hbox hb;have HO_3:=aM (HO_2.out.add_box (T:=41) (cs:=#[.int .i64 0,.slice none 0 0]) hg hbox hb);clear hg hbox hb))
 by_cases c14_0_:t14=true
 ·subst c14_0_
  rw [if_pos rfl] at H;obtain ⟨t18,A_,H_⟩:=oB.mp H;clear H;have H:=H_;clear H_;(try dsimp only at H);have A18:=aM A_;clear A_
  by_cases c18_0_:t18=true
  ·subst c18_0_
   rw [if_pos rfl] at H
   by_cases c26_:a1_0=a2_0
   ·rw [if_pos c26_] at H
    have c26_b0:(a1_0 == a2_0)=true:=(by simpa using c26_);have c26_b1:(a1_0 != a2_0)=false:=(by simpa using c26_);have c26_b2:decide (a1_0=a2_0)=true:=(by simpa using c26_);clear c26_
    by_cases c30_:a0<1
    ·rw [if_pos c30_] at H
     have c30_b0:decide (a0<1)=true:=(by simpa using c30_);clear c30_
     injection H with H
     injection H with e_0 H
     injection H with e_1 H
     subst e_0;subst e_1;subst H;have z_1:w_3.cell? ⟨g4,0,none⟩=some (.int .i64 a1_0):=(HO_3.out.cell 2 rfl 0 rfl);have z_2:w_3.cell? ⟨g4,1,none⟩=some (.slice A1_1 l1_1.length c1_1):=(HO_3.out.cell 2 rfl 1 rfl)
     go_wp2_with (first | ((with_reducible refine gate_callee (f:=67) rfl ?_);refine goesL_ (some 14) rfl rfl Try.func67 (by kernel_rfl) rfl #[.agg #[.int .i64 a1_0,.slice A1_1 l1_1.length c1_1]] rfl ze_ ?_;(with_reducible refine (impl_IsTable.calls k a1_0 A1_1 c1_1 l1_1 true _ zdf_ HC1_1.out A14.out).mono ?_);rintro e w_4 ⟨rfl,hb⟩;refine ⟨_,rfl,?_⟩;have ho:=HO_3.out.below hb;clear hb;have HO_4:=aM ho;clear ho;have z_3:w_4.cell? ⟨g5,0,none⟩=some (.int .i64 a2_0):=(HO_4.out.cell 1 rfl 0 rfl);have z_4:w_4.cell? ⟨g5,1,none⟩=some (.slice A2_1 l2_1.length c2_1):=(HO_4.out.cell 1 rfl 1 rfl))|(go_at_call 67;(with_reducible refine (impl_IsTable.calls k a2_0 A2_1 c2_1 l2_1 true _ zea_ HC2_1.out A18.out).mono ?_);rintro e w_5 ⟨rfl,hb⟩;have ho:=HO_4.out.below hb;clear hb;have HO_5:=aM ho;clear ho;have z_5:w_5.cell? ⟨g4,0,none⟩=some (.int .i64 a1_0):=(HO_5.out.cell 2 rfl 0 rfl);have z_6:w_5.cell? ⟨g5,0,none⟩=some (.int .i64 a2_0):=(HO_5.out.cell 1 rfl 0 rfl))|((with_reducible refine gate_store (t:=41) (p:=6) (v := .tmp 36) rfl ?_);refine Sep.own_store HO_5.out 0 g6 41 _ #[.int .i64 0,.slice none 0 0] rfl rfl rfl 41 (.tmp 6) (.tmp 36) rfl rfl _ rfl rfl rfl (by kernel_rfl) (by simp [Value.oneCell']) ?_;intro w_6 ho;have HO_6:=aM ho;clear ho))
     (try simp only [Act.put,sI,s0,sS]);(try simp only [Exit.inBlock,Exit.then])
     refine bodyPost_ret (results_list (rs:=[.cell 6 41,.tmp 7]) rfl (by simp) (.cell g6 41 #[.int .i64 0,.slice none 0 0] (0,0) _ rfl (HO_6.out.blk 0 rfl) Try.underlying41 rfl (by kernel_rfl) (.tmp .nil))) rfl ?_
     exact ⟨_,rfl,Kd.R_nil _ _ _ _ _,HO_6.out.base⟩
    ·rw [if_neg c30_] at H
     have c30_b0:decide (a0<1)=false:=(by simpa using c30_);clear c30_
     by_cases c34_:a0>4
     ·rw [if_pos c34_] at H
      have c34_b0:decide (a0>4)=true:=(by simpa using c34_);clear c34_
      injection H with H
      injection H with e_0 H
      injection H with e_1 H
      subst e_0;subst e_1;subst H;have z_1:w_3.cell? ⟨g4,0,none⟩=some (.int .i64 a1_0):=(HO_3.out.cell 2 rfl 0 rfl);have z_2:w_3.cell? ⟨g4,1,none⟩=some (.slice A1_1 l1_1.length c1_1):=(HO_3.out.cell 2 rfl 1 rfl)
      go_wp2_with (first | ((with_reducible refine gate_callee (f:=67) rfl ?_);refine goesL_ (some 14) rfl rfl Try.func67 (by kernel_rfl) rfl #[.agg #[.int .i64 a1_0,.slice A1_1 l1_1.length c1_1]] rfl ze_ ?_;(with_reducible refine (impl_IsTable.calls k a1_0 A1_1 c1_1 l1_1 true _ zdf_ HC1_1.out A14.out).mono ?_);rintro e w_4 ⟨rfl,hb⟩;refine ⟨_,rfl,?_⟩;have ho:=HO_3.out.below hb;clear hb;have HO_4:=aM ho;clear ho;have z_3:w_4.cell? ⟨g5,0,none⟩=some (.int .i64 a2_0):=(HO_4.out.cell 1 rfl 0 rfl);have z_4:w_4.cell? ⟨g5,1,none⟩=some (.slice A2_1 l2_1.length c2_1):=(HO_4.out.cell 1 rfl 1 rfl))|(go_at_call 67;(with_reducible refine (impl_IsTable.calls k a2_0 A2_1 c2_1 l2_1 true _ zea_ HC2_1.out A18.out).mono ?_);rintro e w_5 ⟨rfl,hb⟩;have ho:=HO_4.out.below hb;clear hb;have HO_5:=aM ho;clear ho;have z_5:w_5.cell? ⟨g4,0,none⟩=some (.int .i64 a1_0):=(HO_5.out.cell 2 rfl 0 rfl);have z_6:w_5.cell? ⟨g5,0,none⟩=some (.int .i64 a2_0):=(HO_5.out.cell 1 rfl 0 rfl))|((with_reducible refine gate_store (t:=41) (p:=6) (v := .tmp 36) rfl ?_);refine Sep.own_store HO_5.out 0 g6 41 _ #[.int .i64 0,.slice none 0 0] rfl rfl rfl 41 (.tmp 6) (.tmp 36) rfl rfl _ rfl rfl rfl (by kernel_rfl) (by simp [Value.oneCell']) ?_;intro w_6 ho;have HO_6:=aM ho;clear ho))
      (try simp only [Act.put,sI,s0,sS]);(try simp only [Exit.inBlock,Exit.then])
      refine bodyPost_ret (results_list (rs:=[.cell 6 41,.tmp 7]) rfl (by simp) (.cell g6 41 #[.int .i64 0,.slice none 0 0] (0,0) _ rfl (HO_6.out.blk 0 rfl) Try.underlying41 rfl (by kernel_rfl) (.tmp .nil))) rfl ?_
      exact ⟨_,rfl,Kd.R_nil _ _ _ _ _,HO_6.out.base⟩
     ·rw [if_neg c34_] at H
      have c34_b0:decide (a0>4)=false:=(by simpa using c34_);clear c34_;have z_1:w_3.cell? ⟨g4,0,none⟩=some (.int .i64 a1_0):=(HO_3.out.cell 2 rfl 0 rfl);have z_2:w_3.cell? ⟨g4,1,none⟩=some (.slice A1_1 l1_1.length c1_1):=(HO_3.out.cell 2 rfl 1 rfl)
      go_wp2_with (first | ((with_reducible refine gate_callee (f:=67) rfl ?_);refine goesL_ (some 14) rfl rfl Try.func67 (by kernel_rfl) rfl #[.agg #[.int .i64 a1_0,.slice A1_1 l1_1.length c1_1]] rfl ze_ ?_;(with_reducible refine (impl_IsTable.calls k a1_0 A1_1 c1_1 l1_1 true _ zdf_ HC1_1.out A14.out).mono ?_);rintro e w_4 ⟨rfl,hb⟩;refine ⟨_,rfl,?_⟩;have ho:=HO_3.out.below hb;clear hb;have HO_4:=aM ho;clear ho;have z_3:w_4.cell? ⟨g5,0,none⟩=some (.int .i64 a2_0):=(HO_4.out.cell 1 rfl 0 rfl);have z_4:w_4.cell? ⟨g5,1,none⟩=some (.slice A2_1 l2_1.length c2_1):=(HO_4.out.cell 1 rfl 1 rfl))|(go_at_call 67;(with_reducible refine (impl_IsTable.calls k a2_0 A2_1 c2_1 l2_1 true _ zea_ HC2_1.out A18.out).mono ?_);rintro e w_5 ⟨rfl,hb⟩;have ho:=HO_4.out.below hb;clear hb;have HO_5:=aM ho;clear ho;have z_5:w_5.cell? ⟨g4,0,none⟩=some (.int .i64 a1_0):=(HO_5.out.cell 2 rfl 0 rfl);have z_6:w_5.cell? ⟨g5,0,none⟩=some (.int .i64 a2_0):=(HO_5.out.cell 1 rfl 0 rfl);have z_7:w_5.cell? ⟨g4,0,none⟩=some (.int .i64 a1_0):=(HO_5.out.cell 2 rfl 0 rfl))|((with_reducible refine gate_dst (N:=8) rfl ?_);refine box_event ?hg (N:=8) ?hd (cs:=#[.int .i64 0,.slice none 0 0]) (t:=41) ?hr ?_;(case hd=>rfl);(case hg=>rfl);(case hr=>exact za_);intro g8 hg w_6 hbox hb;have HO_6:=aM (HO_5.out.add_box (T:=41) (cs:=#[.int .i64 0,.slice none 0 0]) hg hbox hb);clear hg hbox hb)|((with_reducible refine gate_store (t:=41) (p:=8) (v := .tmp 39) rfl ?_);refine Sep.own_store HO_6.out 0 g8 41 _ #[.int .i64 a1_0,.slice none 0 0] rfl rfl rfl 41 (.tmp 8) (.tmp 39) rfl rfl _ rfl rfl rfl (by kernel_rfl) (by simp [Value.oneCell']) ?_;intro w_7 ho;have HO_7:=aM ho;clear ho;have z_8:w_7.cell? ⟨g4,1,none⟩=some (.slice A1_1 l1_1.length c1_1):=(HO_7.out.cell 3 rfl 1 rfl)))
      (try simp only [Act.put,sI,s0,sS]);have HC_1:=aM H;clear H
      go_loopg [43] k (fun kq v43 wr1 => ∃ (l1_0:List Int) (A1_0:Option Addr) (c1_0:Nat) (x1_43:Int),v43 = .int .i64 x1_43∧Aside0 (impl_CombineTables.l0 kq l1_0 x1_43 a0 a1_0 l1_1 l2_1=some (r1,r2,r3))∧Aside0 (kq≤k)∧Aside0 (Own w wr1 [Item.row (Kd.int .i64) 3 (.slice A1_0 l1_0.length c1_0) l1_0,Item.box g4 41 #[.int .i64 a1_0,.slice A1_1 l1_1.length c1_1],Item.box g5 41 #[.int .i64 a2_0,.slice A2_1 l2_1.length c2_1],Item.box g6 41 #[.int .i64 0,.slice none 0 0],Item.box g8 41 #[.int .i64 a1_0,.slice A1_0 l1_0.length c1_0]]))
      case atStart=>exact ⟨[],none,0,0,zbf_,⟨HC_1.out⟩,⟨by omega⟩,⟨((((((HO_7.out.nilrow (Kd.int .i64) 3).front 1 rfl).front 2 rfl).front 3 rfl).front 4 rfl).front 4 rfl)⟩⟩
      case round =>
       rename World=>wr1
       obtain ⟨l1_0,A1_0,c1_0,x1_43,rfl,HL_1,HK_1,HO_1⟩:=hrel;clear HC_1 HO_7
       cases gk with
       | zero=>exact absurd HL_1.out (by simp only [impl_CombineTables.l0];exact fun h_=>by cases h_)
       | succ k1 =>
        have H:=HL_1.out;clear HL_1
        simp only [impl_CombineTables.l0] at H
        by_cases c44_1:x1_43<((l1_1.length:Int))
        ·rw [if_pos c44_1] at H
         have c44_1b0:decide (x1_43<((l1_1.length:Int)))=true:=(by simpa using c44_1);clear c44_1
         go_wp2
         by_cases c49_1z:0≤x1_43∧x1_43<(l1_1.length:Int)
         ·rw [if_pos c49_1z] at H
          have c49_1:=aM c49_1z;clear c49_1z;have p49:(0≤x1_43)=True:=eq_true c49_1.out.1;have q49:(x1_43<(l1_1.length:Int))=True:=eq_true c49_1.out.2;have r49:(x1_43.toNat<l1_1.length)=True:=eq_true (by have h_:=c49_1.out;omega);obtain ⟨ad49,e_,_⟩:=Kd.at_int (Kd.C_below HR1_1.out HO_1.out.base) x1_43 c49_1.out.1 c49_1.out.2;subst e_
          by_cases c54_1z:0≤x1_43∧x1_43<(l2_1.length:Int)
          ·rw [if_pos c54_1z] at H
           have c54_1:=aM c54_1z;clear c54_1z;have p54:(0≤x1_43)=True:=eq_true c54_1.out.1;have q54:(x1_43<(l2_1.length:Int))=True:=eq_true c54_1.out.2;have r54:(x1_43.toNat<l2_1.length)=True:=eq_true (by have h_:=c54_1.out;omega);obtain ⟨ad54,e_,_⟩:=Kd.at_int (Kd.C_below HR2_1.out HO_1.out.base) x1_43 c54_1.out.1 c54_1.out.2;subst e_;have HD_7_8:=aM (HO_1.out.drew)
           refine start_ (n:=12) (S:=fun w'=>w'.cell? ⟨g4,1,none⟩=some (.slice ((some ad49)) l1_1.length c1_1)∧w'.cell? (ad49.add x1_43.toNat)=some (.int .i64 (rd l1_1 x1_43))∧w'.cell? ⟨g5,1,none⟩=some (.slice ((some ad54)) l2_1.length c2_1)∧w'.cell? (ad54.add x1_43.toNat)=some (.int .i64 (rd l2_1 x1_43))) (ds:=[]) #[fi,fi,fi,fi,fi,fi,fi,fi,fi,fi,fi,fi] (by kernel_rfl) rfl rfl ⟨(HD_7_8.out.cell 1 rfl 1 rfl),(by obtain ⟨b_,e_,h_⟩:=Kd.at_int (Kd.C_below HR1_1.out HD_7_8.out.base) x1_43 c49_1.out.1 c49_1.out.2;cases e_;exact h_),(HD_7_8.out.cell 2 rfl 1 rfl),(by obtain ⟨b_,e_,h_⟩:=Kd.at_int (Kd.C_below HR2_1.out HD_7_8.out.base) x1_43 c54_1.out.1 c54_1.out.2;cases e_;exact h_)⟩ (fun hHeld=>?_)
           generalize wr1.drew=wd_7_9 at HD_7_8 hHeld ⊢
           refine oz_ 0 46 ?_
           refine oz_ 2 48 ?_
           refine oz_ 5 51 ?_
           refine oz_ 7 53 ?_
           refine tz4_ 1 47 hHeld ?_
           refine oz_ 3 49 ?_
           refine tz4_ 4 50 hHeld ?_
           refine oz_ 10 10 ?_
           refine tz4_ 6 52 hHeld ?_
           refine oz_ 8 54 ?_
           refine tz4_ 9 55 hHeld ?_
           refine oz_ 11 11 ?_
           refine done_ (by kernel_rfl) ?_
           go_upto_region 11 with (fail)
           by_cases c62_1:a0=1
           ·rw [if_pos c62_1] at H
            have c62_1b0:(a0 == 1)=true:=(by simpa using c62_1);have c62_1b1:(a0 != 1)=false:=(by simpa using c62_1);have c62_1b2:decide (a0=1)=true:=(by simpa using c62_1);clear c62_1
            go_upto_region 17 with (fail)
            by_cases c80_1z:l1_0.length+1≤17592186044416
            ·rw [if_pos c80_1z] at H
             have c80_1:=aM c80_1z;clear c80_1z;have z_10:wd_7_9.cell? ⟨g8,1,none⟩=some (.slice A1_0 l1_0.length c1_0):=(HD_7_8.out.cell 4 rfl 1 rfl)
             go_wp2_with (first | ((with_reducible refine gate_dst (N:=80) rfl ?_);at_builtin;refine Sep.own_append (Kd.int .i64) HD_7_8.out 0 _ l1_0 3 rfl rfl (.tmp 77) (.tmp 79) 39 (.int .i64 0) 8 rfl Try.underlying39 info3 rfl (by decide) (by omega) (Go.bits .and .i64 (rd l1_1 x1_43) (rd l2_1 x1_43)) [.int .i64 (Go.bits .and .i64 (rd l1_1 x1_43) (rd l2_1 x1_43))] rfl rfl rfl zih_ ?_;intro x_80 w_2 ho;obtain ⟨A_80,n_80,c_80,hn_,rfl⟩:=ho.row_seal 0 rfl;have HN_80:=aM hn_;clear hn_;have HO_2:=aM ho;clear ho)|((with_reducible refine gate_store (t:=39) (p:=81) (v := .tmp 80) rfl ?_);refine Sep.own_store_at HO_2.out 4 g8 41 _ rfl rfl rfl 39 (.tmp 81) (.tmp 80) rfl 1 rfl (.slice A_80 n_80 c_80) rfl rfl (by kernel_rfl) rfl (by simp) ?_;intro w_3 ho;have HO_3:=aM ho;clear ho))
             have hn_:=HN_80.out;subst hn_
             go_roundg k1
             case measure=>have h1_:=HK_1.out;omega
             case rel=>exact ⟨((l1_0 ++ [Go.bits .and .i64 (rd l1_1 x1_43) (rd l2_1 x1_43)])),A_80,c_80,(wrap64 (x1_43+1)),zbf_,⟨H⟩,⟨zga_⟩,⟨(((((HO_3.out.front 4 rfl).front 4 rfl).front 4 rfl).front 4 rfl).front 4 rfl)⟩⟩
            ·rw [if_neg c80_1z] at H
             exact q3n_ H
           ·rw [if_neg c62_1] at H
            have c62_1b0:(a0 == 1)=false:=(by simpa using c62_1);have c62_1b1:(a0 != 1)=true:=(by simpa using c62_1);have c62_1b2:decide (a0=1)=false:=(by simpa using c62_1);clear c62_1
            go_upto_region 13 with (fail)
            by_cases c67_1:a0=2
            ·rw [if_pos c67_1] at H
             have c67_1b0:(a0 == 2)=true:=(by simpa using c67_1);have c67_1b1:(a0 != 2)=false:=(by simpa using c67_1);have c67_1b2:decide (a0=2)=true:=(by simpa using c67_1);clear c67_1
             go_upto_region 17 with (fail)
             by_cases c80_1z:l1_0.length+1≤17592186044416
             ·rw [if_pos c80_1z] at H
              have c80_1:=aM c80_1z;clear c80_1z;have z_10:wd_7_9.cell? ⟨g8,1,none⟩=some (.slice A1_0 l1_0.length c1_0):=(HD_7_8.out.cell 4 rfl 1 rfl)
              go_wp2_with (first | ((with_reducible refine gate_dst (N:=80) rfl ?_);at_builtin;refine Sep.own_append (Kd.int .i64) HD_7_8.out 0 _ l1_0 3 rfl rfl (.tmp 77) (.tmp 79) 39 (.int .i64 0) 8 rfl Try.underlying39 info3 rfl (by decide) (by omega) (Go.bits .or .i64 (rd l1_1 x1_43) (rd l2_1 x1_43)) [.int .i64 (Go.bits .or .i64 (rd l1_1 x1_43) (rd l2_1 x1_43))] rfl rfl rfl zih_ ?_;intro x_80 w_2 ho;obtain ⟨A_80,n_80,c_80,hn_,rfl⟩:=ho.row_seal 0 rfl;have HN_80:=aM hn_;clear hn_;have HO_2:=aM ho;clear ho)|((with_reducible refine gate_store (t:=39) (p:=81) (v := .tmp 80) rfl ?_);refine Sep.own_store_at HO_2.out 4 g8 41 _ rfl rfl rfl 39 (.tmp 81) (.tmp 80) rfl 1 rfl (.slice A_80 n_80 c_80) rfl rfl (by kernel_rfl) rfl (by simp) ?_;intro w_3 ho;have HO_3:=aM ho;clear ho))
              have hn_:=HN_80.out;subst hn_
              go_roundg k1
              case measure=>have h1_:=HK_1.out;omega
              case rel=>exact ⟨((l1_0 ++ [Go.bits .or .i64 (rd l1_1 x1_43) (rd l2_1 x1_43)])),A_80,c_80,(wrap64 (x1_43+1)),zbf_,⟨H⟩,⟨zga_⟩,⟨(((((HO_3.out.front 4 rfl).front 4 rfl).front 4 rfl).front 4 rfl).front 4 rfl)⟩⟩
             ·rw [if_neg c80_1z] at H
              exact q3n_ H
            ·rw [if_neg c67_1] at H
             have c67_1b0:(a0 == 2)=false:=(by simpa using c67_1);have c67_1b1:(a0 != 2)=true:=(by simpa using c67_1);have c67_1b2:decide (a0=2)=false:=(by simpa using c67_1);clear c67_1
             go_upto_region 15 with (fail)
             by_cases c72_1:a0=3
             ·rw [if_pos c72_1] at H
              have c72_1b0:(a0 == 3)=true:=(by simpa using c72_1);have c72_1b1:(a0 != 3)=false:=(by simpa using c72_1);have c72_1b2:decide (a0=3)=true:=(by simpa using c72_1);clear c72_1
              go_upto_region 17 with (fail)
              by_cases c80_1z:l1_0.length+1≤17592186044416
              ·rw [if_pos c80_1z] at H
               have c80_1:=aM c80_1z;clear c80_1z;have z_10:wd_7_9.cell? ⟨g8,1,none⟩=some (.slice A1_0 l1_0.length c1_0):=(HD_7_8.out.cell 4 rfl 1 rfl)
               go_wp2_with (first | ((with_reducible refine gate_dst (N:=80) rfl ?_);at_builtin;refine Sep.own_append (Kd.int .i64) HD_7_8.out 0 _ l1_0 3 rfl rfl (.tmp 77) (.tmp 79) 39 (.int .i64 0) 8 rfl Try.underlying39 info3 rfl (by decide) (by omega) (Go.bits .xor .i64 (rd l1_1 x1_43) (rd l2_1 x1_43)) [.int .i64 (Go.bits .xor .i64 (rd l1_1 x1_43) (rd l2_1 x1_43))] rfl rfl rfl zih_ ?_;intro x_80 w_2 ho;obtain ⟨A_80,n_80,c_80,hn_,rfl⟩:=ho.row_seal 0 rfl;have HN_80:=aM hn_;clear hn_;have HO_2:=aM ho;clear ho)|((with_reducible refine gate_store (t:=39) (p:=81) (v := .tmp 80) rfl ?_);refine Sep.own_store_at HO_2.out 4 g8 41 _ rfl rfl rfl 39 (.tmp 81) (.tmp 80) rfl 1 rfl (.slice A_80 n_80 c_80) rfl rfl (by kernel_rfl) rfl (by simp) ?_;intro w_3 ho;have HO_3:=aM ho;clear ho))
               have hn_:=HN_80.out;subst hn_
               go_roundg k1
               case measure=>have h1_:=HK_1.out;omega
               case rel=>exact ⟨((l1_0 ++ [Go.bits .xor .i64 (rd l1_1 x1_43) (rd l2_1 x1_43)])),A_80,c_80,(wrap64 (x1_43+1)),zbf_,⟨H⟩,⟨zga_⟩,⟨(((((HO_3.out.front 4 rfl).front 4 rfl).front 4 rfl).front 4 rfl).front 4 rfl)⟩⟩
              ·rw [if_neg c80_1z] at H
               exact q3n_ H
             ·rw [if_neg c72_1] at H
              have c72_1b0:(a0 == 3)=false:=(by simpa using c72_1);have c72_1b1:(a0 != 3)=true:=(by simpa using c72_1);have c72_1b2:decide (a0=3)=false:=(by simpa using c72_1);clear c72_1
              go_upto_region 17 with (fail)
              by_cases c80_1z:l1_0.length+1≤17592186044416
              ·rw [if_pos c80_1z] at H
               have c80_1:=aM c80_1z;clear c80_1z;have z_10:wd_7_9.cell? ⟨g8,1,none⟩=some (.slice A1_0 l1_0.length c1_0):=(HD_7_8.out.cell 4 rfl 1 rfl)
               go_wp2_with (first | ((with_reducible refine gate_dst (N:=80) rfl ?_);at_builtin;refine Sep.own_append (Kd.int .i64) HD_7_8.out 0 _ l1_0 3 rfl rfl (.tmp 77) (.tmp 79) 39 (.int .i64 0) 8 rfl Try.underlying39 info3 rfl (by decide) (by omega) (Go.bits .or .i64 (wrap64 (1 - (rd l1_1 x1_43))) (rd l2_1 x1_43)) [.int .i64 (Go.bits .or .i64 (wrap64 (1 - (rd l1_1 x1_43))) (rd l2_1 x1_43))] rfl rfl rfl zih_ ?_;intro x_80 w_2 ho;obtain ⟨A_80,n_80,c_80,hn_,rfl⟩:=ho.row_seal 0 rfl;have HN_80:=aM hn_;clear hn_;have HO_2:=aM ho;clear ho)|((with_reducible refine gate_store (t:=39) (p:=81) (v := .tmp 80) rfl ?_);refine Sep.own_store_at HO_2.out 4 g8 41 _ rfl rfl rfl 39 (.tmp 81) (.tmp 80) rfl 1 rfl (.slice A_80 n_80 c_80) rfl rfl (by kernel_rfl) rfl (by simp) ?_;intro w_3 ho;have HO_3:=aM ho;clear ho))
               have hn_:=HN_80.out;subst hn_
               go_roundg k1
               case measure=>have h1_:=HK_1.out;omega
               case rel=>exact ⟨((l1_0 ++ [Go.bits .or .i64 (wrap64 (1 - (rd l1_1 x1_43))) (rd l2_1 x1_43)])),A_80,c_80,(wrap64 (x1_43+1)),zbf_,⟨H⟩,⟨zga_⟩,⟨(((((HO_3.out.front 4 rfl).front 4 rfl).front 4 rfl).front 4 rfl).front 4 rfl)⟩⟩
              ·rw [if_neg c80_1z] at H
               exact q3n_ H
          ·rw [if_neg c54_1z] at H
           exact q3n_ H
         ·rw [if_neg c49_1z] at H
          exact q3n_ H
        ·rw [if_neg c44_1] at H
         have c44_1b0:decide (x1_43<((l1_1.length:Int)))=false:=(by simpa using c44_1);clear c44_1
         injection H with H
         injection H with e_0 H
         injection H with e_1 H
         subst e_0;subst e_1;subst H;have z_9:wr1.cell? ⟨g8,0,none⟩=some (.int .i64 a1_0):=(HO_1.out.cell 4 rfl 0 rfl);have z_10:wr1.cell? ⟨g8,1,none⟩=some (.slice A1_0 l1_0.length c1_0):=(HO_1.out.cell 4 rfl 1 rfl)
         go_wp2_with (first | ((with_reducible refine gate_store (t:=41) (p:=6) (v := .tmp 83) rfl ?_);refine Sep.own_store HO_1.out 3 g6 41 _ #[.int .i64 a1_0,.slice A1_0 l1_0.length c1_0] rfl rfl rfl 41 (.tmp 6) (.tmp 83) rfl rfl _ rfl rfl rfl (by kernel_rfl) (by simp [Value.oneCell']) ?_;intro w_1 ho;have HO_1:=aM ho;clear ho))
         (try simp only [Act.put,sI,s0,sS]);obtain ⟨f_,hf_⟩:=HO_1.out.2;(try simp only [Exit.inBlock,Exit.then])
         refine bodyPost_ret (results_list (rs:=[.cell 6 41,.tmp 7]) rfl (by simp) (.cell g6 41 #[.int .i64 a1_0,.slice A1_0 l1_0.length c1_0] (0,0) _ rfl (HO_1.out.blk 3 rfl) Try.underlying41 rfl (by kernel_rfl) (.tmp .nil))) rfl ?_
         exact ⟨_,rfl,Kd.R_mono (hf_ 0 _ rfl) (fun k_ hk_=>trivial),HO_1.out.base⟩
   ·rw [if_neg c26_] at H
    have c26_b0:(a1_0 == a2_0)=false:=(by simpa using c26_);have c26_b1:(a1_0 != a2_0)=true:=(by simpa using c26_);have c26_b2:decide (a1_0=a2_0)=false:=(by simpa using c26_);clear c26_
    injection H with H
    injection H with e_0 H
    injection H with e_1 H
    subst e_0;subst e_1;subst H;have z_1:w_3.cell? ⟨g4,0,none⟩=some (.int .i64 a1_0):=(HO_3.out.cell 2 rfl 0 rfl);have z_2:w_3.cell? ⟨g4,1,none⟩=some (.slice A1_1 l1_1.length c1_1):=(HO_3.out.cell 2 rfl 1 rfl)
    go_wp2_with (first | ((with_reducible refine gate_callee (f:=67) rfl ?_);refine goesL_ (some 14) rfl rfl Try.func67 (by kernel_rfl) rfl #[.agg #[.int .i64 a1_0,.slice A1_1 l1_1.length c1_1]] rfl ze_ ?_;(with_reducible refine (impl_IsTable.calls k a1_0 A1_1 c1_1 l1_1 true _ zdf_ HC1_1.out A14.out).mono ?_);rintro e w_4 ⟨rfl,hb⟩;refine ⟨_,rfl,?_⟩;have ho:=HO_3.out.below hb;clear hb;have HO_4:=aM ho;clear ho;have z_3:w_4.cell? ⟨g5,0,none⟩=some (.int .i64 a2_0):=(HO_4.out.cell 1 rfl 0 rfl);have z_4:w_4.cell? ⟨g5,1,none⟩=some (.slice A2_1 l2_1.length c2_1):=(HO_4.out.cell 1 rfl 1 rfl))|(go_at_call 67;(with_reducible refine (impl_IsTable.calls k a2_0 A2_1 c2_1 l2_1 true _ zea_ HC2_1.out A18.out).mono ?_);rintro e w_5 ⟨rfl,hb⟩;have ho:=HO_4.out.below hb;clear hb;have HO_5:=aM ho;clear ho;have z_5:w_5.cell? ⟨g4,0,none⟩=some (.int .i64 a1_0):=(HO_5.out.cell 2 rfl 0 rfl);have z_6:w_5.cell? ⟨g5,0,none⟩=some (.int .i64 a2_0):=(HO_5.out.cell 1 rfl 0 rfl))|((with_reducible refine gate_store (t:=41) (p:=6) (v := .tmp 36) rfl ?_);refine Sep.own_store HO_5.out 0 g6 41 _ #[.int .i64 0,.slice none 0 0] rfl rfl rfl 41 (.tmp 6) (.tmp 36) rfl rfl _ rfl rfl rfl (by kernel_rfl) (by simp [Value.oneCell']) ?_;intro w_6 ho;have HO_6:=aM ho;clear ho))
    (try simp only [Act.put,sI,s0,sS]);(try simp only [Exit.inBlock,Exit.then])
    refine bodyPost_ret (results_list (rs:=[.cell 6 41,.tmp 7]) rfl (by simp) (.cell g6 41 #[.int .i64 0,.slice none 0 0] (0,0) _ rfl (HO_6.out.blk 0 rfl) Try.underlying41 rfl (by kernel_rfl) (.tmp .nil))) rfl ?_
    exact ⟨_,rfl,Kd.R_nil _ _ _ _ _,HO_6.out.base⟩
  ·replace c18_0_:=Bool.eq_false_iff.mpr c18_0_
   subst c18_0_;rw [if_neg (show ¬ (false=true) by decide)] at H
   injection H with H
   injection H with e_0 H
   injection H with e_1 H
   subst e_0;subst e_1;subst H;have z_1:w_3.cell? ⟨g4,0,none⟩=some (.int .i64 a1_0):=(HO_3.out.cell 2 rfl 0 rfl);have z_2:w_3.cell? ⟨g4,1,none⟩=some (.slice A1_1 l1_1.length c1_1):=(HO_3.out.cell 2 rfl 1 rfl)
   go_wp2_with (first | ((with_reducible refine gate_callee (f:=67) rfl ?_);refine goesL_ (some 14) rfl rfl Try.func67 (by kernel_rfl) rfl #[.agg #[.int .i64 a1_0,.slice A1_1 l1_1.length c1_1]] rfl ze_ ?_;(with_reducible refine (impl_IsTable.calls k a1_0 A1_1 c1_1 l1_1 true _ zdf_ HC1_1.out A14.out).mono ?_);rintro e w_4 ⟨rfl,hb⟩;refine ⟨_,rfl,?_⟩;have ho:=HO_3.out.below hb;clear hb;have HO_4:=aM ho;clear ho;have z_3:w_4.cell? ⟨g5,0,none⟩=some (.int .i64 a2_0):=(HO_4.out.cell 1 rfl 0 rfl);have z_4:w_4.cell? ⟨g5,1,none⟩=some (.slice A2_1 l2_1.length c2_1):=(HO_4.out.cell 1 rfl 1 rfl))|(go_at_call 67;(with_reducible refine (impl_IsTable.calls k a2_0 A2_1 c2_1 l2_1 false _ zea_ HC2_1.out A18.out).mono ?_);rintro e w_5 ⟨rfl,hb⟩;have ho:=HO_4.out.below hb;clear hb;have HO_5:=aM ho;clear ho)|((with_reducible refine gate_store (t:=41) (p:=6) (v := .tmp 36) rfl ?_);refine Sep.own_store HO_5.out 0 g6 41 _ #[.int .i64 0,.slice none 0 0] rfl rfl rfl 41 (.tmp 6) (.tmp 36) rfl rfl _ rfl rfl rfl (by kernel_rfl) (by simp [Value.oneCell']) ?_;intro w_6 ho;have HO_6:=aM ho;clear ho))
   (try simp only [Act.put,sI,s0,sS]);(try simp only [Exit.inBlock,Exit.then])
   refine bodyPost_ret (results_list (rs:=[.cell 6 41,.tmp 7]) rfl (by simp) (.cell g6 41 #[.int .i64 0,.slice none 0 0] (0,0) _ rfl (HO_6.out.blk 0 rfl) Try.underlying41 rfl (by kernel_rfl) (.tmp .nil))) rfl ?_
   exact ⟨_,rfl,Kd.R_nil _ _ _ _ _,HO_6.out.base⟩
 ·replace c14_0_:=Bool.eq_false_iff.mpr c14_0_
  subst c14_0_;rw [if_neg (show ¬ (false=true) by decide)] at H
  injection H with H
  injection H with e_0 H
  injection H with e_1 H
  subst e_0;subst e_1;subst H;have z_1:w_3.cell? ⟨g4,0,none⟩=some (.int .i64 a1_0):=(HO_3.out.cell 2 rfl 0 rfl);have z_2:w_3.cell? ⟨g4,1,none⟩=some (.slice A1_1 l1_1.length c1_1):=(HO_3.out.cell 2 rfl 1 rfl)
  go_wp2_with (first | ((with_reducible refine gate_callee (f:=67) rfl ?_);refine goesL_ (some 14) rfl rfl Try.func67 (by kernel_rfl) rfl #[.agg #[.int .i64 a1_0,.slice A1_1 l1_1.length c1_1]] rfl ze_ ?_;(with_reducible refine (impl_IsTable.calls k a1_0 A1_1 c1_1 l1_1 false _ zdf_ HC1_1.out A14.out).mono ?_);rintro e w_4 ⟨rfl,hb⟩;refine ⟨_,rfl,?_⟩;have ho:=HO_3.out.below hb;clear hb;have HO_4:=aM ho;clear ho)|((with_reducible refine gate_store (t:=41) (p:=6) (v := .tmp 36) rfl ?_);refine Sep.own_store HO_4.out 0 g6 41 _ #[.int .i64 0,.slice none 0 0] rfl rfl rfl 41 (.tmp 6) (.tmp 36) rfl rfl _ rfl rfl rfl (by kernel_rfl) (by simp [Value.oneCell']) ?_;intro w_5 ho;have HO_5:=aM ho;clear ho))
  (try simp only [Act.put,sI,s0,sS]);(try simp only [Exit.inBlock,Exit.then])
  refine bodyPost_ret (results_list (rs:=[.cell 6 41,.tmp 7]) rfl (by simp) (.cell g6 41 #[.int .i64 0,.slice none 0 0] (0,0) _ rfl (HO_5.out.blk 0 rfl) Try.underlying41 rfl (by kernel_rfl) (.tmp .nil))) rfl ?_
  exact ⟨_,rfl,Kd.R_nil _ _ _ _ _,HO_5.out.base⟩
def impl_goodReference.f (a0_0:Int) (l0_1:List (S93)) (a0_2:Int) (a1:Int) (a2:Int):Option (Bool):=if a2<0 then (some false) else (if a2≥(wrap64 (2+a1)) then (some false) else (if a2<2 then (some true) else (if 0≤a1 then (if a1<(l0_1.length:Int) then (if 0≤(wrap64 (a2 - 2)) then (if (wrap64 (a2 - 2))<(l0_1.length:Int) then (some (decide (((rd_T93 l0_1 a1).f0)<((rd_T93 l0_1 (wrap64 (a2 - 2))).f0)))) else (none)) else (none)) else (none)) else (none))))
set_option maxHeartbeats 8000000 in
set_option maxRecDepth 100000 in
theorem impl_goodReference.calls (a0_0:Int) (A0_1:Option Addr) (c0_1:Nat) (l0_1:List (S93)) (a0_2:Int) (a1:Int) (a2:Int) (r:Bool) (w:World) (hr0_1:Kd.C k93 w A0_1 l0_1.length l0_1) (hc0_1:l0_1.length≤c0_1) (h:impl_goodReference.f a0_0 l0_1 a0_2 a1 a2=some r) :
  Calls Try.prog 71 #[.agg #[.int .i64 a0_0,.slice A0_1 l0_1.length c0_1,.int .i64 a0_2],.int .i64 a1,.int .i64 a2] w fun e w'=>e = .returned (.bool r)∧Below w.heap.size w w':=by
 have hu28:=Try.underlying28
 have HR0_1:=aM hr0_1
 have HC0_1:=aM hc0_1
 clear hr0_1 hc0_1
 have HB:=aM (Below.refl w.heap.size w)
 have H:(if a2<0 then (some false) else (if a2≥(wrap64 (2+a1)) then (some false) else (if a2<2 then (some true) else (if 0≤a1 then (if a1<(l0_1.length:Int) then (if 0≤(wrap64 (a2 - 2)) then (if (wrap64 (a2 - 2))<(l0_1.length:Int) then (some (decide (((rd_T93 l0_1 a1).f0)<((rd_T93 l0_1 (wrap64 (a2 - 2))).f0)))) else (none)) else (none)) else (none)) else (none)))))=some r:=h
 clear h
 by_cases c4:a2<0
 ·rw [if_pos c4] at H
  have c4b0:=decide_eq_true c4;clear c4;obtain rfl:=Option.some.inj H
  go_enter Try.func71,Try.ntmps71
  go_wp2_with (first | ((with_reducible refine gate_dst (N:=3) rfl ?_);refine box_event ?hg (N:=3) ?hd (cs:=#[.int .i64 a0_0,.slice A0_1 l0_1.length c0_1,.int .i64 a0_2]) (t:=28) ?hr ?_;(case hd=>rfl);(case hg=>rfl);(case hr=>exact za_);intro gb159 hg w5 hbox hb;have n_:=z (below_step zb_ hb)<|z (hbox)<|z ((by rw [hg];exact (below_size zb_):w.heap.size≤gb159))<|z1 ((by rw [hg];exact (below_size zb_):w.heap.size≤gb159));clear HB;obtain ⟨HB,BK159,GW159,GE159⟩:=n_;clear hb hbox hg))
  repeat (go_quiet (first | ((with_reducible refine gate_dst (N:=3) rfl ?_);refine box_event ?hg (N:=3) ?hd (cs:=#[.int .i64 a0_0,.slice A0_1 l0_1.length c0_1,.int .i64 a0_2]) (t:=28) ?hr ?_;(case hd=>rfl);(case hg=>rfl);(case hr=>exact za_);intro gb159 hg w5 hbox hb;have n_:=z (below_step zb_ hb)<|z (hbox)<|z ((by rw [hg];exact (below_size zb_):w.heap.size≤gb159))<|z1 ((by rw [hg];exact (below_size zb_):w.heap.size≤gb159));clear HB;obtain ⟨HB,BK159,GW159,GE159⟩:=n_;clear hb hbox hg));try go_wp2_with (first | ((with_reducible refine gate_dst (N:=3) rfl ?_);refine box_event ?hg (N:=3) ?hd (cs:=#[.int .i64 a0_0,.slice A0_1 l0_1.length c0_1,.int .i64 a0_2]) (t:=28) ?hr ?_;(case hd=>rfl);(case hg=>rfl);(case hr=>exact za_);intro gb159 hg w5 hbox hb;have n_:=z (below_step zb_ hb)<|z (hbox)<|z ((by rw [hg];exact (below_size zb_):w.heap.size≤gb159))<|z1 ((by rw [hg];exact (below_size zb_):w.heap.size≤gb159));clear HB;obtain ⟨HB,BK159,GW159,GE159⟩:=n_;clear hb hbox hg)))
  go_ret
  exact ⟨zg_,zii_⟩
 ·rw [if_neg c4] at H
  have c4b0:=decide_eq_false c4;clear c4
  by_cases c6:a2≥(wrap64 (2+a1))
  ·rw [if_pos c6] at H
   have c6b0:decide ((wrap64 (2+a1))≤a2)=true:=decide_eq_true c6;clear c6;obtain rfl:=Option.some.inj H
   go_enter Try.func71,Try.ntmps71
   go_wp2_with (first | ((with_reducible refine gate_dst (N:=3) rfl ?_);refine box_event ?hg (N:=3) ?hd (cs:=#[.int .i64 a0_0,.slice A0_1 l0_1.length c0_1,.int .i64 a0_2]) (t:=28) ?hr ?_;(case hd=>rfl);(case hg=>rfl);(case hr=>exact za_);intro gb159 hg w7 hbox hb;have n_:=z (below_step zb_ hb)<|z (hbox)<|z ((by rw [hg];exact (below_size zb_):w.heap.size≤gb159))<|z1 ((by rw [hg];exact (below_size zb_):w.heap.size≤gb159));clear HB;obtain ⟨HB,BK159,GW159,GE159⟩:=n_;clear hb hbox hg))
   repeat (go_quiet (first | ((with_reducible refine gate_dst (N:=3) rfl ?_);refine box_event ?hg (N:=3) ?hd (cs:=#[.int .i64 a0_0,.slice A0_1 l0_1.length c0_1,.int .i64 a0_2]) (t:=28) ?hr ?_;(case hd=>rfl);(case hg=>rfl);(case hr=>exact za_);intro gb159 hg w7 hbox hb;have n_:=z (below_step zb_ hb)<|z (hbox)<|z ((by rw [hg];exact (below_size zb_):w.heap.size≤gb159))<|z1 ((by rw [hg];exact (below_size zb_):w.heap.size≤gb159));clear HB;obtain ⟨HB,BK159,GW159,GE159⟩:=n_;clear hb hbox hg));try go_wp2_with (first | ((with_reducible refine gate_dst (N:=3) rfl ?_);refine box_event ?hg (N:=3) ?hd (cs:=#[.int .i64 a0_0,.slice A0_1 l0_1.length c0_1,.int .i64 a0_2]) (t:=28) ?hr ?_;(case hd=>rfl);(case hg=>rfl);(case hr=>exact za_);intro gb159 hg w7 hbox hb;have n_:=z (below_step zb_ hb)<|z (hbox)<|z ((by rw [hg];exact (below_size zb_):w.heap.size≤gb159))<|z1 ((by rw [hg];exact (below_size zb_):w.heap.size≤gb159));clear HB;obtain ⟨HB,BK159,GW159,GE159⟩:=n_;clear hb hbox hg)))
   go_ret
   exact ⟨zg_,zii_⟩
  ·rw [if_neg c6] at H
   have c6b0:decide ((wrap64 (2+a1))≤a2)=false:=decide_eq_false c6;clear c6
   by_cases c8:a2<2
   ·rw [if_pos c8] at H
    have c8b0:=decide_eq_true c8;clear c8;obtain rfl:=Option.some.inj H
    go_enter Try.func71,Try.ntmps71
    go_wp2_with (first | ((with_reducible refine gate_dst (N:=3) rfl ?_);refine box_event ?hg (N:=3) ?hd (cs:=#[.int .i64 a0_0,.slice A0_1 l0_1.length c0_1,.int .i64 a0_2]) (t:=28) ?hr ?_;(case hd=>rfl);(case hg=>rfl);(case hr=>exact za_);intro gb159 hg w9 hbox hb;have n_:=z (below_step zb_ hb)<|z (hbox)<|z ((by rw [hg];exact (below_size zb_):w.heap.size≤gb159))<|z1 ((by rw [hg];exact (below_size zb_):w.heap.size≤gb159));clear HB;obtain ⟨HB,BK159,GW159,GE159⟩:=n_;clear hb hbox hg))
    repeat (go_quiet (first | ((with_reducible refine gate_dst (N:=3) rfl ?_);refine box_event ?hg (N:=3) ?hd (cs:=#[.int .i64 a0_0,.slice A0_1 l0_1.length c0_1,.int .i64 a0_2]) (t:=28) ?hr ?_;(case hd=>rfl);(case hg=>rfl);(case hr=>exact za_);intro gb159 hg w9 hbox hb;have n_:=z (below_step zb_ hb)<|z (hbox)<|z ((by rw [hg];exact (below_size zb_):w.heap.size≤gb159))<|z1 ((by rw [hg];exact (below_size zb_):w.heap.size≤gb159));clear HB;obtain ⟨HB,BK159,GW159,GE159⟩:=n_;clear hb hbox hg));try go_wp2_with (first | ((with_reducible refine gate_dst (N:=3) rfl ?_);refine box_event ?hg (N:=3) ?hd (cs:=#[.int .i64 a0_0,.slice A0_1 l0_1.length c0_1,.int .i64 a0_2]) (t:=28) ?hr ?_;(case hd=>rfl);(case hg=>rfl);(case hr=>exact za_);intro gb159 hg w9 hbox hb;have n_:=z (below_step zb_ hb)<|z (hbox)<|z ((by rw [hg];exact (below_size zb_):w.heap.size≤gb159))<|z1 ((by rw [hg];exact (below_size zb_):w.heap.size≤gb159));clear HB;obtain ⟨HB,BK159,GW159,GE159⟩:=n_;clear hb hbox hg)))
    go_ret
    exact ⟨zg_,zii_⟩
   ·rw [if_neg c8] at H
    have c8b0:=decide_eq_false c8;clear c8
    by_cases c10:0≤a1
    ·rw [if_pos c10] at H
     have c10b0:=decide_eq_true c10;clear c10
     by_cases c11:a1<(l0_1.length:Int)
     ·rw [if_pos c11] at H
      have c11b0:=decide_eq_true c11;clear c11;obtain ⟨ji12,hji12⟩:∃ j_:Int,(wrap64 (a2 - 2))=j_:=⟨_,rfl⟩;replace H:(if 0≤(ji12) then (if (ji12)<(l0_1.length:Int) then (some (decide (((rd_T93 l0_1 a1).f0)<((rd_T93 l0_1 (ji12)).f0)))) else (none)) else (none))=some r:=by first | (rw [hji12] at H;exact H)|(simp only [hji12] at H ⊢;exact H)
      have hji12w:(IntKind.i64.wrap (a2 - 2))=ji12:=(i64_w _).trans hji12
      by_cases c13:0≤(ji12)
      ·rw [if_pos c13] at H
       have c13b0:=decide_eq_true c13;clear c13
       by_cases c14:(ji12)<(l0_1.length:Int)
       ·rw [if_pos c14] at H
        have c14b0:=decide_eq_true c14;clear c14;obtain rfl:=Option.some.inj H
        go_enter Try.func71,Try.ntmps71
        go_wp2_with (first | ((with_reducible refine gate_dst (N:=3) rfl ?_);refine box_event ?hg (N:=3) ?hd (cs:=#[.int .i64 a0_0,.slice A0_1 l0_1.length c0_1,.int .i64 a0_2]) (t:=28) ?hr ?_;(case hd=>rfl);(case hg=>rfl);(case hr=>exact za_);intro gb159 hg w15 hbox hb;have n_:=z (below_step zb_ hb)<|z (hbox)<|z ((by rw [hg];exact (below_size zb_):w.heap.size≤gb159))<|z1 ((by rw [hg];exact (below_size zb_):w.heap.size≤gb159));clear HB;obtain ⟨HB,BK159,GW159,GE159⟩:=n_;clear hb hbox hg;obtain ⟨hcz16_0,hcz16_1,hcz16_2,hfz16_0,hfz16_1,hfz16_2⟩:=zk3 BK159.out;have p160:0≤(a1:Int):=of_decide_eq_true zc_;have q160:a1<(l0_1.length:Int):=of_decide_eq_true zc_;obtain ⟨ad160,e160,hx160_0,hx160_1,hx160_2⟩:=at_T93 HR0_1.out a1 p160 q160;cases e160;replace hx160_0:=(HB.out.cell (World.block_lt_of_cell? w _ hx160_0)).trans hx160_0;replace hx160_1:=(HB.out.cell (World.block_lt_of_cell? w _ hx160_1)).trans hx160_1;replace hx160_2:=(HB.out.cell (World.block_lt_of_cell? w _ hx160_2)).trans hx160_2;replace p160:=eq_true p160;replace q160:=eq_true q160;have p161:0≤((ji12):Int):=of_decide_eq_true zc_;have q161:(ji12)<(l0_1.length:Int):=of_decide_eq_true zc_;obtain ⟨ad161,e161,hx161_0,hx161_1,hx161_2⟩:=at_T93 HR0_1.out (ji12) p161 q161;obtain rfl:ad160=ad161:=(by injection e161);replace hx161_0:=(HB.out.cell (World.block_lt_of_cell? w _ hx161_0)).trans hx161_0;replace hx161_1:=(HB.out.cell (World.block_lt_of_cell? w _ hx161_1)).trans hx161_1;replace hx161_2:=(HB.out.cell (World.block_lt_of_cell? w _ hx161_2)).trans hx161_2;replace p161:=eq_true p161;replace q161:=eq_true q161))
        repeat (go_quiet (first | ((with_reducible refine gate_dst (N:=3) rfl ?_);refine box_event ?hg (N:=3) ?hd (cs:=#[.int .i64 a0_0,.slice A0_1 l0_1.length c0_1,.int .i64 a0_2]) (t:=28) ?hr ?_;(case hd=>rfl);(case hg=>rfl);(case hr=>exact za_);intro gb159 hg w15 hbox hb;have n_:=z (below_step zb_ hb)<|z (hbox)<|z ((by rw [hg];exact (below_size zb_):w.heap.size≤gb159))<|z1 ((by rw [hg];exact (below_size zb_):w.heap.size≤gb159));clear HB;obtain ⟨HB,BK159,GW159,GE159⟩:=n_;clear hb hbox hg;obtain ⟨hcz16_0,hcz16_1,hcz16_2,hfz16_0,hfz16_1,hfz16_2⟩:=zk3 BK159.out;have p160:0≤(a1:Int):=of_decide_eq_true zc_;have q160:a1<(l0_1.length:Int):=of_decide_eq_true zc_;obtain ⟨ad160,e160,hx160_0,hx160_1,hx160_2⟩:=at_T93 HR0_1.out a1 p160 q160;cases e160;replace hx160_0:=(HB.out.cell (World.block_lt_of_cell? w _ hx160_0)).trans hx160_0;replace hx160_1:=(HB.out.cell (World.block_lt_of_cell? w _ hx160_1)).trans hx160_1;replace hx160_2:=(HB.out.cell (World.block_lt_of_cell? w _ hx160_2)).trans hx160_2;replace p160:=eq_true p160;replace q160:=eq_true q160;have p161:0≤((ji12):Int):=of_decide_eq_true zc_;have q161:(ji12)<(l0_1.length:Int):=of_decide_eq_true zc_;obtain ⟨ad161,e161,hx161_0,hx161_1,hx161_2⟩:=at_T93 HR0_1.out (ji12) p161 q161;obtain rfl:ad160=ad161:=(by injection e161);replace hx161_0:=(HB.out.cell (World.block_lt_of_cell? w _ hx161_0)).trans hx161_0;replace hx161_1:=(HB.out.cell (World.block_lt_of_cell? w _ hx161_1)).trans hx161_1;replace hx161_2:=(HB.out.cell (World.block_lt_of_cell? w _ hx161_2)).trans hx161_2;replace p161:=eq_true p161;replace q161:=eq_true q161));try go_wp2_with (first | ((with_reducible refine gate_dst (N:=3) rfl ?_);refine box_event ?hg (N:=3) ?hd (cs:=#[.int .i64 a0_0,.slice A0_1 l0_1.length c0_1,.int .i64 a0_2]) (t:=28) ?hr ?_;(case hd=>rfl);(case hg=>rfl);(case hr=>exact za_);intro gb159 hg w15 hbox hb;have n_:=z (below_step zb_ hb)<|z (hbox)<|z ((by rw [hg];exact (below_size zb_):w.heap.size≤gb159))<|z1 ((by rw [hg];exact (below_size zb_):w.heap.size≤gb159));clear HB;obtain ⟨HB,BK159,GW159,GE159⟩:=n_;clear hb hbox hg;obtain ⟨hcz16_0,hcz16_1,hcz16_2,hfz16_0,hfz16_1,hfz16_2⟩:=zk3 BK159.out;have p160:0≤(a1:Int):=of_decide_eq_true zc_;have q160:a1<(l0_1.length:Int):=of_decide_eq_true zc_;obtain ⟨ad160,e160,hx160_0,hx160_1,hx160_2⟩:=at_T93 HR0_1.out a1 p160 q160;cases e160;replace hx160_0:=(HB.out.cell (World.block_lt_of_cell? w _ hx160_0)).trans hx160_0;replace hx160_1:=(HB.out.cell (World.block_lt_of_cell? w _ hx160_1)).trans hx160_1;replace hx160_2:=(HB.out.cell (World.block_lt_of_cell? w _ hx160_2)).trans hx160_2;replace p160:=eq_true p160;replace q160:=eq_true q160;have p161:0≤((ji12):Int):=of_decide_eq_true zc_;have q161:(ji12)<(l0_1.length:Int):=of_decide_eq_true zc_;obtain ⟨ad161,e161,hx161_0,hx161_1,hx161_2⟩:=at_T93 HR0_1.out (ji12) p161 q161;obtain rfl:ad160=ad161:=(by injection e161);replace hx161_0:=(HB.out.cell (World.block_lt_of_cell? w _ hx161_0)).trans hx161_0;replace hx161_1:=(HB.out.cell (World.block_lt_of_cell? w _ hx161_1)).trans hx161_1;replace hx161_2:=(HB.out.cell (World.block_lt_of_cell? w _ hx161_2)).trans hx161_2;replace p161:=eq_true p161;replace q161:=eq_true q161)))
        go_ret
        exact ⟨by first | rfl | (simp [errW_none,errW_some] <;> rfl)|(simp only [← hji12];first | rfl | (simp [errW_none,errW_some] <;> rfl))|(simp [*,errW_none,errW_some] <;> rfl),zii_⟩
       ·rw [if_neg c14] at H
        exact q3n_ H
      ·rw [if_neg c13] at H
       exact q3n_ H
     ·rw [if_neg c11] at H
      exact q3n_ H
    ·rw [if_neg c10] at H
     exact q3n_ H
def ndVisitS (ns:List S93):Nat→Int→List Bool×List Int→List Bool×List Int
 | 0,_,st=>st
 | F+1,r,st=>if r<2∨rdOf false st.1 (r - 2)=true then st else
   ((ndVisitS ns F (rd_T93 ns (r - 2)).f2 (ndVisitS ns F (rd_T93 ns (r - 2)).f1 (st.1.set (r - 2).toNat true,st.2))).1,(ndVisitS ns F (rd_T93 ns (r - 2)).f2 (ndVisitS ns F (rd_T93 ns (r - 2)).f1 (st.1.set (r - 2).toNat true,st.2))).2 ++ [r - 2])
theorem ndVisitS_seen (ns:List S93):∀ (F:Nat) (r:Int) (st:List Bool×List Int),(ndVisitS ns F r st).1.length=st.1.length:=by
 intro F
 induction F with
 | zero=>intro r st;rfl
 | succ F ih =>
  intro r st
  rw [ndVisitS]
  split
  ·rfl
  ·simp only [ih,List.length_set]
theorem ndVisitS_length (ns:List S93):∀ (F:Nat) (r:Int) (st:List Bool×List Int),(ndVisitS ns F r st).2.length+1≤st.2.length+2 ^ F:=by
 intro F
 induction F with
 | zero=>intro r st;rw [ndVisitS];simp
 | succ F ih =>
  intro r st
  rw [ndVisitS,Nat.pow_succ];have h0:0<2 ^ F:=Nat.two_pow_pos F
  split
  ·omega
  ·have h1:=ih (rd_T93 ns (r - 2)).f1 (st.1.set (r - 2).toNat true,st.2)
   have h2:=ih (rd_T93 ns (r - 2)).f2 (ndVisitS ns F (rd_T93 ns (r - 2)).f1 (st.1.set (r - 2).toNat true,st.2))
   simp only [List.length_append,List.length_singleton] at h1 h2 ⊢
   omega
theorem ndVisitS_no (ns:List S93) (F:Nat) (r:Int) (st:List Bool×List Int) (h:r<2∨rdOf false st.1 (r - 2)=true):ndVisitS ns F r st=st:=by
 cases F with
 | zero=>rfl
 | succ F=>rw [ndVisitS,if_pos h]
def ndDown (ns:List S93):Prop:=∀ i,i<ns.length→(rd_T93 ns (i:Int)).f1<2+(i:Int)∧(rd_T93 ns (i:Int)).f2<2+(i:Int)
instance (ns:List S93):Decidable (ndDown ns):=by unfold ndDown;exact inferInstance
theorem nd_at3 {w:World} {ad:Addr} {n:Nat} {xs:List (S93)} (h:Kd.C k93 w (some ad) n xs) (i:Int) (h0:0≤i) (h1:i<n):w.cell? (ad.add (i.toNat * 3))=some (.int .i64 (rd_T93 xs i).f0)∧w.cell? ⟨(ad.add (i.toNat * 3)).block,(ad.add (i.toNat * 3)).off+1,none⟩=some (.int .i64 (rd_T93 xs i).f1)∧w.cell? ⟨(ad.add (i.toNat * 3)).block,(ad.add (i.toNat * 3)).off+2,none⟩=some (.int .i64 (rd_T93 xs i).f2):=by
 obtain ⟨ad',e,h2⟩:=at_T93 h i h0 h1
 cases e
 exact h2
open Go.Proofs.Ytlnhpkjioppbiaa.Sep in
set_option maxHeartbeats 16000000 in
set_option maxRecDepth 100000 in
theorem impl_visitOrder.visit (w0:World) (n root:Int) (As Ad:Option Addr) (cs cd:Nat) (ns:List (S93)) (hr:Kd.C k93 w0 Ad ns.length ns) (hk:ndDown ns) (hl:ns.length≤40) (gs gd gv go:Nat):∀ (k:Nat) (_hk:k≤40) (r:Int) (sn:List Bool) (out:List Int) (w:World) (vo:Value) (F:List Sep.Item) (_h1:r<2+(k:Int)) (_h2:r<2+(ns.length:Int)) (_hs:sn.length=ns.length) (_ho:out.length+2 ^ k≤17592186044416) (_h:Own w0 w (Sep.Item.box gs 131 #[.slice As ns.length cs] :: Sep.Item.row Kd.bool 4 (.slice As ns.length cs) (sn) :: Sep.Item.box go 39 #[vo] :: Sep.Item.row (Kd.int .i64) 3 (vo) (out) :: Sep.Item.box gv 132 #[.func (.func 116) #[] #[.pointer (some ⟨gs,0,none⟩),.pointer (some ⟨gd,0,none⟩),.pointer (some ⟨gv,0,none⟩),.pointer (some ⟨go,0,none⟩)]] :: Sep.Item.box gd 28 #[.int .i64 n,.slice Ad ns.length cd,.int .i64 root] :: F)),
  Calls Try.prog 116 #[.int .i64 r,.pointer (some ⟨gs,0,none⟩),.pointer (some ⟨gd,0,none⟩),.pointer (some ⟨gv,0,none⟩),.pointer (some ⟨go,0,none⟩)] w fun e w'=>e = .returned (.tuple #[])∧∃ vo':Value,Own w0 w' (Sep.Item.box gs 131 #[.slice As ns.length cs] :: Sep.Item.row Kd.bool 4 (.slice As ns.length cs) ((ndVisitS ns k r (sn,out)).1) :: Sep.Item.box go 39 #[vo'] :: Sep.Item.row (Kd.int .i64) 3 (vo') ((ndVisitS ns k r (sn,out)).2) :: Sep.Item.box gv 132 #[.func (.func 116) #[] #[.pointer (some ⟨gs,0,none⟩),.pointer (some ⟨gd,0,none⟩),.pointer (some ⟨gv,0,none⟩),.pointer (some ⟨go,0,none⟩)]] :: Sep.Item.box gd 28 #[.int .i64 n,.slice Ad ns.length cd,.int .i64 root] :: F):=by
 intro k
 induction k with
 | zero =>
  intro hk40 r sn out w vo F h1 h2 hs ho h
  obtain ⟨Ao,co,rfl⟩:=h.row_slice 3 rfl;have HO:=aM h;have HS:=aM hs;have HU:=aM ho;have H2:=aM h2;clear h hs ho h2;have hr2:r<2:=by omega
  have cb:=decide_eq_true hr2;have hno:=ndVisitS_no ns 0 r (sn,out) (Or.inl hr2);rw [hno];clear hno
  go_enter Try.func116,Try.ntmps116
  go_wp2
  (try simp only [Exit.inBlock,Exit.then])
  refine bodyPost_ret (results_none rfl _ _ _) rfl ?_
  exact ⟨rfl,_,HO.out⟩
 | succ k ih =>
  intro hk40 r sn out w vo F h1 h2 hs ho h
  obtain ⟨Ao,co,rfl⟩:=h.row_slice 3 rfl;have HO:=aM h;have HS:=aM hs;have HU:=aM ho;have H2:=aM h2;clear h hs ho h2
  by_cases hr2:r<2
  ·have cb:=decide_eq_true hr2
   have hno:=ndVisitS_no ns (k+1) r (sn,out) (Or.inl hr2);rw [hno];clear hno
   go_enter Try.func116,Try.ntmps116
   go_wp2
   (try simp only [Exit.inBlock,Exit.then])
   refine bodyPost_ret (results_none rfl _ _ _) rfl ?_
   exact ⟨rfl,_,HO.out⟩
  ·have cb:=decide_eq_false hr2
   obtain ⟨q,hq⟩:∃ q:Int,q=r - 2:=⟨_,rfl⟩;have hwq:wrap64 (r - 2)=q:=by have:=H2.out;unfold wrap64;omega
   have hq0:0≤q:=by omega
   have hq1:q<(ns.length:Int):=by have:=H2.out;omega
   have hqk:q≤(k:Int):=by omega
   have p1:(0≤q)=True:=eq_true hq0;have q1:(q<(ns.length:Int))=True:=eq_true hq1;have HQS:=aM (show q<(sn.length:Int) by have:=HS.out;omega);have HQ:=aM hq;have HR2:=aM hr2;clear hq hr2 h1;obtain ⟨gsn,cs',hsv⟩:=Sep.own_row_form HO.out 1 rfl (by have:=HS.out;omega)
   injection hsv with ha hb hc
   subst ha;subst hc;clear hb;obtain ⟨ad,ead,_⟩:=at_T93 hr q hq0 hq1;subst ead;have HC:=aM hr;have IH:=aM ih;clear hr ih;obtain ⟨bs,hbs⟩:∃ b,rdOf false sn q=b:=⟨_,rfl⟩;have HB:=aM hbs;clear hbs;have HSTEP:=aM (show ndVisitS ns (k+1) r (sn,out)=if r<2∨rdOf false sn q=true then (sn,out) else ((ndVisitS ns k (rd_T93 ns q).f2 (ndVisitS ns k (rd_T93 ns q).f1 (sn.set q.toNat true,out))).1,(ndVisitS ns k (rd_T93 ns q).f2 (ndVisitS ns k (rd_T93 ns q).f1 (sn.set q.toNat true,out))).2 ++ [q]) from by rw [ndVisitS,← HQ.out])
   cases bs with
   | true =>
    have hst:=HSTEP.out;rw [if_pos (Or.inr (show rdOf false sn q=true from HB.out))] at hst;rw [hst];clear hst HSTEP
    go_enter Try.func116,Try.ntmps116
    have z_1:w.cell? ⟨gs,0,none⟩=some (.slice ((some ⟨gsn,0,none⟩)) ns.length cs):=(HO.out.cell 0 rfl 0 rfl);have z_2:w.cell? ⟨gsn,q.toNat,none⟩=some (.bool true):=(by have e:=(Sep.own_row_cell false HO.out 1 rfl q hq0 HQS.out).1;rw [HB.out] at e;exact e)
    go_wp2
    (try simp only [Exit.inBlock,Exit.then])
    refine bodyPost_ret (results_none rfl _ _ _) rfl ?_
    exact ⟨rfl,_,HO.out⟩
   | false =>
    have hst:=HSTEP.out;rw [if_neg (show ¬ (r<2∨rdOf false sn q=true) from fun hh=>hh.elim HR2.out (fun hh=>by rw [show rdOf false sn q=false from HB.out] at hh;cases hh))] at hst;rw [hst];clear hst HSTEP;obtain ⟨a0,a1,a2,hnd⟩:∃ a0 a1 a2,rd_T93 ns q=⟨a0,a1,a2⟩:=⟨_,_,_,rfl⟩;have hdn:=hk q.toNat (by omega);rw [Int.toNat_of_nonneg hq0,hnd] at hdn
    dsimp only at hdn
    rw [hnd];have HD:=aM hdn;have HND:=aM hnd;clear hdn hnd;generalize hs1:ndVisitS ns k a1 (sn.set q.toNat true,out)=s1;obtain ⟨sn1,out1⟩:=s1;generalize hs2:ndVisitS ns k a2 (sn1,out1)=s2;obtain ⟨sn2,out2⟩:=s2;have hl1:=ndVisitS_seen ns k a1 (sn.set q.toNat true,out);have hm1:=ndVisitS_length ns k a1 (sn.set q.toNat true,out);have hl2:=ndVisitS_seen ns k a2 (sn1,out1);have hm2:=ndVisitS_length ns k a2 (sn1,out1);rw [hs1] at hl1 hm1;rw [hs2] at hl2 hm2;have hu:=HU.out;rw [Nat.pow_succ] at hu
    simp only [List.length_set] at hl1
    dsimp only at hl1 hl2 hm1 hm2
    have hss:=HS.out;have HV1:=aM hs1;have HV2:=aM hs2;have HL1:=aM (show sn1.length=ns.length by omega);have HM0:=aM (show out.length+2 ^ k≤17592186044416 by omega);have HM1:=aM (show out1.length+2 ^ k≤17592186044416 by omega);have HM2:=aM (show out2.length+1≤17592186044416 by omega);clear hs1 hs2 hl1 hl2 hm1 hm2 hu hss
    go_enter Try.func116,Try.ntmps116
    have z_1:w.cell? ⟨gs,0,none⟩=some (.slice ((some ⟨gsn,0,none⟩)) ns.length cs):=(HO.out.cell 0 rfl 0 rfl);have z_2:w.cell? ⟨gsn,q.toNat,none⟩=some (.bool false):=(by have e:=(Sep.own_row_cell false HO.out 1 rfl q hq0 HQS.out).1;rw [HB.out] at e;exact e);have z_3:w.cell? ⟨gd,1,none⟩=some (.slice ((some ad)) ns.length cd):=(HO.out.cell 5 rfl 1 rfl);have z_4:w.cell? (ad.add (q.toNat * 3))=some (.int .i64 a0):=(by have e:=(nd_at3 (Kd.C_below HC.out HO.out.base) q hq0 hq1).1;rw [HND.out] at e;exact e);have z_5:w.cell? ⟨(ad.add (q.toNat * 3)).block,(ad.add (q.toNat * 3)).off+1,none⟩=some (.int .i64 a1):=(by have e:=(nd_at3 (Kd.C_below HC.out HO.out.base) q hq0 hq1).2.1;rw [HND.out] at e;exact e);have z_6:w.cell? ⟨(ad.add (q.toNat * 3)).block,(ad.add (q.toNat * 3)).off+2,none⟩=some (.int .i64 a2):=(by have e:=(nd_at3 (Kd.C_below HC.out HO.out.base) q hq0 hq1).2.2;rw [HND.out] at e;exact e)
    go_wp2_with (first | ((with_reducible refine gate_dst (N:=6) rfl ?_);refine box_event ?hg (N:=6) ?hd (cs:=#[.int .i64 0,.int .i64 0,.int .i64 0]) (t:=93) ?hr ?_;(case hd=>rfl);(case hg=>rfl);(case hr=>exact za_);intro g6 hg w_1 hbox hb;have HO_1:=aM (HO.out.add_box (T:=93) (cs:=#[.int .i64 0,.int .i64 0,.int .i64 0]) hg hbox hb);clear hg hbox hb)|((with_reducible refine gate_store (t:=93) (p:=6) (v := .tmp 21) rfl ?_);refine Sep.own_store HO_1.out 0 g6 93 _ #[.int .i64 a0,.int .i64 a1,.int .i64 a2] rfl rfl rfl 93 (.tmp 6) (.tmp 21) rfl rfl _ rfl rfl rfl (by kernel_rfl) (by simp [Value.oneCell']) ?_;intro w_2 ho;have HO_2:=aM ho;clear ho;have z_7:w_2.cell? ⟨gs,0,none⟩=some (.slice ((some ⟨gsn,0,none⟩)) ns.length cs):=(HO_2.out.cell 1 rfl 0 rfl))|((with_reducible refine gate_store (t:=4) (p:=25) (v := .const (.bool true)) rfl ?_);refine Sep.own_put_ev false HO_2.out 2 rfl q true hq0 HQS.out rfl rfl 4 (.tmp 25) (.const (.bool true)) rfl rfl rfl rfl (by kernel_rfl) ?_;intro w_3 ho;have HO_3:=aM ho;clear ho;have z_8:w_3.cell? ⟨gv,0,none⟩=some (.func (.func 116) #[] #[.pointer (some ⟨gs,0,none⟩),.pointer (some ⟨gd,0,none⟩),.pointer (some ⟨gv,0,none⟩),.pointer (some ⟨go,0,none⟩)]):=(HO_3.out.cell 5 rfl 0 rfl);have z_9:w_3.cell? ⟨g6,1,none⟩=some (.int .i64 a1):=(HO_3.out.cell 0 rfl 1 rfl))|((with_reducible refine gate_dst (N:=29) rfl ?_);refine Sep.goesCL_ (some 29) rfl rfl (f:=116) (fn:=Try.f116) Try.func116 (by kernel_rfl) rfl #[.int .i64 a1,.pointer (some ⟨gs,0,none⟩),.pointer (some ⟨gd,0,none⟩),.pointer (some ⟨gv,0,none⟩),.pointer (some ⟨go,0,none⟩)] rfl rfl ze_ ?_;refine (IH.out (by omega) a1 (((sn).set q.toNat true)) (out) _ _ (Item.box g6 93 #[.int .i64 a0,.int .i64 a1,.int .i64 a2] :: F) (by have:=HD.out;omega) (by have:=HD.out;omega) (by rw [List.length_set];exact HS.out) HM0.out ((((((HO_3.out.front 6 rfl).front 6 rfl).front 6 rfl).front 6 rfl).front 6 rfl).front 6 rfl)).mono ?_;rintro e w_4 ⟨rfl,vo1,ho⟩;rw [HV1.out] at ho;refine ⟨_,rfl,?_⟩;obtain ⟨Ao1,co1,rfl⟩:=ho.row_slice 3 rfl;have HO_4:=aM ho;clear ho;have z_10:w_4.cell? ⟨gv,0,none⟩=some (.func (.func 116) #[] #[.pointer (some ⟨gs,0,none⟩),.pointer (some ⟨gd,0,none⟩),.pointer (some ⟨gv,0,none⟩),.pointer (some ⟨go,0,none⟩)]):=(HO_4.out.cell 4 rfl 0 rfl);have z_11:w_4.cell? ⟨g6,2,none⟩=some (.int .i64 a2):=(HO_4.out.cell 6 rfl 2 rfl))|((with_reducible refine gate_dst (N:=33) rfl ?_);refine Sep.goesCL_ (some 33) rfl rfl (f:=116) (fn:=Try.f116) Try.func116 (by kernel_rfl) rfl #[.int .i64 a2,.pointer (some ⟨gs,0,none⟩),.pointer (some ⟨gd,0,none⟩),.pointer (some ⟨gv,0,none⟩),.pointer (some ⟨go,0,none⟩)] rfl rfl ze_ ?_;refine (IH.out (by omega) a2 (sn1) (out1) _ _ (Item.box g6 93 #[.int .i64 a0,.int .i64 a1,.int .i64 a2] :: F) (by have:=HD.out;omega) (by have:=HD.out;omega) HL1.out HM1.out ((((((HO_4.out.front 5 rfl).front 5 rfl).front 5 rfl).front 5 rfl).front 5 rfl).front 5 rfl)).mono ?_;rintro e w_5 ⟨rfl,vo2,ho⟩;rw [HV2.out] at ho;refine ⟨_,rfl,?_⟩;obtain ⟨Ao2,co2,rfl⟩:=ho.row_slice 3 rfl;have HO_5:=aM ho;clear ho;have z_12:w_5.cell? ⟨go,0,none⟩=some (.slice Ao2 out2.length co2):=(HO_5.out.cell 2 rfl 0 rfl))|((with_reducible refine gate_dst (N:=38) rfl ?_);at_builtin;refine Sep.own_append (Kd.int .i64) HO_5.out 3 _ (out2) 3 rfl rfl (.tmp 34) (.tmp 37) 39 (.int .i64 0) 8 rfl Try.underlying39 info3 rfl (by decide) (by omega) q [.int .i64 q] rfl rfl rfl (by have:=HM2.out;simp;omega) ?_;intro x_38 w_7 ho;obtain ⟨A_38,n_38,c_38,hn_,rfl⟩:=ho.row_seal 3 rfl;have HN_38:=aM hn_;clear hn_;have HO_7:=aM ho;clear ho)|((with_reducible refine gate_store (t:=39) (p:=4) (v := .tmp 38) rfl ?_);refine Sep.own_store HO_7.out 2 go 39 _ #[.slice A_38 n_38 c_38] rfl rfl rfl 39 (.tmp 4) (.tmp 38) rfl rfl (.slice A_38 n_38 c_38) rfl rfl rfl (by kernel_rfl) (by simp [Value.oneCell']) ?_;intro w_8 ho;have HO_8:=aM ho;clear ho))
    go_end0
    exact ⟨rfl,_,(((((((HO_8.out.front 5 rfl).front 5 rfl).front 5 rfl).front 5 rfl).front 5 rfl).front 5 rfl).front 6 rfl).tail⟩
def impl_visitOrder.f (k:Nat) (a0_0:Int) (l0_1:List (S93)) (a0_2:Int):Option (List Int):=if l0_1.length≤40∧a0_2<2+(l0_1.length:Int)∧ndDown l0_1 then some (ndVisitS l0_1 l0_1.length a0_2 (List.replicate l0_1.length false,[])).2 else none
open Go.Proofs.Ytlnhpkjioppbiaa.Sep in
set_option maxHeartbeats 16000000 in
set_option maxRecDepth 100000 in
theorem impl_visitOrder.calls (k:Nat) (a0_0:Int) (A0_1:Option Addr) (c0_1:Nat) (l0_1:List (S93)) (a0_2:Int) (r1:List Int) (w:World) (hr0_1:Kd.C k93 w A0_1 l0_1.length l0_1) (hc0_1:l0_1.length≤c0_1) (h:impl_visitOrder.f k a0_0 l0_1 a0_2=some r1) :
  Calls Try.prog 72 #[.agg #[.int .i64 a0_0,.slice A0_1 l0_1.length c0_1,.int .i64 a0_2]] w fun e w' => ∃ v0_:Value,e = .returned v0_∧Kd.R (Kd.int .i64) 3 w' w.heap.size (fun _=>True) v0_ r1∧Below w.heap.size w w':=by
 have HC:=aM hr0_1
 clear hr0_1 hc0_1
 unfold impl_visitOrder.f at h
 split at h
 ·rename_i hcc
  obtain ⟨hl,hrt,hdn⟩:=hcc;obtain rfl:=Option.some.inj h;clear h;have HL:=aM hl;have HR:=aM hrt;have HD:=aM hdn;clear hrt hdn hl
  go_enter Try.func72,Try.ntmps72
  go_wp2_with (first | ((with_reducible refine gate_dst (N:=1) rfl ?_);refine box_event ?hg (N:=1) ?hd (cs:=#[.int .i64 a0_0,.slice A0_1 l0_1.length c0_1,.int .i64 a0_2]) (t:=28) ?hr ?_;(case hd=>rfl);(case hg=>rfl);(case hr=>exact za_);intro gd hg w_1 hbox hb;have HO_1:=aM ((Sep.Own.nil w).add_box (T:=28) (cs:=#[.int .i64 a0_0,.slice A0_1 l0_1.length c0_1,.int .i64 a0_2]) hg hbox hb);clear hg hbox hb;have z_1:w_1.cell? ⟨gd,1,none⟩=some (.slice A0_1 l0_1.length c0_1):=(HO_1.out.cell 0 rfl 1 rfl))|((with_reducible refine gate_dst (N:=9) rfl ?_);refine Sep.own_make Kd.bool HO_1.out 4 rfl (N:=9) rfl 131 _ _ rfl (l0_1.length:Int) rfl rfl Try.underlying131 (.bool false) 1 info4 rfl (by decide) (by omega) false rfl (by omega) (by have:=HL.out;omega) ?_;intro x_9 w_2 ho _;rw [Int.toNat_natCast] at ho;obtain ⟨As,ms,cs,hms,rfl⟩:=ho.row_seal 0 rfl;rw [List.length_replicate] at hms;subst hms;have HO_2:=aM ho;clear ho)|((with_reducible refine gate_dst (N:=3) rfl ?_);refine box_event ?hg (N:=3) ?hd (cs:=#[.slice none 0 0]) (t:=131) ?hr ?_;(case hd=>rfl);(case hg=>rfl);(case hr=>exact za_);intro gs hg w_3 hbox hb;have HO_3:=aM (HO_2.out.add_box (T:=131) (cs:=#[.slice none 0 0]) hg hbox hb);clear hg hbox hb)|((with_reducible refine gate_store (t:=131) (p:=3) (v := .tmp 9) rfl ?_);refine Sep.own_store HO_3.out 0 gs 131 _ #[.slice As l0_1.length cs] rfl rfl rfl 131 (.tmp 3) (.tmp 9) rfl rfl (.slice As l0_1.length cs) rfl rfl rfl (by kernel_rfl) (by simp [Value.oneCell']) ?_;intro w_4 ho;have HO_4:=aM ho;clear ho)|((with_reducible refine gate_dst (N:=10) rfl ?_);refine Sep.own_lit0 (Kd.int .i64) HO_4.out 3 ?hg (N:=10) ?hd ?hr ?_;(case hd=>rfl);(case hg=>rfl);(case hr=>exact za_);intro x_10 w_5 ho _;obtain ⟨A_10,n_10,c_10,hn_,rfl⟩:=ho.row_seal 0 rfl;have HN_10:=aM hn_;clear hn_;have HO_5:=aM ho;clear ho)|((with_reducible refine gate_dst (N:=4) rfl ?_);refine box_event ?hg (N:=4) ?hd (cs:=#[.slice none 0 0]) (t:=39) ?hr ?_;(case hd=>rfl);(case hg=>rfl);(case hr=>exact za_);intro go hg w_6 hbox hb;have HO_6:=aM (HO_5.out.add_box (T:=39) (cs:=#[.slice none 0 0]) hg hbox hb);clear hg hbox hb)|((with_reducible refine gate_store (t:=39) (p:=4) (v := .tmp 10) rfl ?_);refine Sep.own_store HO_6.out 0 go 39 _ #[.slice A_10 n_10 c_10] rfl rfl rfl 39 (.tmp 4) (.tmp 10) rfl rfl (.slice A_10 n_10 c_10) rfl rfl rfl (by kernel_rfl) (by simp [Value.oneCell']) ?_;intro w_7 ho;have HO_7:=aM ho;clear ho)|((with_reducible refine gate_dst (N:=5) rfl ?_);refine box_event ?hg (N:=5) ?hd (cs:=#[.nilFunc]) (t:=132) ?hr ?_;(case hd=>rfl);(case hg=>rfl);(case hr=>exact za_);intro gv hg w_8 hbox hb;have HO_8:=aM (HO_7.out.add_box (T:=132) (cs:=#[.nilFunc]) hg hbox hb);clear hg hbox hb)|((with_reducible refine gate_store (t:=132) (p:=5) (v := .tmp 11) rfl ?_);refine Sep.own_store HO_8.out 0 gv 132 _ #[.func (.func 116) #[] #[.pointer (some ⟨gs,0,none⟩),.pointer (some ⟨gd,0,none⟩),.pointer (some ⟨gv,0,none⟩),.pointer (some ⟨go,0,none⟩)]] rfl rfl rfl 132 (.tmp 5) (.tmp 11) rfl rfl (.func (.func 116) #[] #[.pointer (some ⟨gs,0,none⟩),.pointer (some ⟨gd,0,none⟩),.pointer (some ⟨gv,0,none⟩),.pointer (some ⟨go,0,none⟩)]) rfl rfl rfl (by kernel_rfl) (by simp [Value.oneCell']) ?_;intro w_9 ho;have HO_9:=aM ho;clear ho;have z_2:w_9.cell? ⟨gv,0,none⟩=some (.func (.func 116) #[] #[.pointer (some ⟨gs,0,none⟩),.pointer (some ⟨gd,0,none⟩),.pointer (some ⟨gv,0,none⟩),.pointer (some ⟨go,0,none⟩)]):=(HO_9.out.cell 0 rfl 0 rfl);have z_3:w_9.cell? ⟨gd,2,none⟩=some (.int .i64 a0_2):=(HO_9.out.cell 5 rfl 2 rfl))|((with_reducible refine gate_dst (N:=15) rfl ?_);refine Sep.goesCL_ (some 15) rfl rfl (f:=116) (fn:=Try.f116) Try.func116 (by kernel_rfl) rfl #[.int .i64 a0_2,.pointer (some ⟨gs,0,none⟩),.pointer (some ⟨gd,0,none⟩),.pointer (some ⟨gv,0,none⟩),.pointer (some ⟨go,0,none⟩)] rfl rfl ze_ ?_;refine (impl_visitOrder.visit w a0_0 a0_2 _ _ _ _ l0_1 HC.out HD.out HL.out gs gd gv go l0_1.length HL.out a0_2 (List.replicate l0_1.length false) [] _ _ [] HR.out HR.out (List.length_replicate ..) (by rw [List.length_nil,Nat.zero_add];exact Nat.le_trans (Nat.pow_le_pow_right (by decide) HL.out) (by decide)) ((((((HO_9.out.front 5 rfl).front 1 rfl).front 3 rfl).front 3 rfl).front 5 rfl).front 5 rfl)).mono ?_;rintro e w_10 ⟨rfl,vo1,ho⟩;refine ⟨_,rfl,?_⟩;have HO_10:=aM ho;clear ho;have z_4:w_10.cell? ⟨go,0,none⟩=some (vo1):=(HO_10.out.cell 2 rfl 0 rfl)))
  go_ret
  obtain ⟨P_,hP⟩:=HO_10.out.get 3 rfl
  exact ⟨_,rfl,Kd.R_mono hP (fun _ _=>trivial),HO_10.out.base⟩
 ·cases h
end Go.Proofs.Ytlnhpkjioppbiaa.QFnDiagramOrders
