/- Functions of FnDiagrams, each as a Lean function, with the proof that the Go code comes to its answers. -/
import Derived.Test.YtlnhpkjioppbiaaDoorSFnDiagramsx2
import Derived.Test.YtlnhpkjioppbiaaDoorSFnDiagramsx5
namespace Go.Proofs.YtlnhpkjioppbiaaDoor.QFnDiagrams
open Go.RowKit Go.Proofs.YtlnhpkjioppbiaaDoorW.PrintWords Go.Proofs.YtlnhpkjioppbiaaDoorW.PrintLast Go.Proofs.YtlnhpkjioppbiaaDoorW.PrintMore
open Go.Proofs.YtlnhpkjioppbiaaDoorW.PrintWords renaming pw_below_drewN→pN,below_drew1→p1,below_alloc→pA
open Go.Proofs.YtlnhpkjioppbiaaDoorW.PrintWords.Kd renaming R_alloc→kA,R_drewN→kN,R_drew→kD,Q_alloc→qA,Q_drewN→qN,Q_drew→qD,C_alloc→cA,C_drewN→cN,C_drew→cD
open Go.Proofs.YtlnhpkjioppbiaaDoorW.PrintWords.Aside0 renaming mk→aM
open List renaming setIfInBounds_toArray→sI,set_cons_zero→s0,set_cons_succ→sS,map_toArray→mT,length_take→lT,length_drop→lD,map_cons→mC,map_nil→mN
attribute [local go_sem] max2_int min2_int max_two min_two max_three min_three max_four min_four
set_option linter.unusedVariables false
set_option linter.unusedSimpArgs false
open Option renaming bind_eq_some_iff→oB
set_option maxHeartbeats 8000000
set_option maxRecDepth 100000
attribute [local go_sem high] eqA70
open Option renaming bind_some→oS
def ndVisitS (ns:List S70):Nat→Int→List Bool×List Int→List Bool×List Int
 | 0,_,st=>st
 | F+1,r,st=>if r<2∨rdOf false st.1 (r - 2)=true then st else
   ((ndVisitS ns F (rd_T70 ns (r - 2)).f2 (ndVisitS ns F (rd_T70 ns (r - 2)).f1 (st.1.set (r - 2).toNat true,st.2))).1,(ndVisitS ns F (rd_T70 ns (r - 2)).f2 (ndVisitS ns F (rd_T70 ns (r - 2)).f1 (st.1.set (r - 2).toNat true,st.2))).2 ++ [r - 2])
theorem ndVisitS_seen (ns:List S70):∀ (F:Nat) (r:Int) (st:List Bool×List Int),(ndVisitS ns F r st).1.length=st.1.length:=by
 intro F
 induction F with
 | zero=>intro r st;rfl
 | succ F ih =>
  intro r st
  rw [ndVisitS]
  split
  ·rfl
  ·simp only [ih,List.length_set]
theorem ndVisitS_length (ns:List S70):∀ (F:Nat) (r:Int) (st:List Bool×List Int),(ndVisitS ns F r st).2.length+1≤st.2.length+2 ^ F:=by
 intro F
 induction F with
 | zero=>intro r st;rw [ndVisitS];simp
 | succ F ih =>
  intro r st
  rw [ndVisitS,Nat.pow_succ];have h0:0<2 ^ F:=Nat.two_pow_pos F
  split
  ·omega
  ·have h1:=ih (rd_T70 ns (r - 2)).f1 (st.1.set (r - 2).toNat true,st.2)
   have h2:=ih (rd_T70 ns (r - 2)).f2 (ndVisitS ns F (rd_T70 ns (r - 2)).f1 (st.1.set (r - 2).toNat true,st.2))
   simp only [List.length_append,List.length_singleton] at h1 h2 ⊢
   omega
theorem ndVisitS_no (ns:List S70) (F:Nat) (r:Int) (st:List Bool×List Int) (h:r<2∨rdOf false st.1 (r - 2)=true):ndVisitS ns F r st=st:=by
 cases F with
 | zero=>rfl
 | succ F=>rw [ndVisitS,if_pos h]
def ndDown (ns:List S70):Prop:=∀ i,i<ns.length→(rd_T70 ns (i:Int)).f1<2+(i:Int)∧(rd_T70 ns (i:Int)).f2<2+(i:Int)
instance (ns:List S70):Decidable (ndDown ns):=by unfold ndDown;exact inferInstance
theorem nd_at3 {w:World} {ad:Addr} {n:Nat} {xs:List (S70)} (h:Kd.C k70 w (some ad) n xs) (i:Int) (h0:0≤i) (h1:i<n):w.cell? (ad.add (i.toNat * 3))=some (.int .i64 (rd_T70 xs i).f0)∧w.cell? ⟨(ad.add (i.toNat * 3)).block,(ad.add (i.toNat * 3)).off+1,none⟩=some (.int .i64 (rd_T70 xs i).f1)∧w.cell? ⟨(ad.add (i.toNat * 3)).block,(ad.add (i.toNat * 3)).off+2,none⟩=some (.int .i64 (rd_T70 xs i).f2):=by
 obtain ⟨ad',e,h2⟩:=at_T70 h i h0 h1
 cases e
 exact h2
open Go.Proofs.YtlnhpkjioppbiaaDoor.Sep in
set_option maxHeartbeats 16000000 in
set_option maxRecDepth 100000 in
theorem impl_visitOrder.visit (w0:World) (n root:Int) (As Ad:Option Addr) (cs cd:Nat) (ns:List (S70)) (hr:Kd.C k70 w0 Ad ns.length ns) (hk:ndDown ns) (hl:ns.length≤40) (gs gd gv go:Nat):∀ (k:Nat) (_hk:k≤40) (r:Int) (sn:List Bool) (out:List Int) (w:World) (vo:Value) (F:List Sep.Item) (_h1:r<2+(k:Int)) (_h2:r<2+(ns.length:Int)) (_hs:sn.length=ns.length) (_ho:out.length+2 ^ k≤17592186044416) (_h:Own w0 w (Sep.Item.box gs 98 #[.slice As ns.length cs] :: Sep.Item.row Kd.bool 4 (.slice As ns.length cs) (sn) :: Sep.Item.box go 24 #[vo] :: Sep.Item.row (Kd.int .i64) 3 (vo) (out) :: Sep.Item.box gv 99 #[.func (.func 88) #[] #[.pointer (some ⟨gs,0,none⟩),.pointer (some ⟨gd,0,none⟩),.pointer (some ⟨gv,0,none⟩),.pointer (some ⟨go,0,none⟩)]] :: Sep.Item.box gd 30 #[.int .i64 n,.slice Ad ns.length cd,.int .i64 root] :: F)),
  Calls Tryd.prog 88 #[.int .i64 r,.pointer (some ⟨gs,0,none⟩),.pointer (some ⟨gd,0,none⟩),.pointer (some ⟨gv,0,none⟩),.pointer (some ⟨go,0,none⟩)] w fun e w'=>e = .returned (.tuple #[])∧∃ vo':Value,Own w0 w' (Sep.Item.box gs 98 #[.slice As ns.length cs] :: Sep.Item.row Kd.bool 4 (.slice As ns.length cs) ((ndVisitS ns k r (sn,out)).1) :: Sep.Item.box go 24 #[vo'] :: Sep.Item.row (Kd.int .i64) 3 (vo') ((ndVisitS ns k r (sn,out)).2) :: Sep.Item.box gv 99 #[.func (.func 88) #[] #[.pointer (some ⟨gs,0,none⟩),.pointer (some ⟨gd,0,none⟩),.pointer (some ⟨gv,0,none⟩),.pointer (some ⟨go,0,none⟩)]] :: Sep.Item.box gd 30 #[.int .i64 n,.slice Ad ns.length cd,.int .i64 root] :: F):=by
 intro k
 induction k with
 | zero =>
  intro hk40 r sn out w vo F h1 h2 hs ho h
  obtain ⟨Ao,co,rfl⟩:=h.row_slice 3 rfl;have HO:=aM h;have HS:=aM hs;have HU:=aM ho;have H2:=aM h2;clear h hs ho h2;have hr2:r<2:=by omega
  have cb:=decide_eq_true hr2;have hno:=ndVisitS_no ns 0 r (sn,out) (Or.inl hr2);rw [hno];clear hno
  go_enter Tryd.func88,Tryd.ntmps88
  go_wp2
  (try simp only [Exit.inBlock,Exit.then])
  refine bodyPost_ret (results_none rfl _ _ _) rfl ?_
  exact ⟨rfl,_,HO.out⟩
 | succ k ih =>
  intro hk40 r sn out w vo F h1 h2 hs ho h
  obtain ⟨Ao,co,rfl⟩:=h.row_slice 3 rfl;have HO:=aM h;have HS:=aM hs;have HU:=aM ho;have H2:=aM h2;clear h hs ho h2
  by_cases hr2:r<2
  ·have cb:=decide_eq_true hr2
   have hno:=ndVisitS_no ns (k+1) r (sn,out) (Or.inl hr2);rw [hno];clear hno
   go_enter Tryd.func88,Tryd.ntmps88
   go_wp2
   (try simp only [Exit.inBlock,Exit.then])
   refine bodyPost_ret (results_none rfl _ _ _) rfl ?_
   exact ⟨rfl,_,HO.out⟩
  ·have cb:=decide_eq_false hr2
   obtain ⟨q,hq⟩:∃ q:Int,q=r - 2:=⟨_,rfl⟩;have hwq:wrap64 (r - 2)=q:=by have:=H2.out;unfold wrap64;omega
   have hq0:0≤q:=by omega
   have hq1:q<(ns.length:Int):=by have:=H2.out;omega
   have hqk:q≤(k:Int):=by omega
   have p1:(0≤q)=True:=eq_true hq0;have q1:(q<(ns.length:Int))=True:=eq_true hq1;have HQS:=aM (show q<(sn.length:Int) by have:=HS.out;omega);have HQ:=aM hq;have HR2:=aM hr2;clear hq hr2 h1;obtain ⟨gsn,cs',hsv⟩:=Sep.own_row_form HO.out 1 rfl (by have:=HS.out;omega)
   injection hsv with ha hb hc
   subst ha;subst hc;clear hb;obtain ⟨ad,ead,_⟩:=at_T70 hr q hq0 hq1;subst ead;have HC:=aM hr;have IH:=aM ih;clear hr ih;obtain ⟨bs,hbs⟩:∃ b,rdOf false sn q=b:=⟨_,rfl⟩;have HB:=aM hbs;clear hbs;have HSTEP:=aM (show ndVisitS ns (k+1) r (sn,out)=if r<2∨rdOf false sn q=true then (sn,out) else ((ndVisitS ns k (rd_T70 ns q).f2 (ndVisitS ns k (rd_T70 ns q).f1 (sn.set q.toNat true,out))).1,(ndVisitS ns k (rd_T70 ns q).f2 (ndVisitS ns k (rd_T70 ns q).f1 (sn.set q.toNat true,out))).2 ++ [q]) from by rw [ndVisitS,← HQ.out])
   cases bs with
   | true =>
    have hst:=HSTEP.out;rw [if_pos (Or.inr (show rdOf false sn q=true from HB.out))] at hst;rw [hst];clear hst HSTEP
    go_enter Tryd.func88,Tryd.ntmps88
    have z_1:w.cell? ⟨gs,0,none⟩=some (.slice ((some ⟨gsn,0,none⟩)) ns.length cs):=(HO.out.cell 0 rfl 0 rfl);have z_2:w.cell? ⟨gsn,q.toNat,none⟩=some (.bool true):=(by have e:=(Sep.own_row_cell false HO.out 1 rfl q hq0 HQS.out).1;rw [HB.out] at e;exact e)
    go_wp2
    (try simp only [Exit.inBlock,Exit.then])
    refine bodyPost_ret (results_none rfl _ _ _) rfl ?_
    exact ⟨rfl,_,HO.out⟩
   | false =>
    have hst:=HSTEP.out;rw [if_neg (show ¬ (r<2∨rdOf false sn q=true) from fun hh=>hh.elim HR2.out (fun hh=>by rw [show rdOf false sn q=false from HB.out] at hh;cases hh))] at hst;rw [hst];clear hst HSTEP;obtain ⟨a0,a1,a2,hnd⟩:∃ a0 a1 a2,rd_T70 ns q=⟨a0,a1,a2⟩:=⟨_,_,_,rfl⟩;have hdn:=hk q.toNat (by omega);rw [Int.toNat_of_nonneg hq0,hnd] at hdn
    dsimp only at hdn
    rw [hnd];have HD:=aM hdn;have HND:=aM hnd;clear hdn hnd;generalize hs1:ndVisitS ns k a1 (sn.set q.toNat true,out)=s1;obtain ⟨sn1,out1⟩:=s1;generalize hs2:ndVisitS ns k a2 (sn1,out1)=s2;obtain ⟨sn2,out2⟩:=s2;have hl1:=ndVisitS_seen ns k a1 (sn.set q.toNat true,out);have hm1:=ndVisitS_length ns k a1 (sn.set q.toNat true,out);have hl2:=ndVisitS_seen ns k a2 (sn1,out1);have hm2:=ndVisitS_length ns k a2 (sn1,out1);rw [hs1] at hl1 hm1;rw [hs2] at hl2 hm2;have hu:=HU.out;rw [Nat.pow_succ] at hu
    simp only [List.length_set] at hl1
    dsimp only at hl1 hl2 hm1 hm2
    have hss:=HS.out;have HV1:=aM hs1;have HV2:=aM hs2;have HL1:=aM (show sn1.length=ns.length by omega);have HM0:=aM (show out.length+2 ^ k≤17592186044416 by omega);have HM1:=aM (show out1.length+2 ^ k≤17592186044416 by omega);have HM2:=aM (show out2.length+1≤17592186044416 by omega);clear hs1 hs2 hl1 hl2 hm1 hm2 hu hss
    go_enter Tryd.func88,Tryd.ntmps88
    have z_1:w.cell? ⟨gs,0,none⟩=some (.slice ((some ⟨gsn,0,none⟩)) ns.length cs):=(HO.out.cell 0 rfl 0 rfl);have z_2:w.cell? ⟨gsn,q.toNat,none⟩=some (.bool false):=(by have e:=(Sep.own_row_cell false HO.out 1 rfl q hq0 HQS.out).1;rw [HB.out] at e;exact e);have z_3:w.cell? ⟨gd,1,none⟩=some (.slice ((some ad)) ns.length cd):=(HO.out.cell 5 rfl 1 rfl);have z_4:w.cell? (ad.add (q.toNat * 3))=some (.int .i64 a0):=(by have e:=(nd_at3 (Kd.C_below HC.out HO.out.base) q hq0 hq1).1;rw [HND.out] at e;exact e);have z_5:w.cell? ⟨(ad.add (q.toNat * 3)).block,(ad.add (q.toNat * 3)).off+1,none⟩=some (.int .i64 a1):=(by have e:=(nd_at3 (Kd.C_below HC.out HO.out.base) q hq0 hq1).2.1;rw [HND.out] at e;exact e);have z_6:w.cell? ⟨(ad.add (q.toNat * 3)).block,(ad.add (q.toNat * 3)).off+2,none⟩=some (.int .i64 a2):=(by have e:=(nd_at3 (Kd.C_below HC.out HO.out.base) q hq0 hq1).2.2;rw [HND.out] at e;exact e)
    go_wp2_with (first | ((with_reducible refine gate_dst (N:=6) rfl ?_);refine box_event ?hg (N:=6) ?hd (cs:=#[.int .i64 0,.int .i64 0,.int .i64 0]) (t:=70) ?hr ?_;(case hd=>rfl);(case hg=>rfl);(case hr=>exact zb_);intro g6 hg w_1 hbox hb;have HO_1:=aM (HO.out.add_box (T:=70) (cs:=#[.int .i64 0,.int .i64 0,.int .i64 0]) hg hbox hb);clear hg hbox hb)|((with_reducible refine gate_store (t:=70) (p:=6) (v := .tmp 21) rfl ?_);refine Sep.own_store HO_1.out 0 g6 70 _ #[.int .i64 a0,.int .i64 a1,.int .i64 a2] rfl rfl rfl 70 (.tmp 6) (.tmp 21) rfl rfl _ rfl rfl rfl (by kernel_rfl) (by simp [Value.oneCell']) ?_;intro w_2 ho;have HO_2:=aM ho;clear ho;have z_7:w_2.cell? ⟨gs,0,none⟩=some (.slice ((some ⟨gsn,0,none⟩)) ns.length cs):=(HO_2.out.cell 1 rfl 0 rfl))|((with_reducible refine gate_store (t:=4) (p:=25) (v := .const (.bool true)) rfl ?_);refine Sep.own_put_ev false HO_2.out 2 rfl q true hq0 HQS.out rfl rfl 4 (.tmp 25) (.const (.bool true)) rfl rfl rfl rfl (by kernel_rfl) ?_;intro w_3 ho;have HO_3:=aM ho;clear ho;have z_8:w_3.cell? ⟨gv,0,none⟩=some (.func (.func 88) #[] #[.pointer (some ⟨gs,0,none⟩),.pointer (some ⟨gd,0,none⟩),.pointer (some ⟨gv,0,none⟩),.pointer (some ⟨go,0,none⟩)]):=(HO_3.out.cell 5 rfl 0 rfl);have z_9:w_3.cell? ⟨g6,1,none⟩=some (.int .i64 a1):=(HO_3.out.cell 0 rfl 1 rfl))|((with_reducible refine gate_dst (N:=29) rfl ?_);refine Sep.goesCL_ (some 29) rfl rfl (f:=88) (fn:=Tryd.f88) Tryd.func88 (by kernel_rfl) rfl #[.int .i64 a1,.pointer (some ⟨gs,0,none⟩),.pointer (some ⟨gd,0,none⟩),.pointer (some ⟨gv,0,none⟩),.pointer (some ⟨go,0,none⟩)] rfl rfl zbc_ ?_;refine (IH.out (by omega) a1 (((sn).set q.toNat true)) (out) _ _ (Item.box g6 70 #[.int .i64 a0,.int .i64 a1,.int .i64 a2] :: F) (by have:=HD.out;omega) (by have:=HD.out;omega) (by rw [List.length_set];exact HS.out) HM0.out ((((((HO_3.out.front 6 rfl).front 6 rfl).front 6 rfl).front 6 rfl).front 6 rfl).front 6 rfl)).mono ?_;rintro e w_4 ⟨rfl,vo1,ho⟩;rw [HV1.out] at ho;refine ⟨_,rfl,?_⟩;obtain ⟨Ao1,co1,rfl⟩:=ho.row_slice 3 rfl;have HO_4:=aM ho;clear ho;have z_10:w_4.cell? ⟨gv,0,none⟩=some (.func (.func 88) #[] #[.pointer (some ⟨gs,0,none⟩),.pointer (some ⟨gd,0,none⟩),.pointer (some ⟨gv,0,none⟩),.pointer (some ⟨go,0,none⟩)]):=(HO_4.out.cell 4 rfl 0 rfl);have z_11:w_4.cell? ⟨g6,2,none⟩=some (.int .i64 a2):=(HO_4.out.cell 6 rfl 2 rfl))|((with_reducible refine gate_dst (N:=33) rfl ?_);refine Sep.goesCL_ (some 33) rfl rfl (f:=88) (fn:=Tryd.f88) Tryd.func88 (by kernel_rfl) rfl #[.int .i64 a2,.pointer (some ⟨gs,0,none⟩),.pointer (some ⟨gd,0,none⟩),.pointer (some ⟨gv,0,none⟩),.pointer (some ⟨go,0,none⟩)] rfl rfl zbc_ ?_;refine (IH.out (by omega) a2 (sn1) (out1) _ _ (Item.box g6 70 #[.int .i64 a0,.int .i64 a1,.int .i64 a2] :: F) (by have:=HD.out;omega) (by have:=HD.out;omega) HL1.out HM1.out ((((((HO_4.out.front 5 rfl).front 5 rfl).front 5 rfl).front 5 rfl).front 5 rfl).front 5 rfl)).mono ?_;rintro e w_5 ⟨rfl,vo2,ho⟩;rw [HV2.out] at ho;refine ⟨_,rfl,?_⟩;obtain ⟨Ao2,co2,rfl⟩:=ho.row_slice 3 rfl;have HO_5:=aM ho;clear ho;have z_12:w_5.cell? ⟨go,0,none⟩=some (.slice Ao2 out2.length co2):=(HO_5.out.cell 2 rfl 0 rfl))|((with_reducible refine gate_dst (N:=38) rfl ?_);at_builtin;refine Sep.own_append (Kd.int .i64) HO_5.out 3 _ (out2) 3 rfl rfl (.tmp 34) (.tmp 37) 24 (.int .i64 0) 8 rfl Tryd.underlying24 info3 rfl (by decide) (by omega) q [.int .i64 q] rfl rfl rfl (by have:=HM2.out;simp;omega) ?_;intro x_38 w_7 ho;obtain ⟨A_38,n_38,c_38,hn_,rfl⟩:=ho.row_seal 3 rfl;have HN_38:=aM hn_;clear hn_;have HO_7:=aM ho;clear ho)|((with_reducible refine gate_store (t:=24) (p:=4) (v := .tmp 38) rfl ?_);refine Sep.own_store HO_7.out 2 go 24 _ #[.slice A_38 n_38 c_38] rfl rfl rfl 24 (.tmp 4) (.tmp 38) rfl rfl (.slice A_38 n_38 c_38) rfl rfl rfl (by kernel_rfl) (by simp [Value.oneCell']) ?_;intro w_8 ho;have HO_8:=aM ho;clear ho))
    go_end0
    exact ⟨rfl,_,(((((((HO_8.out.front 5 rfl).front 5 rfl).front 5 rfl).front 5 rfl).front 5 rfl).front 5 rfl).front 6 rfl).tail⟩
def impl_visitOrder.f (k:Nat) (a0_0:Int) (l0_1:List (S70)) (a0_2:Int):Option (List Int):=if l0_1.length≤40∧a0_2<2+(l0_1.length:Int)∧ndDown l0_1 then some (ndVisitS l0_1 l0_1.length a0_2 (List.replicate l0_1.length false,[])).2 else none
open Go.Proofs.YtlnhpkjioppbiaaDoor.Sep in
set_option maxHeartbeats 16000000 in
set_option maxRecDepth 100000 in
theorem impl_visitOrder.calls (k:Nat) (a0_0:Int) (A0_1:Option Addr) (c0_1:Nat) (l0_1:List (S70)) (a0_2:Int) (r1:List Int) (w:World) (hr0_1:Kd.C k70 w A0_1 l0_1.length l0_1) (hc0_1:l0_1.length≤c0_1) (h:impl_visitOrder.f k a0_0 l0_1 a0_2=some r1) :
  Calls Tryd.prog 56 #[.agg #[.int .i64 a0_0,.slice A0_1 l0_1.length c0_1,.int .i64 a0_2]] w fun e w' => ∃ v0_:Value,e = .returned v0_∧Kd.R (Kd.int .i64) 3 w' w.heap.size (fun _=>True) v0_ r1∧Below w.heap.size w w':=by
 have HC:=aM hr0_1
 clear hr0_1 hc0_1
 unfold impl_visitOrder.f at h
 split at h
 ·rename_i hcc
  obtain ⟨hl,hrt,hdn⟩:=hcc;obtain rfl:=Option.some.inj h;clear h;have HL:=aM hl;have HR:=aM hrt;have HD:=aM hdn;clear hrt hdn hl
  go_enter Tryd.func56,Tryd.ntmps56
  go_wp2_with (first | ((with_reducible refine gate_dst (N:=1) rfl ?_);refine box_event ?hg (N:=1) ?hd (cs:=#[.int .i64 a0_0,.slice A0_1 l0_1.length c0_1,.int .i64 a0_2]) (t:=30) ?hr ?_;(case hd=>rfl);(case hg=>rfl);(case hr=>exact zb_);intro gd hg w_1 hbox hb;have HO_1:=aM ((Sep.Own.nil w).add_box (T:=30) (cs:=#[.int .i64 a0_0,.slice A0_1 l0_1.length c0_1,.int .i64 a0_2]) hg hbox hb);clear hg hbox hb;have z_1:w_1.cell? ⟨gd,1,none⟩=some (.slice A0_1 l0_1.length c0_1):=(HO_1.out.cell 0 rfl 1 rfl))|((with_reducible refine gate_dst (N:=9) rfl ?_);refine Sep.own_make Kd.bool HO_1.out 4 rfl (N:=9) rfl 98 _ _ rfl (l0_1.length:Int) rfl rfl Tryd.underlying98 (.bool false) 1 info4 rfl (by decide) (by omega) false rfl (by omega) (by have:=HL.out;omega) ?_;intro x_9 w_2 ho _;rw [Int.toNat_natCast] at ho;obtain ⟨As,ms,cs,hms,rfl⟩:=ho.row_seal 0 rfl;rw [List.length_replicate] at hms;subst hms;have HO_2:=aM ho;clear ho)|((with_reducible refine gate_dst (N:=3) rfl ?_);refine box_event ?hg (N:=3) ?hd (cs:=#[.slice none 0 0]) (t:=98) ?hr ?_;(case hd=>rfl);(case hg=>rfl);(case hr=>exact zb_);intro gs hg w_3 hbox hb;have HO_3:=aM (HO_2.out.add_box (T:=98) (cs:=#[.slice none 0 0]) hg hbox hb);clear hg hbox hb)|((with_reducible refine gate_store (t:=98) (p:=3) (v := .tmp 9) rfl ?_);refine Sep.own_store HO_3.out 0 gs 98 _ #[.slice As l0_1.length cs] rfl rfl rfl 98 (.tmp 3) (.tmp 9) rfl rfl (.slice As l0_1.length cs) rfl rfl rfl (by kernel_rfl) (by simp [Value.oneCell']) ?_;intro w_4 ho;have HO_4:=aM ho;clear ho)|((with_reducible refine gate_dst (N:=10) rfl ?_);refine Sep.own_lit0 (Kd.int .i64) HO_4.out 3 ?hg (N:=10) ?hd ?hr ?_;(case hd=>rfl);(case hg=>rfl);(case hr=>exact zb_);intro x_10 w_5 ho _;obtain ⟨A_10,n_10,c_10,hn_,rfl⟩:=ho.row_seal 0 rfl;have HN_10:=aM hn_;clear hn_;have HO_5:=aM ho;clear ho)|((with_reducible refine gate_dst (N:=4) rfl ?_);refine box_event ?hg (N:=4) ?hd (cs:=#[.slice none 0 0]) (t:=24) ?hr ?_;(case hd=>rfl);(case hg=>rfl);(case hr=>exact zb_);intro go hg w_6 hbox hb;have HO_6:=aM (HO_5.out.add_box (T:=24) (cs:=#[.slice none 0 0]) hg hbox hb);clear hg hbox hb)|((with_reducible refine gate_store (t:=24) (p:=4) (v := .tmp 10) rfl ?_);refine Sep.own_store HO_6.out 0 go 24 _ #[.slice A_10 n_10 c_10] rfl rfl rfl 24 (.tmp 4) (.tmp 10) rfl rfl (.slice A_10 n_10 c_10) rfl rfl rfl (by kernel_rfl) (by simp [Value.oneCell']) ?_;intro w_7 ho;have HO_7:=aM ho;clear ho)|((with_reducible refine gate_dst (N:=5) rfl ?_);refine box_event ?hg (N:=5) ?hd (cs:=#[.nilFunc]) (t:=99) ?hr ?_;(case hd=>rfl);(case hg=>rfl);(case hr=>exact zb_);intro gv hg w_8 hbox hb;have HO_8:=aM (HO_7.out.add_box (T:=99) (cs:=#[.nilFunc]) hg hbox hb);clear hg hbox hb)|((with_reducible refine gate_store (t:=99) (p:=5) (v := .tmp 11) rfl ?_);refine Sep.own_store HO_8.out 0 gv 99 _ #[.func (.func 88) #[] #[.pointer (some ⟨gs,0,none⟩),.pointer (some ⟨gd,0,none⟩),.pointer (some ⟨gv,0,none⟩),.pointer (some ⟨go,0,none⟩)]] rfl rfl rfl 99 (.tmp 5) (.tmp 11) rfl rfl (.func (.func 88) #[] #[.pointer (some ⟨gs,0,none⟩),.pointer (some ⟨gd,0,none⟩),.pointer (some ⟨gv,0,none⟩),.pointer (some ⟨go,0,none⟩)]) rfl rfl rfl (by kernel_rfl) (by simp [Value.oneCell']) ?_;intro w_9 ho;have HO_9:=aM ho;clear ho;have z_2:w_9.cell? ⟨gv,0,none⟩=some (.func (.func 88) #[] #[.pointer (some ⟨gs,0,none⟩),.pointer (some ⟨gd,0,none⟩),.pointer (some ⟨gv,0,none⟩),.pointer (some ⟨go,0,none⟩)]):=(HO_9.out.cell 0 rfl 0 rfl);have z_3:w_9.cell? ⟨gd,2,none⟩=some (.int .i64 a0_2):=(HO_9.out.cell 5 rfl 2 rfl))|((with_reducible refine gate_dst (N:=15) rfl ?_);refine Sep.goesCL_ (some 15) rfl rfl (f:=88) (fn:=Tryd.f88) Tryd.func88 (by kernel_rfl) rfl #[.int .i64 a0_2,.pointer (some ⟨gs,0,none⟩),.pointer (some ⟨gd,0,none⟩),.pointer (some ⟨gv,0,none⟩),.pointer (some ⟨go,0,none⟩)] rfl rfl zbc_ ?_;refine (impl_visitOrder.visit w a0_0 a0_2 _ _ _ _ l0_1 HC.out HD.out HL.out gs gd gv go l0_1.length HL.out a0_2 (List.replicate l0_1.length false) [] _ _ [] HR.out HR.out (List.length_replicate ..) (by rw [List.length_nil,Nat.zero_add];exact Nat.le_trans (Nat.pow_le_pow_right (by decide) HL.out) (by decide)) ((((((HO_9.out.front 5 rfl).front 1 rfl).front 3 rfl).front 3 rfl).front 5 rfl).front 5 rfl)).mono ?_;rintro e w_10 ⟨rfl,vo1,ho⟩;refine ⟨_,rfl,?_⟩;have HO_10:=aM ho;clear ho;have z_4:w_10.cell? ⟨go,0,none⟩=some (vo1):=(HO_10.out.cell 2 rfl 0 rfl)))
  go_ret
  obtain ⟨P_,hP⟩:=HO_10.out.get 3 rfl
  exact ⟨_,rfl,Kd.R_mono hP (fun _ _=>trivial),HO_10.out.base⟩
 ·cases h
mutual
def impl_IsDiagram.j0:Nat→Bool→Int→List (S70)→Int→Option (Bool)
 | 0,_,_,_,_=>none
 | k+1,x36,x223000,x223001,x223002=>if x36=true then (some false) else (impl_IsDiagram.l0 k x223001 (x223001.length:Int) 0 x223000 x223001 x223002)
def impl_IsDiagram.l0:Nat→List (S70)→Int→Int→Int→List (S70)→Int→Option (Bool)
 | 0,_,_,_,_,_,_=>none
 | k+1,x38,x39,x40,x223000,x223001,x223002=>if x40<x39 then (if 0≤x40 then (if x40<(x38.length:Int) then (if ((rd_T70 x38 x40).f0)<0 then (impl_IsDiagram.j2 k x40 x38 x39 x40 true x223000 x223001 x223002 ((rd_T70 x38 x40).f0) ((rd_T70 x38 x40).f1) ((rd_T70 x38 x40).f2)) else (if ((rd_T70 x38 x40).f0)≥x223000 then (impl_IsDiagram.j2 k x40 x38 x39 x40 true x223000 x223001 x223002 ((rd_T70 x38 x40).f0) ((rd_T70 x38 x40).f1) ((rd_T70 x38 x40).f2)) else (if ((rd_T70 x38 x40).f1)=((rd_T70 x38 x40).f2) then (impl_IsDiagram.j2 k x40 x38 x39 x40 true x223000 x223001 x223002 ((rd_T70 x38 x40).f0) ((rd_T70 x38 x40).f1) ((rd_T70 x38 x40).f2)) else ((impl_goodReference.f x223000 x223001 x223002 x40 ((rd_T70 x38 x40).f1)).bind fun t225=>(if t225=true then ((impl_goodReference.f x223000 x223001 x223002 x40 ((rd_T70 x38 x40).f2)).bind fun t226=>(impl_IsDiagram.j2 k x40 x38 x39 x40 (!t226) x223000 x223001 x223002 ((rd_T70 x38 x40).f0) ((rd_T70 x38 x40).f1) ((rd_T70 x38 x40).f2))) else (impl_IsDiagram.j2 k x40 x38 x39 x40 true x223000 x223001 x223002 ((rd_T70 x38 x40).f0) ((rd_T70 x38 x40).f1) ((rd_T70 x38 x40).f2))))))) else (none)) else (none)) else ((impl_visitOrder.f k x223000 x223001 x223002).bind fun t228=>(if (t228.length:Int)=(x223001.length:Int) then (impl_IsDiagram.l2 k t228 (t228.length:Int) 0) else (some false)))
def impl_IsDiagram.j2:Nat→Int→List (S70)→Int→Int→Bool→Int→List (S70)→Int→Int→Int→Int→Option (Bool)
 | 0,_,_,_,_,_,_,_,_,_,_,_=>none
 | k+1,x3,x38,x39,x40,x77,x223000,x223001,x223002,x225000,x225001,x225002=>if x77=true then (some false) else (impl_IsDiagram.l1 k x3 0 x38 x39 x40 x223000 x223001 x223002 x225000 x225001 x225002)
def impl_IsDiagram.l1:Nat→Int→Int→List (S70)→Int→Int→Int→List (S70)→Int→Int→Int→Int→Option (Bool)
 | 0,_,_,_,_,_,_,_,_,_,_,_=>none
 | k+1,x3,x5,x38,x39,x40,x223000,x223001,x223002,x225000,x225001,x225002=>if x5<x3 then (if 0≤x5 then (if x5<(x223001.length:Int) then (if (((rd_T70 x223001 x5).f0) == x225000 && (((rd_T70 x223001 x5).f1) == x225001 && (((rd_T70 x223001 x5).f2) == x225002)))=true then (some false) else (impl_IsDiagram.l1 k x3 (wrap64 (x5+1)) x38 x39 x40 x223000 x223001 x223002 x225000 x225001 x225002)) else (none)) else (none)) else (impl_IsDiagram.l0 k x38 x39 (wrap64 (x40+1)) x223000 x223001 x223002)
def impl_IsDiagram.l2:Nat→List Int→Int→Int→Option (Bool)
 | 0,_,_,_=>none
 | k+1,x99,x100,x101=>if x101<x100 then (if 0≤x101 then (if x101<(x99.length:Int) then (if x101=(rd x99 x101) then (impl_IsDiagram.l2 k x99 x100 (wrap64 (x101+1))) else (some false)) else (none)) else (none)) else (some true)
end
def impl_IsDiagram.f (k:Nat) (a0_0:Int) (l0_1:List (S70)) (a0_2:Int):Option (Bool):=if a0_0<0 then (impl_IsDiagram.j0 k true a0_0 l0_1 a0_2) else (if a0_0>4 then (impl_IsDiagram.j0 k true a0_0 l0_1 a0_2) else (if (l0_1.length:Int)>40 then (impl_IsDiagram.j0 k true a0_0 l0_1 a0_2) else (if a0_2<0 then (impl_IsDiagram.j0 k true a0_0 l0_1 a0_2) else (impl_IsDiagram.j0 k (decide (a0_2>(wrap64 (1+(l0_1.length:Int))))) a0_0 l0_1 a0_2))))
theorem impl_IsDiagram.calls (k:Nat) (a0_0:Int) (A0_1:Option Addr) (c0_1:Nat) (l0_1:List (S70)) (a0_2:Int) (r:Bool) (w:World) (hr0_1:Kd.C k70 w A0_1 l0_1.length l0_1) (hc0_1:l0_1.length≤c0_1) (h:impl_IsDiagram.f k a0_0 l0_1 a0_2=some r) :
  Calls Tryd.prog 15 #[.agg #[.int .i64 a0_0,.slice A0_1 l0_1.length c0_1,.int .i64 a0_2]] w fun e w'=>e = .returned (.bool r)∧Below w.heap.size w w':=by
 have hu30:=Tryd.underlying30
 have hu70:=Tryd.underlying70
 have HR0_1:=aM hr0_1
 have HC0_1:=aM hc0_1
 clear hr0_1 hc0_1
 have HB:=aM (Below.refl w.heap.size w)
 have H:(if a0_0<0 then (impl_IsDiagram.j0 k true a0_0 l0_1 a0_2) else (if a0_0>4 then (impl_IsDiagram.j0 k true a0_0 l0_1 a0_2) else (if (l0_1.length:Int)>40 then (impl_IsDiagram.j0 k true a0_0 l0_1 a0_2) else (if a0_2<0 then (impl_IsDiagram.j0 k true a0_0 l0_1 a0_2) else (impl_IsDiagram.j0 k (decide (a0_2>(wrap64 (1+(l0_1.length:Int))))) a0_0 l0_1 a0_2)))))=some r:=h
 clear h
 have HC2:=aM H
 clear H
 go_enter Tryd.func15,Tryd.ntmps15
 go_upto_region 1 with (first | ((with_reducible refine gate_dst (N:=1) rfl ?_);(try (refine gate_guard (by rfl) ?_;dsimp only));refine box_event ?hg (N:=1) ?hd (cs:=#[.int .i64 a0_0,.slice A0_1 l0_1.length c0_1,.int .i64 a0_2]) (t:=30) ?hr ?_;(case hd=>rfl);(case hg=>rfl);(case hr=>exact zb_);intro gb222 hg w3 hbox hb;have n_:=z (below_step za_ hb)<|z (hbox)<|z ((by rw [hg];exact (below_size za_):w.heap.size≤gb222))<|z1 ((by rw [hg];exact (below_size za_):w.heap.size≤gb222));clear HB;obtain ⟨HB,BK222,GW222,GE222⟩:=n_;clear hb hbox hg))
 repeat (go_quiet (first | ((with_reducible refine gate_dst (N:=1) rfl ?_);(try (refine gate_guard (by rfl) ?_;dsimp only));refine box_event ?hg (N:=1) ?hd (cs:=#[.int .i64 a0_0,.slice A0_1 l0_1.length c0_1,.int .i64 a0_2]) (t:=30) ?hr ?_;(case hd=>rfl);(case hg=>rfl);(case hr=>exact zb_);intro gb222 hg w3 hbox hb;have n_:=z (below_step za_ hb)<|z (hbox)<|z ((by rw [hg];exact (below_size za_):w.heap.size≤gb222))<|z1 ((by rw [hg];exact (below_size za_):w.heap.size≤gb222));clear HB;obtain ⟨HB,BK222,GW222,GE222⟩:=n_;clear hb hbox hg));go_upto_region 1 with (first | ((with_reducible refine gate_dst (N:=1) rfl ?_);(try (refine gate_guard (by rfl) ?_;dsimp only));refine box_event ?hg (N:=1) ?hd (cs:=#[.int .i64 a0_0,.slice A0_1 l0_1.length c0_1,.int .i64 a0_2]) (t:=30) ?hr ?_;(case hd=>rfl);(case hg=>rfl);(case hr=>exact zb_);intro gb222 hg w3 hbox hb;have n_:=z (below_step za_ hb)<|z (hbox)<|z ((by rw [hg];exact (below_size za_):w.heap.size≤gb222))<|z1 ((by rw [hg];exact (below_size za_):w.heap.size≤gb222));clear HB;obtain ⟨HB,BK222,GW222,GE222⟩:=n_;clear hb hbox hg)))
 (try simp only [Act.put,sI,s0,sS])
 go_cut [36] (fun v36 wc => ∃ (kq:Nat) (x36_1:Bool),v36 = .bool x36_1∧Aside0 (impl_IsDiagram.j0 kq x36_1 a0_0 l0_1 a0_2=some r)∧Aside0 (kq≤k)∧Aside0 (wc.heap[gb222]?=some (.cells #[.int .i64 a0_0,(.slice A0_1 l0_1.length c0_1),.int .i64 a0_2] 30 (0,0)))∧Aside0 (Below w.heap.size w wc))
 case first =>
  have H:=HC2.out;clear HC2
  by_cases c4:a0_0<0
  ·rw [if_pos c4] at H
   have c4b0:=decide_eq_true c4;clear c4;(first | rw [c4b0]|(simp only [i64_w,i32_w];rw [c4b0]) | skip);have H':=aM H;clear H;obtain ⟨hcz5_0,hcz5_1,hcz5_2,hfz5_0,hfz5_1,hfz5_2⟩:=zk3 BK222.out
   go_wp2
   repeat (go_quiet (fail);try go_wp2)
   go_meet
   case rel=>exact ⟨_,(true),ze_,H',⟨zcf_⟩,⟨zb BK222.out⟩,⟨zj_⟩⟩
  ·rw [if_neg c4] at H
   have c4b0:=decide_eq_false c4;clear c4;(first | rw [c4b0]|(simp only [i64_w,i32_w];rw [c4b0]) | skip)
   by_cases c6:a0_0>4
   ·rw [if_pos c6] at H
    have c6b0:decide (4<a0_0)=true:=decide_eq_true c6;clear c6;have H':=aM H;clear H;obtain ⟨hcz7_0,hcz7_1,hcz7_2,hfz7_0,hfz7_1,hfz7_2⟩:=zk3 BK222.out
    go_wp2
    repeat (go_quiet (fail);try go_wp2)
    go_meet
    case rel=>exact ⟨_,(true),ze_,H',⟨zcf_⟩,⟨zb BK222.out⟩,⟨zj_⟩⟩
   ·rw [if_neg c6] at H
    have c6b0:decide (4<a0_0)=false:=decide_eq_false c6;clear c6
    by_cases c8:(l0_1.length:Int)>40
    ·rw [if_pos c8] at H
     have c8b0:decide (40<(l0_1.length:Int))=true:=decide_eq_true c8;have c8b1:decide (40<l0_1.length)=true:=decide_eq_true (by omega);clear c8;have H':=aM H;clear H;obtain ⟨hcz9_0,hcz9_1,hcz9_2,hfz9_0,hfz9_1,hfz9_2⟩:=zk3 BK222.out
     go_wp2
     repeat (go_quiet (fail);try go_wp2)
     go_meet
     case rel=>exact ⟨_,(true),ze_,H',⟨zcf_⟩,⟨zb BK222.out⟩,⟨zj_⟩⟩
    ·rw [if_neg c8] at H
     have c8b0:decide (40<(l0_1.length:Int))=false:=decide_eq_false c8;have c8b1:decide (40<l0_1.length)=false:=decide_eq_false (by omega);clear c8
     by_cases c10:a0_2<0
     ·rw [if_pos c10] at H
      have c10b0:=decide_eq_true c10;clear c10;have H':=aM H;clear H;obtain ⟨hcz11_0,hcz11_1,hcz11_2,hfz11_0,hfz11_1,hfz11_2⟩:=zk3 BK222.out
      go_wp2
      repeat (go_quiet (fail);try go_wp2)
      go_meet
      case rel=>exact ⟨_,(true),ze_,H',⟨zcf_⟩,⟨zb BK222.out⟩,⟨zj_⟩⟩
     ·rw [if_neg c10] at H
      have c10b0:=decide_eq_false c10;clear c10;have H':=aM H;clear H;obtain ⟨hcz12_0,hcz12_1,hcz12_2,hfz12_0,hfz12_1,hfz12_2⟩:=zk3 BK222.out
      go_wp2
      repeat (go_quiet (fail);try go_wp2)
      go_meet
      case rel=>exact ⟨_,(decide (a0_2>(wrap64 (1+(l0_1.length:Int))))),ze_,H',⟨zcf_⟩,⟨zb BK222.out⟩,⟨zj_⟩⟩
 case rest =>
  clear HC2;obtain ⟨kq,x36_1,rfl,HA,HJ1,BK222,HB⟩:=hcut
  cases kq with
  | zero=>exact absurd HA.out (by simp [impl_IsDiagram.j0])
  | succ kj1 =>
   have H:=HA.out;clear HA
   simp only [impl_IsDiagram.j0] at H
   by_cases c13:x36_1=true
   ·subst c13
    have H1:(some false)=some r:=by rw [if_pos rfl] at H;exact H
    clear H;have H:=H1;clear H1;obtain rfl:=Option.some.inj H
    go_wp2
    repeat (go_quiet (fail);try go_wp2)
    go_ret
    exact ⟨zf_,zj_⟩
   ·replace c13:=Bool.eq_false_iff.mpr c13
    subst c13;have H1:(impl_IsDiagram.l0 kj1 l0_1 (l0_1.length:Int) 0 a0_0 l0_1 a0_2)=some r:=by rw [if_neg (show ¬ (false=true) by decide)] at H;exact H
    clear H;have H:=H1;clear H1;have H':=aM H;clear H;obtain ⟨hcz14_0,hcz14_1,hcz14_2,hfz14_0,hfz14_1,hfz14_2⟩:=zk3 BK222.out
    go_wp2
    repeat (go_quiet (fail);try go_wp2)
    go_loopg [40] kj1 (fun kq v40 w' => ∃ (x40_2:Int),v40 = .int .i64 x40_2∧Aside0 (impl_IsDiagram.l0 kq l0_1 (l0_1.length:Int) x40_2 a0_0 l0_1 a0_2=some r)∧Aside0 (kq≤kj1)∧Aside0 (w'.heap[gb222]?=some (.cells #[.int .i64 a0_0,(.slice A0_1 l0_1.length c0_1),.int .i64 a0_2] 30 (0,0)))∧Aside0 (Below w.heap.size w w'))
    case atStart=>exact ⟨(0),ze_,H',⟨Nat.le_refl _⟩,⟨zb BK222.out⟩,⟨zj_⟩⟩
    case round =>
     clear H';(try clear hcz14_0);(try clear hcz14_1);(try clear hcz14_2);(try clear hfz14_0);(try clear hfz14_1);(try clear hfz14_2);obtain ⟨x40_2,rfl,HA,HK2,BK222,HB⟩:=hrel
     cases gk with
     | zero=>exact absurd HA.out (by simp [impl_IsDiagram.l0])
     | succ k2 =>
      have H:=HA.out;clear HA
      simp only [impl_IsDiagram.l0] at H
      by_cases c15:x40_2<(l0_1.length:Int)
      ·rw [if_pos c15] at H
       have c15b0:=decide_eq_true c15;clear c15
       by_cases c16:0≤x40_2
       ·rw [if_pos c16] at H
        have c16b0:=decide_eq_true c16;clear c16
        by_cases c17:x40_2<(l0_1.length:Int)
        ·rw [if_pos c17] at H
         have c17b0:=decide_eq_true c17;clear c17;have HC18:=aM H;clear H;have p223:0≤(x40_2:Int):=of_decide_eq_true zc_;have q223:x40_2<(l0_1.length:Int):=of_decide_eq_true zc_;obtain ⟨ad223,e223,hx223_0,hx223_1,hx223_2⟩:=at_T70 HR0_1.out x40_2 p223 q223
         cases e223
         (try (replace hx223_0:=q3h_ HB.out hx223_0));(try (replace hx223_1:=q3h_ HB.out hx223_1));(try (replace hx223_2:=q3h_ HB.out hx223_2));replace p223:=eq_true p223;replace q223:=eq_true q223
         go_upto_region 6 with (first | ((with_reducible refine gate_dst (N:=4) rfl ?_);(try (refine gate_guard (by rfl) ?_;dsimp only));refine box_event ?hg (N:=4) ?hd (cs:=#[.int .i64 0,.int .i64 0,.int .i64 0]) (t:=70) ?hr ?_;(case hd=>rfl);(case hg=>rfl);(case hr=>exact zb_);intro gb224 hg w19 hbox hb;have n_:=z (blk_below (zb BK222.out) hb)<|z (below_step zj_ hb)<|z (hbox)<|z ((by rw [hg];exact (below_size zj_):w.heap.size≤gb224))<|z ((by rw [hg];exact (below_size zj_):w.heap.size≤gb224))<|z ((by rw [hg];exact Nat.ne_of_lt (blk_lt (zb BK222.out)):gb222≠gb224))<|z1 ((by rw [hg];exact Nat.ne_of_gt (blk_lt (zb BK222.out)):gb224≠gb222));clear BK222 HB;obtain ⟨BK222,HB,BK224,GW224,GE224,NB222_224,NB224_222⟩:=n_;clear hb hbox hg;have hnb20:=NB224_222.out;have hnc20:=NB222_224.out;obtain ⟨hcz21_0,hcz21_1,hcz21_2,hfz21_0,hfz21_1,hfz21_2⟩:=zk3 BK224.out))
         repeat (go_quiet (first | ((with_reducible refine gate_dst (N:=4) rfl ?_);(try (refine gate_guard (by rfl) ?_;dsimp only));refine box_event ?hg (N:=4) ?hd (cs:=#[.int .i64 0,.int .i64 0,.int .i64 0]) (t:=70) ?hr ?_;(case hd=>rfl);(case hg=>rfl);(case hr=>exact zb_);intro gb224 hg w19 hbox hb;have n_:=z (blk_below (zb BK222.out) hb)<|z (below_step zj_ hb)<|z (hbox)<|z ((by rw [hg];exact (below_size zj_):w.heap.size≤gb224))<|z ((by rw [hg];exact (below_size zj_):w.heap.size≤gb224))<|z ((by rw [hg];exact Nat.ne_of_lt (blk_lt (zb BK222.out)):gb222≠gb224))<|z1 ((by rw [hg];exact Nat.ne_of_gt (blk_lt (zb BK222.out)):gb224≠gb222));clear BK222 HB;obtain ⟨BK222,HB,BK224,GW224,GE224,NB222_224,NB224_222⟩:=n_;clear hb hbox hg;have hnb20:=NB224_222.out;have hnc20:=NB222_224.out;obtain ⟨hcz21_0,hcz21_1,hcz21_2,hfz21_0,hfz21_1,hfz21_2⟩:=zk3 BK224.out));go_upto_region 6 with (first | ((with_reducible refine gate_dst (N:=4) rfl ?_);(try (refine gate_guard (by rfl) ?_;dsimp only));refine box_event ?hg (N:=4) ?hd (cs:=#[.int .i64 0,.int .i64 0,.int .i64 0]) (t:=70) ?hr ?_;(case hd=>rfl);(case hg=>rfl);(case hr=>exact zb_);intro gb224 hg w19 hbox hb;have n_:=z (blk_below (zb BK222.out) hb)<|z (below_step zj_ hb)<|z (hbox)<|z ((by rw [hg];exact (below_size zj_):w.heap.size≤gb224))<|z ((by rw [hg];exact (below_size zj_):w.heap.size≤gb224))<|z ((by rw [hg];exact Nat.ne_of_lt (blk_lt (zb BK222.out)):gb222≠gb224))<|z1 ((by rw [hg];exact Nat.ne_of_gt (blk_lt (zb BK222.out)):gb224≠gb222));clear BK222 HB;obtain ⟨BK222,HB,BK224,GW224,GE224,NB222_224,NB224_222⟩:=n_;clear hb hbox hg;have hnb20:=NB224_222.out;have hnc20:=NB222_224.out;obtain ⟨hcz21_0,hcz21_1,hcz21_2,hfz21_0,hfz21_1,hfz21_2⟩:=zk3 BK224.out)))
         (try simp only [Act.put,sI,s0,sS])
         go_cut [77] (fun v77 wc => ∃ (kq:Nat) (x77_17:Bool),v77 = .bool x77_17∧Aside0 (impl_IsDiagram.j2 kq x40_2 l0_1 (l0_1.length:Int) x40_2 x77_17 a0_0 l0_1 a0_2 ((rd_T70 l0_1 x40_2).f0) ((rd_T70 l0_1 x40_2).f1) ((rd_T70 l0_1 x40_2).f2)=some r)∧Aside0 (kq≤k2)∧Aside0 (wc.heap[gb222]?=some (.cells #[.int .i64 a0_0,(.slice (some ad223) l0_1.length c0_1),.int .i64 a0_2] 30 (0,0)))∧Aside0 (wc.heap[gb224]?=some (.cells #[.int .i64 ((rd_T70 l0_1 x40_2).f0),.int .i64 ((rd_T70 l0_1 x40_2).f1),.int .i64 ((rd_T70 l0_1 x40_2).f2)] 70 (0,0)))∧Aside0 (Below w.heap.size w wc))
         case first =>
          have H:=HC18.out;clear HC18
          by_cases c22:((rd_T70 l0_1 x40_2).f0)<0
          ·rw [if_pos c22] at H
           have c22b0:=decide_eq_true c22;clear c22;(first | rw [c22b0]|(simp only [i64_w,i32_w];rw [c22b0]) | skip);have H':=aM H;clear H;have hnb23:=NB224_222.out;have hnc23:=NB222_224.out;obtain ⟨hcz24_0,hcz24_1,hcz24_2,hfz24_0,hfz24_1,hfz24_2⟩:=zk3 BK224.out
           go_wp2
           repeat (go_quiet (fail);try go_wp2)
           go_meet
           case rel=>exact ⟨_,(true),ze_,H',⟨zic_⟩,⟨zef_⟩,⟨zeg_⟩,⟨zcd_⟩⟩
          ·rw [if_neg c22] at H
           have c22b0:=decide_eq_false c22;clear c22;(first | rw [c22b0]|(simp only [i64_w,i32_w];rw [c22b0]) | skip)
           by_cases c25:((rd_T70 l0_1 x40_2).f0)≥a0_0
           ·rw [if_pos c25] at H
            have c25b0:decide (a0_0≤((rd_T70 l0_1 x40_2).f0))=true:=decide_eq_true c25;clear c25;have H':=aM H;clear H;have hnb26:=NB224_222.out;have hnc26:=NB222_224.out;obtain ⟨hcz27_0,hcz27_1,hcz27_2,hfz27_0,hfz27_1,hfz27_2⟩:=zk3 BK224.out;obtain ⟨hcz28_0,hcz28_1,hcz28_2,hfz28_0,hfz28_1,hfz28_2⟩:=zk3 BK222.out
            go_wp2
            repeat (go_quiet (fail);try go_wp2)
            go_meet
            case rel=>exact ⟨_,(true),ze_,H',⟨zic_⟩,⟨zef_⟩,⟨zeg_⟩,⟨zcd_⟩⟩
           ·rw [if_neg c25] at H
            have c25b0:decide (a0_0≤((rd_T70 l0_1 x40_2).f0))=false:=decide_eq_false c25;clear c25
            by_cases c29:((rd_T70 l0_1 x40_2).f1)=((rd_T70 l0_1 x40_2).f2)
            ·rw [if_pos c29] at H
             have c29b0:=beq_iff_eq.mpr c29;have c29b1:=bne_eq_false_iff_eq.mpr c29;clear c29;have H':=aM H;clear H;have hnb30:=NB224_222.out;have hnc30:=NB222_224.out;obtain ⟨hcz31_0,hcz31_1,hcz31_2,hfz31_0,hfz31_1,hfz31_2⟩:=zk3 BK224.out;obtain ⟨hcz32_0,hcz32_1,hcz32_2,hfz32_0,hfz32_1,hfz32_2⟩:=zk3 BK222.out
             go_wp2
             repeat (go_quiet (fail);try go_wp2)
             go_meet
             case rel=>exact ⟨_,(true),ze_,H',⟨zic_⟩,⟨zef_⟩,⟨zeg_⟩,⟨zcd_⟩⟩
            ·rw [if_neg c29] at H
             have c29b0:=beq_eq_false_iff_ne.mpr c29;have c29b1:=bne_iff_ne.mpr c29;replace H:=oB.mp H;obtain ⟨t225,A330,H⟩:=H;replace H:(if t225=true then ((impl_goodReference.f a0_0 l0_1 a0_2 x40_2 ((rd_T70 l0_1 x40_2).f2)).bind fun t226=>(impl_IsDiagram.j2 k2 x40_2 l0_1 (l0_1.length:Int) x40_2 (!t226) a0_0 l0_1 a0_2 ((rd_T70 l0_1 x40_2).f0) ((rd_T70 l0_1 x40_2).f1) ((rd_T70 l0_1 x40_2).f2))) else (impl_IsDiagram.j2 k2 x40_2 l0_1 (l0_1.length:Int) x40_2 true a0_0 l0_1 a0_2 ((rd_T70 l0_1 x40_2).f0) ((rd_T70 l0_1 x40_2).f1) ((rd_T70 l0_1 x40_2).f2)))=some r:=H;have A33:=aM A330;clear A330
             by_cases c34:t225=true
             ·subst c34
              have H1:((impl_goodReference.f a0_0 l0_1 a0_2 x40_2 ((rd_T70 l0_1 x40_2).f2)).bind fun t226=>(impl_IsDiagram.j2 k2 x40_2 l0_1 (l0_1.length:Int) x40_2 (!t226) a0_0 l0_1 a0_2 ((rd_T70 l0_1 x40_2).f0) ((rd_T70 l0_1 x40_2).f1) ((rd_T70 l0_1 x40_2).f2)))=some r:=by rw [if_pos rfl] at H;exact H
              clear H;have H:=H1;clear H1;replace H:=oB.mp H;obtain ⟨t226,A350,H⟩:=H;replace H:(impl_IsDiagram.j2 k2 x40_2 l0_1 (l0_1.length:Int) x40_2 (!t226) a0_0 l0_1 a0_2 ((rd_T70 l0_1 x40_2).f0) ((rd_T70 l0_1 x40_2).f1) ((rd_T70 l0_1 x40_2).f2))=some r:=H;have A35:=aM A350;clear A350;have H':=aM H;clear H;have hnb36:=NB224_222.out;have hnc36:=NB222_224.out;obtain ⟨hcz37_0,hcz37_1,hcz37_2,hfz37_0,hfz37_1,hfz37_2⟩:=zk3 BK224.out;obtain ⟨hcz38_0,hcz38_1,hcz38_2,hfz38_0,hfz38_1,hfz38_2⟩:=zk3 BK222.out
              go_wp2_with (first | (go_at_call 55;(with_reducible refine (impl_goodReference.calls a0_0 _ _ l0_1 a0_2 x40_2 ((rd_T70 l0_1 x40_2).f1) true _ ?side1 ?side2 A33.out).mono ?_);(case side1=>exact zhb_);(case side2=>exact HC0_1.out);rintro e w39 ⟨rfl,hb⟩;have n_:=z (blk_below (g:=gb222) (o := .cells #[.int .i64 a0_0,.slice (some ad223) l0_1.length c0_1,.int .i64 a0_2] 30 (0,0)) zef_ hb)<|z (blk_below (g:=gb224) (o := .cells #[.int .i64 ((rd_T70 l0_1 x40_2).f0),.int .i64 ((rd_T70 l0_1 x40_2).f1),.int .i64 ((rd_T70 l0_1 x40_2).f2)] 70 (0,0)) zeg_ hb)<|z1 (below_step zcd_ hb);clear BK222 BK224 HB;obtain ⟨BK222,BK224,HB⟩:=n_;clear hb;obtain ⟨hcz40_0,hcz40_1,hcz40_2,hfz40_0,hfz40_1,hfz40_2⟩:=zk3 BK222.out;obtain ⟨hcz41_0,hcz41_1,hcz41_2,hfz41_0,hfz41_1,hfz41_2⟩:=zk3 BK224.out)|(go_at_call 55;(with_reducible refine (impl_goodReference.calls a0_0 _ _ l0_1 a0_2 x40_2 ((rd_T70 l0_1 x40_2).f2) t226 _ ?side1 ?side2 A35.out).mono ?_);(case side1=>exact zg_);(case side2=>exact HC0_1.out);rintro e w42 ⟨rfl,hb⟩;have n_:=z (blk_below (zb BK222.out) hb)<|z (blk_below (g:=gb224) (o := .cells #[.int .i64 ((rd_T70 l0_1 x40_2).f0),.int .i64 ((rd_T70 l0_1 x40_2).f1),.int .i64 ((rd_T70 l0_1 x40_2).f2)] 70 (0,0)) (zb BK224.out) hb)<|z1 (below_step zcd_ hb);clear BK222 BK224 HB;obtain ⟨BK222,BK224,HB⟩:=n_;clear hb))
              repeat (go_quiet (first | (go_at_call 55;(with_reducible refine (impl_goodReference.calls a0_0 _ _ l0_1 a0_2 x40_2 ((rd_T70 l0_1 x40_2).f1) true _ ?side1 ?side2 A33.out).mono ?_);(case side1=>exact zhb_);(case side2=>exact HC0_1.out);rintro e w39 ⟨rfl,hb⟩;have n_:=z (blk_below (g:=gb222) (o := .cells #[.int .i64 a0_0,.slice (some ad223) l0_1.length c0_1,.int .i64 a0_2] 30 (0,0)) zef_ hb)<|z (blk_below (g:=gb224) (o := .cells #[.int .i64 ((rd_T70 l0_1 x40_2).f0),.int .i64 ((rd_T70 l0_1 x40_2).f1),.int .i64 ((rd_T70 l0_1 x40_2).f2)] 70 (0,0)) zeg_ hb)<|z1 (below_step zcd_ hb);clear BK222 BK224 HB;obtain ⟨BK222,BK224,HB⟩:=n_;clear hb;obtain ⟨hcz40_0,hcz40_1,hcz40_2,hfz40_0,hfz40_1,hfz40_2⟩:=zk3 BK222.out;obtain ⟨hcz41_0,hcz41_1,hcz41_2,hfz41_0,hfz41_1,hfz41_2⟩:=zk3 BK224.out)|(go_at_call 55;(with_reducible refine (impl_goodReference.calls a0_0 _ _ l0_1 a0_2 x40_2 ((rd_T70 l0_1 x40_2).f2) t226 _ ?side1 ?side2 A35.out).mono ?_);(case side1=>exact zg_);(case side2=>exact HC0_1.out);rintro e w42 ⟨rfl,hb⟩;have n_:=z (blk_below (zb BK222.out) hb)<|z (blk_below (g:=gb224) (o := .cells #[.int .i64 ((rd_T70 l0_1 x40_2).f0),.int .i64 ((rd_T70 l0_1 x40_2).f1),.int .i64 ((rd_T70 l0_1 x40_2).f2)] 70 (0,0)) (zb BK224.out) hb)<|z1 (below_step zcd_ hb);clear BK222 BK224 HB;obtain ⟨BK222,BK224,HB⟩:=n_;clear hb));try go_wp2_with (first | (go_at_call 55;(with_reducible refine (impl_goodReference.calls a0_0 _ _ l0_1 a0_2 x40_2 ((rd_T70 l0_1 x40_2).f1) true _ ?side1 ?side2 A33.out).mono ?_);(case side1=>exact zhb_);(case side2=>exact HC0_1.out);rintro e w39 ⟨rfl,hb⟩;have n_:=z (blk_below (g:=gb222) (o := .cells #[.int .i64 a0_0,.slice (some ad223) l0_1.length c0_1,.int .i64 a0_2] 30 (0,0)) zef_ hb)<|z (blk_below (g:=gb224) (o := .cells #[.int .i64 ((rd_T70 l0_1 x40_2).f0),.int .i64 ((rd_T70 l0_1 x40_2).f1),.int .i64 ((rd_T70 l0_1 x40_2).f2)] 70 (0,0)) zeg_ hb)<|z1 (below_step zcd_ hb);clear BK222 BK224 HB;obtain ⟨BK222,BK224,HB⟩:=n_;clear hb;obtain ⟨hcz40_0,hcz40_1,hcz40_2,hfz40_0,hfz40_1,hfz40_2⟩:=zk3 BK222.out;obtain ⟨hcz41_0,hcz41_1,hcz41_2,hfz41_0,hfz41_1,hfz41_2⟩:=zk3 BK224.out)|(go_at_call 55;(with_reducible refine (impl_goodReference.calls a0_0 _ _ l0_1 a0_2 x40_2 ((rd_T70 l0_1 x40_2).f2) t226 _ ?side1 ?side2 A35.out).mono ?_);(case side1=>exact zg_);(case side2=>exact HC0_1.out);rintro e w42 ⟨rfl,hb⟩;have n_:=z (blk_below (zb BK222.out) hb)<|z (blk_below (g:=gb224) (o := .cells #[.int .i64 ((rd_T70 l0_1 x40_2).f0),.int .i64 ((rd_T70 l0_1 x40_2).f1),.int .i64 ((rd_T70 l0_1 x40_2).f2)] 70 (0,0)) (zb BK224.out) hb)<|z1 (below_step zcd_ hb);clear BK222 BK224 HB;obtain ⟨BK222,BK224,HB⟩:=n_;clear hb)))
              go_meet
              case rel=>exact ⟨_,(!t226),ze_,H',⟨zic_⟩,⟨zb BK222.out⟩,⟨zb BK224.out⟩,⟨zcd_⟩⟩
             ·replace c34:=Bool.eq_false_iff.mpr c34
              subst c34;have H1:(impl_IsDiagram.j2 k2 x40_2 l0_1 (l0_1.length:Int) x40_2 true a0_0 l0_1 a0_2 ((rd_T70 l0_1 x40_2).f0) ((rd_T70 l0_1 x40_2).f1) ((rd_T70 l0_1 x40_2).f2))=some r:=by rw [if_neg (show ¬ (false=true) by decide)] at H;exact H
              clear H;have H:=H1;clear H1;have H':=aM H;clear H;have hnb43:=NB224_222.out;have hnc43:=NB222_224.out;obtain ⟨hcz44_0,hcz44_1,hcz44_2,hfz44_0,hfz44_1,hfz44_2⟩:=zk3 BK224.out;obtain ⟨hcz45_0,hcz45_1,hcz45_2,hfz45_0,hfz45_1,hfz45_2⟩:=zk3 BK222.out
              go_wp2_with (first | (go_at_call 55;(with_reducible refine (impl_goodReference.calls a0_0 _ _ l0_1 a0_2 x40_2 ((rd_T70 l0_1 x40_2).f1) false _ ?side1 ?side2 A33.out).mono ?_);(case side1=>exact zhb_);(case side2=>exact HC0_1.out);rintro e w46 ⟨rfl,hb⟩;have n_:=z (blk_below (g:=gb222) (o := .cells #[.int .i64 a0_0,.slice (some ad223) l0_1.length c0_1,.int .i64 a0_2] 30 (0,0)) zef_ hb)<|z (blk_below (g:=gb224) (o := .cells #[.int .i64 ((rd_T70 l0_1 x40_2).f0),.int .i64 ((rd_T70 l0_1 x40_2).f1),.int .i64 ((rd_T70 l0_1 x40_2).f2)] 70 (0,0)) zeg_ hb)<|z1 (below_step zcd_ hb);clear BK222 BK224 HB;obtain ⟨BK222,BK224,HB⟩:=n_;clear hb))
              repeat (go_quiet (first | (go_at_call 55;(with_reducible refine (impl_goodReference.calls a0_0 _ _ l0_1 a0_2 x40_2 ((rd_T70 l0_1 x40_2).f1) false _ ?side1 ?side2 A33.out).mono ?_);(case side1=>exact zhb_);(case side2=>exact HC0_1.out);rintro e w46 ⟨rfl,hb⟩;have n_:=z (blk_below (g:=gb222) (o := .cells #[.int .i64 a0_0,.slice (some ad223) l0_1.length c0_1,.int .i64 a0_2] 30 (0,0)) zef_ hb)<|z (blk_below (g:=gb224) (o := .cells #[.int .i64 ((rd_T70 l0_1 x40_2).f0),.int .i64 ((rd_T70 l0_1 x40_2).f1),.int .i64 ((rd_T70 l0_1 x40_2).f2)] 70 (0,0)) zeg_ hb)<|z1 (below_step zcd_ hb);clear BK222 BK224 HB;obtain ⟨BK222,BK224,HB⟩:=n_;clear hb));try go_wp2_with (first | (go_at_call 55;(with_reducible refine (impl_goodReference.calls a0_0 _ _ l0_1 a0_2 x40_2 ((rd_T70 l0_1 x40_2).f1) false _ ?side1 ?side2 A33.out).mono ?_);(case side1=>exact zhb_);(case side2=>exact HC0_1.out);rintro e w46 ⟨rfl,hb⟩;have n_:=z (blk_below (g:=gb222) (o := .cells #[.int .i64 a0_0,.slice (some ad223) l0_1.length c0_1,.int .i64 a0_2] 30 (0,0)) zef_ hb)<|z (blk_below (g:=gb224) (o := .cells #[.int .i64 ((rd_T70 l0_1 x40_2).f0),.int .i64 ((rd_T70 l0_1 x40_2).f1),.int .i64 ((rd_T70 l0_1 x40_2).f2)] 70 (0,0)) zeg_ hb)<|z1 (below_step zcd_ hb);clear BK222 BK224 HB;obtain ⟨BK222,BK224,HB⟩:=n_;clear hb)))
              go_meet
              case rel=>exact ⟨_,(true),ze_,H',⟨zic_⟩,⟨zb BK222.out⟩,⟨zb BK224.out⟩,⟨zcd_⟩⟩
         case rest =>
          clear HC18;(try clear c15b0);(try clear c16b0);(try clear c17b0);(try clear hcz21_0);(try clear hcz21_1);(try clear hcz21_2);(try clear hfz21_0);(try clear hfz21_1);(try clear hfz21_2);(try clear hx223_0);(try clear hx223_1);(try clear hx223_2);(try clear p223);(try clear q223);obtain ⟨kq,x77_17,rfl,HA,HJ17,BK222,BK224,HB⟩:=hcut
          cases kq with
          | zero=>exact absurd HA.out (by simp [impl_IsDiagram.j2])
          | succ kj17 =>
           have H:=HA.out;clear HA
           simp only [impl_IsDiagram.j2] at H
           by_cases c47:x77_17=true
           ·subst c47
            have H1:(some false)=some r:=by rw [if_pos rfl] at H;exact H
            clear H;have H:=H1;clear H1;obtain rfl:=Option.some.inj H
            go_wp2
            repeat (go_quiet (fail);try go_wp2)
            go_ret
            exact ⟨zf_,zcd_⟩
           ·replace c47:=Bool.eq_false_iff.mpr c47
            subst c47;have H1:(impl_IsDiagram.l1 kj17 x40_2 0 l0_1 (l0_1.length:Int) x40_2 a0_0 l0_1 a0_2 ((rd_T70 l0_1 x40_2).f0) ((rd_T70 l0_1 x40_2).f1) ((rd_T70 l0_1 x40_2).f2))=some r:=by rw [if_neg (show ¬ (false=true) by decide)] at H;exact H
            clear H;have H:=H1;clear H1;have H':=aM H;clear H
            go_wp2
            repeat (go_quiet (fail);try go_wp2)
            go_loopg [5] kj17 (fun kq v5 w' => ∃ (x5_4:Int),v5 = .int .i64 x5_4∧Aside0 (impl_IsDiagram.l1 kq x40_2 x5_4 l0_1 (l0_1.length:Int) x40_2 a0_0 l0_1 a0_2 ((rd_T70 l0_1 x40_2).f0) ((rd_T70 l0_1 x40_2).f1) ((rd_T70 l0_1 x40_2).f2)=some r)∧Aside0 (kq≤kj17)∧Aside0 (w'.heap[gb222]?=some (.cells #[.int .i64 a0_0,(.slice (some ad223) l0_1.length c0_1),.int .i64 a0_2] 30 (0,0)))∧Aside0 (w'.heap[gb224]?=some (.cells #[.int .i64 ((rd_T70 l0_1 x40_2).f0),.int .i64 ((rd_T70 l0_1 x40_2).f1),.int .i64 ((rd_T70 l0_1 x40_2).f2)] 70 (0,0)))∧Aside0 (Below w.heap.size w w'))
            case atStart=>exact ⟨(0),ze_,H',⟨Nat.le_refl _⟩,⟨zb BK222.out⟩,⟨zb BK224.out⟩,⟨zcd_⟩⟩
            case round =>
             clear H';obtain ⟨x5_4,rfl,HA,HK4,BK222,BK224,HB⟩:=hrel
             cases gk with
             | zero=>exact absurd HA.out (by simp [impl_IsDiagram.l1])
             | succ k4 =>
              have H:=HA.out;clear HA
              simp only [impl_IsDiagram.l1] at H
              by_cases c48:x5_4<x40_2
              ·rw [if_pos c48] at H
               have c48b0:=decide_eq_true c48;clear c48
               by_cases c49:0≤x5_4
               ·rw [if_pos c49] at H
                have c49b0:=decide_eq_true c49;clear c49
                by_cases c50:x5_4<(l0_1.length:Int)
                ·rw [if_pos c50] at H
                 have c50b0:=decide_eq_true c50;clear c50
                 by_cases c51:(((rd_T70 l0_1 x5_4).f0) == ((rd_T70 l0_1 x40_2).f0) && (((rd_T70 l0_1 x5_4).f1) == ((rd_T70 l0_1 x40_2).f1) && (((rd_T70 l0_1 x5_4).f2) == ((rd_T70 l0_1 x40_2).f2))))=true
                 ·rw [if_pos c51] at H
                  have c51b0:(((rd_T70 l0_1 x5_4).f0) == ((rd_T70 l0_1 x40_2).f0) && (((rd_T70 l0_1 x5_4).f1) == ((rd_T70 l0_1 x40_2).f1) && (((rd_T70 l0_1 x5_4).f2) == ((rd_T70 l0_1 x40_2).f2))))=true:=c51;(try (have c51b1:decide (((rd_T70 l0_1 x5_4).f0)=((rd_T70 l0_1 x40_2).f0) && (((rd_T70 l0_1 x5_4).f1) == ((rd_T70 l0_1 x40_2).f1) && (((rd_T70 l0_1 x5_4).f2) == ((rd_T70 l0_1 x40_2).f2))))=true:=by simpa using c51));(try (have c51b2:(((rd_T70 l0_1 x5_4).f0) == ((rd_T70 l0_1 x40_2).f0) && (((rd_T70 l0_1 x5_4).f1) == ((rd_T70 l0_1 x40_2).f1) && (((rd_T70 l0_1 x5_4).f2) == ((rd_T70 l0_1 x40_2).f2))))=true:=by simpa using c51));clear c51;obtain rfl:=Option.some.inj H;have hnb52:=NB222_224.out;have hnc52:=NB224_222.out;obtain ⟨hcz53_0,hcz53_1,hcz53_2,hfz53_0,hfz53_1,hfz53_2⟩:=zk3 BK222.out;have p227:0≤(x5_4:Int):=of_decide_eq_true zc_;have q227:x5_4<(l0_1.length:Int):=of_decide_eq_true zc_;obtain ⟨ad227,e227,hx227_0,hx227_1,hx227_2⟩:=at_T70 HR0_1.out x5_4 p227 q227;obtain rfl:ad223=ad227:=(by injection e227);(try (replace hx227_0:=q3h_ HB.out hx227_0));(try (replace hx227_1:=q3h_ HB.out hx227_1));(try (replace hx227_2:=q3h_ HB.out hx227_2));replace p227:=eq_true p227;replace q227:=eq_true q227;obtain ⟨hcz54_0,hcz54_1,hcz54_2,hfz54_0,hfz54_1,hfz54_2⟩:=zk3 BK224.out
                  go_wp2
                  repeat (go_quiet (fail);try go_wp2)
                  go_ret
                  exact ⟨zf_,zcd_⟩
                 ·rw [if_neg c51] at H
                  have c51b0:(((rd_T70 l0_1 x5_4).f0) == ((rd_T70 l0_1 x40_2).f0) && (((rd_T70 l0_1 x5_4).f1) == ((rd_T70 l0_1 x40_2).f1) && (((rd_T70 l0_1 x5_4).f2) == ((rd_T70 l0_1 x40_2).f2))))=false:=by simpa using c51
                  (try (have c51b1:decide (((rd_T70 l0_1 x5_4).f0)=((rd_T70 l0_1 x40_2).f0) && (((rd_T70 l0_1 x5_4).f1) == ((rd_T70 l0_1 x40_2).f1) && (((rd_T70 l0_1 x5_4).f2) == ((rd_T70 l0_1 x40_2).f2))))=false:=by simpa using c51));(try (have c51b2:(((rd_T70 l0_1 x5_4).f0) == ((rd_T70 l0_1 x40_2).f0) && (((rd_T70 l0_1 x5_4).f1) == ((rd_T70 l0_1 x40_2).f1) && (((rd_T70 l0_1 x5_4).f2) == ((rd_T70 l0_1 x40_2).f2))))=false:=by simpa using c51));(try (have c51b3:¬ (((rd_T70 l0_1 x5_4).f0)=((rd_T70 l0_1 x40_2).f0) && (((rd_T70 l0_1 x5_4).f1) == ((rd_T70 l0_1 x40_2).f1) && (((rd_T70 l0_1 x5_4).f2) == ((rd_T70 l0_1 x40_2).f2)))):=by simpa using c51));clear c51;have H':=aM H;clear H;have hnb55:=NB222_224.out;have hnc55:=NB224_222.out;obtain ⟨hcz56_0,hcz56_1,hcz56_2,hfz56_0,hfz56_1,hfz56_2⟩:=zk3 BK222.out;have p227:0≤(x5_4:Int):=of_decide_eq_true zc_;have q227:x5_4<(l0_1.length:Int):=of_decide_eq_true zc_;obtain ⟨ad227,e227,hx227_0,hx227_1,hx227_2⟩:=at_T70 HR0_1.out x5_4 p227 q227;obtain rfl:ad223=ad227:=(by injection e227);(try (replace hx227_0:=q3h_ HB.out hx227_0));(try (replace hx227_1:=q3h_ HB.out hx227_1));(try (replace hx227_2:=q3h_ HB.out hx227_2));replace p227:=eq_true p227;replace q227:=eq_true q227;obtain ⟨hcz57_0,hcz57_1,hcz57_2,hfz57_0,hfz57_1,hfz57_2⟩:=zk3 BK224.out
                  go_wp2
                  repeat (go_quiet (fail);try go_wp2)
                  go_roundg k4
                  case measure=>have:=HJ1.out;have:=HK2.out;have:=HJ17.out;have:=HK4.out;omega
                  case rel=>exact ⟨(wrap64 (x5_4+1)),ze_,H',⟨by have:=HJ1.out;have:=HK2.out;have:=HJ17.out;have:=HK4.out;omega⟩,⟨zb BK222.out⟩,⟨zb BK224.out⟩,⟨zcd_⟩⟩
                ·rw [if_neg c50] at H
                 exact q3n_ H
               ·rw [if_neg c49] at H
                exact q3n_ H
              ·rw [if_neg c48] at H
               have c48b0:=decide_eq_false c48;clear c48;have H':=aM H;clear H
               go_wp2
               repeat (go_quiet (fail);try go_wp2)
               go_roundg k4
               case measure=>have:=HJ1.out;have:=HK2.out;have:=HJ17.out;have:=HK4.out;omega
               case rel=>exact ⟨(wrap64 (x40_2+1)),ze_,H',⟨by have:=HJ1.out;have:=HK2.out;have:=HJ17.out;have:=HK4.out;omega⟩,⟨zb BK222.out⟩,⟨zcd_⟩⟩
        ·rw [if_neg c17] at H
         exact q3n_ H
       ·rw [if_neg c16] at H
        exact q3n_ H
      ·rw [if_neg c15] at H
       have c15b0:=decide_eq_false c15;clear c15;replace H:=oB.mp H;obtain ⟨t228,A580,H⟩:=H;replace H:(if (t228.length:Int)=(l0_1.length:Int) then (impl_IsDiagram.l2 k2 t228 (t228.length:Int) 0) else (some false))=some r:=H;have A58:=aM A580;clear A580
       by_cases c59:(t228.length:Int)=(l0_1.length:Int)
       ·rw [if_pos c59] at H
        have c59b0:=beq_iff_eq.mpr c59;have c59b1:=bne_eq_false_iff_eq.mpr c59;have c59b2:(t228.length == l0_1.length)=true:=by first | simpa using c59 | (simp at c59 ⊢;omega)
        clear c59;have H':=aM H;clear H;obtain ⟨hcz60_0,hcz60_1,hcz60_2,hfz60_0,hfz60_1,hfz60_2⟩:=zk3 BK222.out
        go_wp2_with (first | (go_at_call 56;(with_reducible refine (impl_visitOrder.calls k2 a0_0 _ _ l0_1 a0_2 t228 _ ?side1 ?side2 A58.out).mono ?_);(case side1=>exact zg_);(case side2=>exact HC0_1.out);rintro e w61 ⟨v229,rfl,ho0,hb⟩;have n_:=z (Kd.R_lower ho0 (below_size zj_))<|z (blk_below (zb BK222.out) hb)<|z1 (below_step zj_ hb);clear BK222 HB;obtain ⟨HO230,BK222,HB⟩:=n_;clear hb;(try clear ho0);obtain ⟨Ao62,co62,eo62⟩:=Kd.R_slice HO230.out;subst eo62;obtain ⟨hcz63_0,hcz63_1,hcz63_2,hfz63_0,hfz63_1,hfz63_2⟩:=zk3 BK222.out))
        repeat (go_quiet (first | (go_at_call 56;(with_reducible refine (impl_visitOrder.calls k2 a0_0 _ _ l0_1 a0_2 t228 _ ?side1 ?side2 A58.out).mono ?_);(case side1=>exact zg_);(case side2=>exact HC0_1.out);rintro e w61 ⟨v229,rfl,ho0,hb⟩;have n_:=z (Kd.R_lower ho0 (below_size zj_))<|z (blk_below (zb BK222.out) hb)<|z1 (below_step zj_ hb);clear BK222 HB;obtain ⟨HO230,BK222,HB⟩:=n_;clear hb;(try clear ho0);obtain ⟨Ao62,co62,eo62⟩:=Kd.R_slice HO230.out;subst eo62;obtain ⟨hcz63_0,hcz63_1,hcz63_2,hfz63_0,hfz63_1,hfz63_2⟩:=zk3 BK222.out));try go_wp2_with (first | (go_at_call 56;(with_reducible refine (impl_visitOrder.calls k2 a0_0 _ _ l0_1 a0_2 t228 _ ?side1 ?side2 A58.out).mono ?_);(case side1=>exact zg_);(case side2=>exact HC0_1.out);rintro e w61 ⟨v229,rfl,ho0,hb⟩;have n_:=z (Kd.R_lower ho0 (below_size zj_))<|z (blk_below (zb BK222.out) hb)<|z1 (below_step zj_ hb);clear BK222 HB;obtain ⟨HO230,BK222,HB⟩:=n_;clear hb;(try clear ho0);obtain ⟨Ao62,co62,eo62⟩:=Kd.R_slice HO230.out;subst eo62;obtain ⟨hcz63_0,hcz63_1,hcz63_2,hfz63_0,hfz63_1,hfz63_2⟩:=zk3 BK222.out)))
        go_loopg [101] k2 (fun kq v101 w' => ∃ (x101_3:Int),v101 = .int .i64 x101_3∧Aside0 (impl_IsDiagram.l2 kq t228 (t228.length:Int) x101_3=some r)∧Aside0 (kq≤k2)∧Aside0 (Kd.R (Kd.int .i64) 3 w' w.heap.size (fun _=>True) (.slice Ao62 t228.length co62) t228)∧Aside0 (w'.heap[gb222]?=some (.cells #[.int .i64 a0_0,(.slice A0_1 l0_1.length c0_1),.int .i64 a0_2] 30 (0,0)))∧Aside0 (Below w.heap.size w w'))
        case atStart=>exact ⟨(0),ze_,H',⟨Nat.le_refl _⟩,⟨zr HO230.out⟩,⟨zb BK222.out⟩,⟨zj_⟩⟩
        case round =>
         clear H';(try clear c15b0);(try clear c59b0);(try clear c59b1);(try clear c59b2);(try clear hcz60_0);(try clear hcz60_1);(try clear hcz60_2);(try clear hcz63_0);(try clear hcz63_1);(try clear hcz63_2);(try clear hfz60_0);(try clear hfz60_1);(try clear hfz60_2);(try clear hfz63_0);(try clear hfz63_1);(try clear hfz63_2);obtain ⟨x101_3,rfl,HA,HK3,HO_99,BK222,HB⟩:=hrel
         cases gk with
         | zero=>exact absurd HA.out (by simp [impl_IsDiagram.l2])
         | succ k3 =>
          have H:=HA.out;clear HA
          simp only [impl_IsDiagram.l2] at H
          by_cases c64:x101_3<(t228.length:Int)
          ·rw [if_pos c64] at H
           have c64b0:=decide_eq_true c64;clear c64
           by_cases c65:0≤x101_3
           ·rw [if_pos c65] at H
            have c65b0:=decide_eq_true c65;clear c65
            by_cases c66:x101_3<(t228.length:Int)
            ·rw [if_pos c66] at H
             have c66b0:=decide_eq_true c66;clear c66
             by_cases c67:x101_3=(rd t228 x101_3)
             ·rw [if_pos c67] at H
              have c67b0:=beq_iff_eq.mpr c67;have c67b1:=bne_eq_false_iff_eq.mpr c67;clear c67;have H':=aM H;clear H;have p231:0≤(x101_3:Int):=of_decide_eq_true zc_;have q231:x101_3<(t228.length:Int):=of_decide_eq_true zc_;obtain ⟨ad231,e231,hx231_0⟩:=Kd.at_int (Kd.R_reads' HO_99.out).2.2 x101_3 p231 q231
              cases e231
              replace p231:=eq_true p231;replace q231:=eq_true q231
              go_wp2
              repeat (go_quiet (fail);try go_wp2)
              go_roundg k3
              case measure=>have:=HJ1.out;have:=HK2.out;have:=HK3.out;omega
              case rel=>exact ⟨(wrap64 (x101_3+1)),ze_,H',⟨by have:=HJ1.out;have:=HK2.out;have:=HK3.out;omega⟩,⟨zr HO_99.out⟩,⟨zb BK222.out⟩,⟨zj_⟩⟩
             ·rw [if_neg c67] at H
              have c67b0:=beq_eq_false_iff_ne.mpr c67;have c67b1:=bne_iff_ne.mpr c67;obtain rfl:=Option.some.inj H;have p231:0≤(x101_3:Int):=of_decide_eq_true zc_;have q231:x101_3<(t228.length:Int):=of_decide_eq_true zc_;obtain ⟨ad231,e231,hx231_0⟩:=Kd.at_int (Kd.R_reads' HO_99.out).2.2 x101_3 p231 q231
              cases e231
              replace p231:=eq_true p231;replace q231:=eq_true q231
              go_wp2
              repeat (go_quiet (fail);try go_wp2)
              go_ret
              exact ⟨zf_,zj_⟩
            ·rw [if_neg c66] at H
             exact q3n_ H
           ·rw [if_neg c65] at H
            exact q3n_ H
          ·rw [if_neg c64] at H
           have c64b0:=decide_eq_false c64;clear c64;obtain rfl:=Option.some.inj H
           go_wp2
           repeat (go_quiet (fail);try go_wp2)
           go_ret
           exact ⟨zf_,zj_⟩
       ·rw [if_neg c59] at H
        have c59b0:=beq_eq_false_iff_ne.mpr c59;have c59b1:=bne_iff_ne.mpr c59;have c59b2:(t228.length == l0_1.length)=false:=by first | simpa using c59 | (simp at c59 ⊢;omega)
        obtain rfl:=Option.some.inj H;obtain ⟨hcz68_0,hcz68_1,hcz68_2,hfz68_0,hfz68_1,hfz68_2⟩:=zk3 BK222.out
        go_wp2_with (first | (go_at_call 56;(with_reducible refine (impl_visitOrder.calls k2 a0_0 _ _ l0_1 a0_2 t228 _ ?side1 ?side2 A58.out).mono ?_);(case side1=>exact zg_);(case side2=>exact HC0_1.out);rintro e w69 ⟨v229,rfl,ho0,hb⟩;have n_:=z (Kd.R_lower ho0 (below_size zj_))<|z (blk_below (zb BK222.out) hb)<|z1 (below_step zj_ hb);clear BK222 HB;obtain ⟨HO230,BK222,HB⟩:=n_;clear hb;(try clear ho0);obtain ⟨Ao70,co70,eo70⟩:=Kd.R_slice HO230.out;subst eo70;obtain ⟨hcz71_0,hcz71_1,hcz71_2,hfz71_0,hfz71_1,hfz71_2⟩:=zk3 BK222.out))
        repeat (go_quiet (first | (go_at_call 56;(with_reducible refine (impl_visitOrder.calls k2 a0_0 _ _ l0_1 a0_2 t228 _ ?side1 ?side2 A58.out).mono ?_);(case side1=>exact zg_);(case side2=>exact HC0_1.out);rintro e w69 ⟨v229,rfl,ho0,hb⟩;have n_:=z (Kd.R_lower ho0 (below_size zj_))<|z (blk_below (zb BK222.out) hb)<|z1 (below_step zj_ hb);clear BK222 HB;obtain ⟨HO230,BK222,HB⟩:=n_;clear hb;(try clear ho0);obtain ⟨Ao70,co70,eo70⟩:=Kd.R_slice HO230.out;subst eo70;obtain ⟨hcz71_0,hcz71_1,hcz71_2,hfz71_0,hfz71_1,hfz71_2⟩:=zk3 BK222.out));try go_wp2_with (first | (go_at_call 56;(with_reducible refine (impl_visitOrder.calls k2 a0_0 _ _ l0_1 a0_2 t228 _ ?side1 ?side2 A58.out).mono ?_);(case side1=>exact zg_);(case side2=>exact HC0_1.out);rintro e w69 ⟨v229,rfl,ho0,hb⟩;have n_:=z (Kd.R_lower ho0 (below_size zj_))<|z (blk_below (zb BK222.out) hb)<|z1 (below_step zj_ hb);clear BK222 HB;obtain ⟨HO230,BK222,HB⟩:=n_;clear hb;(try clear ho0);obtain ⟨Ao70,co70,eo70⟩:=Kd.R_slice HO230.out;subst eo70;obtain ⟨hcz71_0,hcz71_1,hcz71_2,hfz71_0,hfz71_1,hfz71_2⟩:=zk3 BK222.out)))
        go_ret
        exact ⟨zf_,zj_⟩
def impl_diagramValue.l0:Nat→List Int→Int→Int→List (S70)→Int→Option (Int)
 | 0,_,_,_,_,_=>none
 | k+1,x1,x5,x233000,x233001,x233002=>if x5>1 then (if 0≤(wrap64 (x5 - 2)) then (if (wrap64 (x5 - 2))<(x233001.length:Int) then (if 0≤((rd_T70 x233001 (wrap64 (x5 - 2))).f0) then (if ((rd_T70 x233001 (wrap64 (x5 - 2))).f0)<(x1.length:Int) then (if (rd x1 ((rd_T70 x233001 (wrap64 (x5 - 2))).f0))=1 then (impl_diagramValue.l0 k x1 ((rd_T70 x233001 (wrap64 (x5 - 2))).f2) x233000 x233001 x233002) else (impl_diagramValue.l0 k x1 ((rd_T70 x233001 (wrap64 (x5 - 2))).f1) x233000 x233001 x233002)) else (none)) else (none)) else (none)) else (none)) else (some x5)
def impl_diagramValue.f (k:Nat) (a0_0:Int) (l0_1:List (S70)) (a0_2:Int) (l1:List Int):Option (Int):=impl_diagramValue.l0 k l1 a0_2 a0_0 l0_1 a0_2
theorem impl_diagramValue.calls (k:Nat) (a0_0:Int) (A0_1:Option Addr) (c0_1:Nat) (l0_1:List (S70)) (a0_2:Int) (A1:Option Addr) (c1:Nat) (l1:List Int) (r:Int) (w:World) (hr0_1:Kd.C k70 w A0_1 l0_1.length l0_1) (hc0_1:l0_1.length≤c0_1) (hr1:Kd.C (Kd.int .i64) w A1 l1.length l1) (hc1:l1.length≤c1) (h:impl_diagramValue.f k a0_0 l0_1 a0_2 l1=some r) :
  Calls Tryd.prog 57 #[.agg #[.int .i64 a0_0,.slice A0_1 l0_1.length c0_1,.int .i64 a0_2],.slice A1 l1.length c1] w fun e w'=>e = .returned (.int .i64 r)∧Below w.heap.size w w':=by
 have hu30:=Tryd.underlying30
 have hu70:=Tryd.underlying70
 have HR0_1:=aM hr0_1
 have HC0_1:=aM hc0_1
 clear hr0_1 hc0_1
 have HR1:=aM hr1
 have HC1:=aM hc1
 clear hr1 hc1
 have HB:=aM (Below.refl w.heap.size w)
 have H:(impl_diagramValue.l0 k l1 a0_2 a0_0 l0_1 a0_2)=some r:=h
 clear h
 have H':=aM H
 clear H
 go_enter Tryd.func57,Tryd.ntmps57
 go_wp2_with (first | ((with_reducible refine gate_dst (N:=2) rfl ?_);refine box_event ?hg (N:=2) ?hd (cs:=#[.int .i64 a0_0,.slice A0_1 l0_1.length c0_1,.int .i64 a0_2]) (t:=30) ?hr ?_;(case hd=>rfl);(case hg=>rfl);(case hr=>exact zb_);intro gb232 hg w3 hbox hb;have n_:=z (below_step za_ hb)<|z (hbox)<|z ((by rw [hg];exact (below_size za_):w.heap.size≤gb232))<|z1 ((by rw [hg];exact (below_size za_):w.heap.size≤gb232));clear HB;obtain ⟨HB,BK232,GW232,GE232⟩:=n_;clear hb hbox hg;obtain ⟨hcz4_0,hcz4_1,hcz4_2,hfz4_0,hfz4_1,hfz4_2⟩:=zk3 BK232.out))
 go_loopg [5] k (fun kq v5 w' => ∃ (x5_1:Int),v5 = .int .i64 x5_1∧Aside0 (impl_diagramValue.l0 kq l1 x5_1 a0_0 l0_1 a0_2=some r)∧Aside0 (kq≤k)∧Aside0 (w'.heap[gb232]?=some (.cells #[.int .i64 a0_0,(.slice A0_1 l0_1.length c0_1),.int .i64 a0_2] 30 (0,0)))∧Aside0 (Below w.heap.size w w'))
 case atStart=>exact ⟨(a0_2),ze_,H',⟨Nat.le_refl _⟩,⟨zb BK232.out⟩,⟨zfd_⟩⟩
 case round =>
  clear H';(try clear hcz4_0);(try clear hcz4_1);(try clear hcz4_2);(try clear hfz4_0);(try clear hfz4_1);(try clear hfz4_2);obtain ⟨x5_1,rfl,HA,HK1,BK232,HB⟩:=hrel
  cases gk with
  | zero=>exact absurd HA.out (by simp [impl_diagramValue.l0])
  | succ k1 =>
   have H:=HA.out;clear HA
   simp only [impl_diagramValue.l0] at H
   by_cases c5:x5_1>1
   ·rw [if_pos c5] at H
    have c5b0:decide (1<x5_1)=true:=decide_eq_true c5;clear c5;obtain ⟨ji6,hji6⟩:∃ j_:Int,(wrap64 (x5_1 - 2))=j_:=⟨_,rfl⟩;replace H:(if 0≤(ji6) then (if (ji6)<(l0_1.length:Int) then (if 0≤((rd_T70 l0_1 (ji6)).f0) then (if ((rd_T70 l0_1 (ji6)).f0)<(l1.length:Int) then (if (rd l1 ((rd_T70 l0_1 (ji6)).f0))=1 then (impl_diagramValue.l0 k1 l1 ((rd_T70 l0_1 (ji6)).f2) a0_0 l0_1 a0_2) else (impl_diagramValue.l0 k1 l1 ((rd_T70 l0_1 (ji6)).f1) a0_0 l0_1 a0_2)) else (none)) else (none)) else (none)) else (none))=some r:=by first | (rw [hji6] at H;exact H)|(simp only [hji6] at H ⊢;exact H)
    have hji6w:(IntKind.i64.wrap (x5_1 - 2))=ji6:=(i64_w _).trans hji6
    by_cases c7:0≤(ji6)
    ·rw [if_pos c7] at H
     have c7b0:=decide_eq_true c7;clear c7
     by_cases c8:(ji6)<(l0_1.length:Int)
     ·rw [if_pos c8] at H
      have c8b0:=decide_eq_true c8;clear c8
      by_cases c9:0≤((rd_T70 l0_1 (ji6)).f0)
      ·rw [if_pos c9] at H
       have c9b0:=decide_eq_true c9;clear c9
       by_cases c10:((rd_T70 l0_1 (ji6)).f0)<(l1.length:Int)
       ·rw [if_pos c10] at H
        have c10b0:=decide_eq_true c10;clear c10
        by_cases c11:(rd l1 ((rd_T70 l0_1 (ji6)).f0))=1
        ·rw [if_pos c11] at H
         have c11b0:=beq_iff_eq.mpr c11;have c11b1:=bne_eq_false_iff_eq.mpr c11;clear c11;have H':=aM H;clear H;obtain ⟨hcz12_0,hcz12_1,hcz12_2,hfz12_0,hfz12_1,hfz12_2⟩:=zk3 BK232.out;have p233:0≤((ji6):Int):=of_decide_eq_true zc_;have q233:(ji6)<(l0_1.length:Int):=of_decide_eq_true zc_;obtain ⟨ad233,e233,hx233_0,hx233_1,hx233_2⟩:=at_T70 HR0_1.out (ji6) p233 q233
         cases e233
         (try (replace hx233_0:=q3h_ HB.out hx233_0));(try (replace hx233_1:=q3h_ HB.out hx233_1));(try (replace hx233_2:=q3h_ HB.out hx233_2));replace p233:=eq_true p233;replace q233:=eq_true q233
         go_wp2_with (first | ((with_reducible refine gate_dst (N:=6) rfl ?_);refine box_event ?hg (N:=6) ?hd (cs:=#[.int .i64 0,.int .i64 0,.int .i64 0]) (t:=70) ?hr ?_;(case hd=>rfl);(case hg=>rfl);(case hr=>exact zb_);intro gb234 hg w13 hbox hb;have n_:=z (blk_below (zb BK232.out) hb)<|z (below_step zfd_ hb)<|z (hbox)<|z ((by rw [hg];exact (below_size zfd_):w.heap.size≤gb234))<|z ((by rw [hg];exact (below_size zfd_):w.heap.size≤gb234))<|z ((by rw [hg];exact Nat.ne_of_lt (blk_lt (zb BK232.out)):gb232≠gb234))<|z1 ((by rw [hg];exact Nat.ne_of_gt (blk_lt (zb BK232.out)):gb234≠gb232));clear BK232 HB;obtain ⟨BK232,HB,BK234,GW234,GE234,NB232_234,NB234_232⟩:=n_;clear hb hbox hg;have hnb14:=NB234_232.out;have hnc14:=NB232_234.out;obtain ⟨hcz15_0,hcz15_1,hcz15_2,hfz15_0,hfz15_1,hfz15_2⟩:=zk3 BK234.out;have p235:0≤(((rd_T70 l0_1 (ji6)).f0):Int):=of_decide_eq_true zc_;have q235:((rd_T70 l0_1 (ji6)).f0)<(l1.length:Int):=of_decide_eq_true zc_;obtain ⟨ad235,e235,hx235_0⟩:=Kd.at_int HR1.out ((rd_T70 l0_1 (ji6)).f0) p235 q235;cases e235;have hn235_0:ad235.block≠gb234:=Nat.ne_of_lt (Nat.lt_of_lt_of_le zhc_ GW234.out);have hn235_1:ad235.block≠gb234:=Nat.ne_of_lt (Nat.lt_of_lt_of_le zhc_ GW234.out);have hn235_2:ad235.block≠gb234:=Nat.ne_of_lt (Nat.lt_of_lt_of_le zhc_ GW234.out);replace hx235_0:=(HB.out.cell (World.block_lt_of_cell? w _ hx235_0)).trans hx235_0;replace hx235_0:=(cell_far (p:=⟨gb234,0,none⟩) (by first | (rw [add_block];exact hn235_0)|(show (Addr.add _ _).block≠_;rw [add_block];exact hn235_0) | exact hn235_0) (.int .i64 ((rd_T70 l0_1 (ji6)).f0))).trans hx235_0;replace hx235_0:=(cell_far (p:=⟨gb234,1,none⟩) (by first | (rw [add_block];exact hn235_1)|(show (Addr.add _ _).block≠_;rw [add_block];exact hn235_1) | exact hn235_1) (.int .i64 ((rd_T70 l0_1 (ji6)).f1))).trans hx235_0;replace hx235_0:=(cell_far (p:=⟨gb234,2,none⟩) (by first | (rw [add_block];exact hn235_2)|(show (Addr.add _ _).block≠_;rw [add_block];exact hn235_2) | exact hn235_2) (.int .i64 ((rd_T70 l0_1 (ji6)).f2))).trans hx235_0;clear hn235_0 hn235_1 hn235_2;replace p235:=eq_true p235;replace q235:=eq_true q235))
         go_roundg k1
         case measure=>have:=HK1.out;omega
         case rel=>exact ⟨((rd_T70 l0_1 (ji6)).f2),zjd_,H',⟨zbd_⟩,⟨by refine zb ?_;refine blk_far ?_ NB232_234.out _;refine zb ?_;refine blk_far ?_ NB232_234.out _;refine zb ?_;refine blk_far ?_ NB232_234.out _;refine zb ?_;exact BK232.out⟩,⟨by repeat (first | (with_reducible first | exact HB.out | apply pA | apply pN | apply p1 | refine below_set ?_ GE232.out | refine below_set ?_ GE234.out) | exact HB.out)⟩⟩
        ·rw [if_neg c11] at H
         have c11b0:=beq_eq_false_iff_ne.mpr c11;have c11b1:=bne_iff_ne.mpr c11;have H':=aM H;clear H;obtain ⟨hcz16_0,hcz16_1,hcz16_2,hfz16_0,hfz16_1,hfz16_2⟩:=zk3 BK232.out;have p233:0≤((ji6):Int):=of_decide_eq_true zc_;have q233:(ji6)<(l0_1.length:Int):=of_decide_eq_true zc_;obtain ⟨ad233,e233,hx233_0,hx233_1,hx233_2⟩:=at_T70 HR0_1.out (ji6) p233 q233
         cases e233
         (try (replace hx233_0:=q3h_ HB.out hx233_0));(try (replace hx233_1:=q3h_ HB.out hx233_1));(try (replace hx233_2:=q3h_ HB.out hx233_2));replace p233:=eq_true p233;replace q233:=eq_true q233
         go_wp2_with (first | ((with_reducible refine gate_dst (N:=6) rfl ?_);refine box_event ?hg (N:=6) ?hd (cs:=#[.int .i64 0,.int .i64 0,.int .i64 0]) (t:=70) ?hr ?_;(case hd=>rfl);(case hg=>rfl);(case hr=>exact zb_);intro gb234 hg w17 hbox hb;have n_:=z (blk_below (zb BK232.out) hb)<|z (below_step zfd_ hb)<|z (hbox)<|z ((by rw [hg];exact (below_size zfd_):w.heap.size≤gb234))<|z ((by rw [hg];exact (below_size zfd_):w.heap.size≤gb234))<|z ((by rw [hg];exact Nat.ne_of_lt (blk_lt (zb BK232.out)):gb232≠gb234))<|z1 ((by rw [hg];exact Nat.ne_of_gt (blk_lt (zb BK232.out)):gb234≠gb232));clear BK232 HB;obtain ⟨BK232,HB,BK234,GW234,GE234,NB232_234,NB234_232⟩:=n_;clear hb hbox hg;have hnb18:=NB234_232.out;have hnc18:=NB232_234.out;obtain ⟨hcz19_0,hcz19_1,hcz19_2,hfz19_0,hfz19_1,hfz19_2⟩:=zk3 BK234.out;have p235:0≤(((rd_T70 l0_1 (ji6)).f0):Int):=of_decide_eq_true zc_;have q235:((rd_T70 l0_1 (ji6)).f0)<(l1.length:Int):=of_decide_eq_true zc_;obtain ⟨ad235,e235,hx235_0⟩:=Kd.at_int HR1.out ((rd_T70 l0_1 (ji6)).f0) p235 q235;cases e235;have hn235_0:ad235.block≠gb234:=Nat.ne_of_lt (Nat.lt_of_lt_of_le zhc_ GW234.out);have hn235_1:ad235.block≠gb234:=Nat.ne_of_lt (Nat.lt_of_lt_of_le zhc_ GW234.out);have hn235_2:ad235.block≠gb234:=Nat.ne_of_lt (Nat.lt_of_lt_of_le zhc_ GW234.out);replace hx235_0:=(HB.out.cell (World.block_lt_of_cell? w _ hx235_0)).trans hx235_0;replace hx235_0:=(cell_far (p:=⟨gb234,0,none⟩) (by first | (rw [add_block];exact hn235_0)|(show (Addr.add _ _).block≠_;rw [add_block];exact hn235_0) | exact hn235_0) (.int .i64 ((rd_T70 l0_1 (ji6)).f0))).trans hx235_0;replace hx235_0:=(cell_far (p:=⟨gb234,1,none⟩) (by first | (rw [add_block];exact hn235_1)|(show (Addr.add _ _).block≠_;rw [add_block];exact hn235_1) | exact hn235_1) (.int .i64 ((rd_T70 l0_1 (ji6)).f1))).trans hx235_0;replace hx235_0:=(cell_far (p:=⟨gb234,2,none⟩) (by first | (rw [add_block];exact hn235_2)|(show (Addr.add _ _).block≠_;rw [add_block];exact hn235_2) | exact hn235_2) (.int .i64 ((rd_T70 l0_1 (ji6)).f2))).trans hx235_0;clear hn235_0 hn235_1 hn235_2;replace p235:=eq_true p235;replace q235:=eq_true q235))
         go_roundg k1
         case measure=>have:=HK1.out;omega
         case rel=>exact ⟨((rd_T70 l0_1 (ji6)).f1),zjd_,H',⟨zbd_⟩,⟨by refine zb ?_;refine blk_far ?_ NB232_234.out _;refine zb ?_;refine blk_far ?_ NB232_234.out _;refine zb ?_;refine blk_far ?_ NB232_234.out _;refine zb ?_;exact BK232.out⟩,⟨by repeat (first | (with_reducible first | exact HB.out | apply pA | apply pN | apply p1 | refine below_set ?_ GE232.out | refine below_set ?_ GE234.out) | exact HB.out)⟩⟩
       ·rw [if_neg c10] at H
        exact q3n_ H
      ·rw [if_neg c9] at H
       exact q3n_ H
     ·rw [if_neg c8] at H
      exact q3n_ H
    ·rw [if_neg c7] at H
     exact q3n_ H
   ·rw [if_neg c5] at H
    have c5b0:decide (1<x5_1)=false:=decide_eq_false c5;clear c5;obtain rfl:=Option.some.inj H
    go_wp2
    go_ret
    exact ⟨zf_,zfd_⟩
def impl_bitList.l0:Nat→Int→List Int→Int→Int→Option (List Int)
 | 0,_,_,_,_=>none
 | k+1,x0,x5,x10,x11=>if x11<x10 then (if 0≤x11 then (if x11<(x5.length:Int) then (impl_bitList.l0 k x0 (x5.set (x11:Int).toNat (Go.bits .and .i64 (shr .i64 x0 x11) 1)) x10 (wrap64 (x11+1))) else (none)) else (none)) else (some x5)
def impl_bitList.f (k:Nat) (a0:Int) (a1:Int):Option (List Int):=if 0≤a1 then (if (a1:Int).toNat≤35184372088832 then ((some (List.replicate (a1:Int).toNat 0:List Int)).bind fun y236=>(impl_bitList.l0 k a0 y236 (y236.length:Int) 0)) else (none)) else (none)
theorem impl_bitList.calls (k:Nat) (a0:Int) (a1:Int) (r:List Int) (w:World) (h:impl_bitList.f k a0 a1=some r) :
  Calls Tryd.prog 87 #[.int .i64 a0,.int .i64 a1] w fun e w' => ∃ v0_:Value,e = .returned (v0_)∧Kd.R (Kd.int .i64) 3 w' w.heap.size (fun _=>True) v0_ r∧Below w.heap.size w w':=by
 have HB:=aM (Below.refl w.heap.size w)
 have H:(if 0≤a1 then (if (a1:Int).toNat≤35184372088832 then ((some (List.replicate (a1:Int).toNat 0:List Int)).bind fun y236=>(impl_bitList.l0 k a0 y236 (y236.length:Int) 0)) else (none)) else (none))=some r:=h
 clear h
 by_cases c3:0≤a1
 ·rw [if_pos c3] at H
  have c3b0:=eq_true c3;have c3b1:=decide_eq_true c3;clear c3
  by_cases c4:(a1:Int).toNat≤35184372088832
  ·rw [if_pos c4] at H
   have c4b0:=eq_true c4;have c4b1:=decide_eq_true c4;clear c4;obtain ⟨y236,hy236⟩:∃ y_:List Int,y_=(List.replicate (a1:Int).toNat 0):=⟨_,rfl⟩;replace H:(impl_bitList.l0 k a0 y236 (y236.length:Int) 0)=some r:=q3y_ hy236 H
   have Ny236:=aM hy236;clear hy236;have H':=aM H;clear H
   go_enter Tryd.func87,Tryd.ntmps87
   go_wp2_with (first | ((with_reducible refine gate_dst (N:=8) rfl ?_);refine Kd.R_make (Kd.int .i64) _ 3 rfl (N:=8) rfl 24 _ _ rfl a1 rfl rfl Tryd.underlying24 (.int .i64 0) 8 info3 rfl (by decide) (by omega) 0 (ok:=fun _=>True) (okp:=fun _=>True) rfl (fun _ hk=>hk) trivial (of_decide_eq_true zc_) (Nat.le_trans (Nat.mul_le_mul_right _ (of_decide_eq_true zc_:a1.toNat≤35184372088832)) (by omega)) (Below.refl _ _) (Nat.le_refl _) ?_;intro v237 w5 ho6 hb hg_ hnew_;clear hg_ hnew_;(first | rw [← Ny236.out] at ho6 | (simp only [Int.reduceToNat] at ho6;rw [← Ny236.out] at ho6));have n_:=z (Kd.R_lower ho6 (below_size za_))<|z1 (below_step za_ hb);clear HB;obtain ⟨HO238,HB⟩:=n_;clear hb ho6;obtain ⟨Ao7,co7,eo7⟩:=Kd.R_slice HO238.out;subst eo7))
   go_loopg [11] k (fun kq v11 w' => ∃ (x5_1:List Int) (x11_1:Int),v11 = .int .i64 x11_1∧Aside0 (impl_bitList.l0 kq a0 x5_1 (y236.length:Int) x11_1=some r)∧Aside0 (kq≤k)∧Aside0 (Kd.R (Kd.int .i64) 3 w' w.heap.size (fun _=>True) (.slice Ao7 y236.length co7) x5_1)∧Aside0 (Below w.heap.size w w'))
   case atStart=>exact ⟨(y236),(0),ze_,H',⟨Nat.le_refl _⟩,⟨zr HO238.out⟩,⟨za_⟩⟩
   case round =>
    clear H';(try clear c3b0);(try clear c3b1);(try clear c4b0);(try clear c4b1);obtain ⟨x5_1,x11_1,rfl,HA,HK1,HO_5,HB⟩:=hrel;have hl5_1:=(Kd.R_reads' HO_5.out).1;rw [hl5_1] at HO_5;(try simp only [hl5_1])
    cases gk with
    | zero=>exact absurd HA.out (by simp [impl_bitList.l0])
    | succ k1 =>
     have H:=HA.out;clear HA
     simp only [impl_bitList.l0] at H
     by_cases c8:x11_1<(y236.length:Int)
     ·rw [if_pos c8] at H
      have c8b0:=decide_eq_true c8;(try (have c8z0:=c8b0;rw [hl5_1] at c8z0));clear c8
      by_cases c9:0≤x11_1
      ·rw [if_pos c9] at H
       have c9b0:=eq_true c9;have c9b1:=decide_eq_true c9;clear c9;obtain ⟨ji10,hji10⟩:∃ j_:Int,(shr .i64 a0 x11_1)=j_:=⟨_,rfl⟩;replace H:(if x11_1<(x5_1.length:Int) then (impl_bitList.l0 k1 a0 (x5_1.set (x11_1:Int).toNat (Go.bits .and .i64 (ji10) 1)) (y236.length:Int) (wrap64 (x11_1+1))) else (none))=some r:=by first | (rw [hji10] at H;exact H)|(simp only [hji10] at H ⊢;exact H)
       have hji10_:(a0 / 2 ^ min x11_1.toNat 64)=ji10:=hji10;have hji10z:x11_1≤64→(a0 / 2 ^ x11_1.toNat)=ji10:=shr_small hji10
       by_cases c11:x11_1<(x5_1.length:Int)
       ·rw [if_pos c11] at H
        have c11b0:=decide_eq_true c11;(try (have c11z0:=c11b0;rw [hl5_1] at c11z0));clear c11;obtain ⟨y239,hy239⟩:∃ y_:List Int,y_=(x5_1.set (x11_1:Int).toNat (Go.bits .and .i64 (ji10) 1)):=⟨_,rfl⟩;replace H:(impl_bitList.l0 k1 a0 y239 (y236.length:Int) (wrap64 (x11_1+1)))=some r:=q3y_ hy239 H
        have Ny239:=aM hy239;clear hy239;have H':=aM H;clear H;have p12:0≤(x11_1:Int):=of_decide_eq_true zc_;have q12:(x11_1:Int)<((x5_1.length:Int):Int):=of_decide_eq_true zc_;obtain ⟨go12,co12,eo12,gb12,gl12,cl12,HG12⟩:=Kd.R_form HO_5.out (by omega);(first | cases eo12 | (injection eo12 with ea_ en_ ec_;(first | subst ea_ | (injection ea_ with ea_;subst ea_));subst ec_;clear en_));have GB12:=aM gb12;have GG12:=aM HG12;clear gb12 gl12 HG12;obtain ⟨hx12_0,hf12_0⟩:=Kd.R_celln 0 HO_5.out (x11_1:Int) p12 q12;replace p12:=eq_true p12;replace q12:=eq_true q12;have HP13:=Kd.R_putg HO_5.out (x11_1:Int) (Go.bits .and .i64 (ji10) 1)
        go_wp2_with (first | ((with_reducible refine gate_store (t:=3) (p:=20) rfl ?_);refine store_event (t:=3) (p:=20) (v:=?vo_w14) (w1:=(wr.setCell ⟨go12,(x11_1:Int).toNat,none⟩ (.int .i64 (Go.bits .and .i64 (ji10) 1)))) ?hg ?ho ?hn ?hr ?_;(case ho=>rfl);(case hg=>rfl);(case hn=>rfl);(case hr=>exact zb_);intro w14 hw;have hg:wr.grownBy w14 (some go12):=(by rw [hw];exact HP13.2);have hp_:Kd.R (Kd.int .i64) 3 w14 w.heap.size (fun _=>True) (.slice (some ⟨go12,0,none⟩) x5_1.length co7) y239:=(by rw [hw,Ny239.out];exact HP13.1);clear HP13;have n_:=z (hp_)<|z1 ((by rw [hw];exact below_set (HB.out) GB12.out:Below w.heap.size w w14));clear HO_5 HB;obtain ⟨HO_5,HB⟩:=n_;clear hg hw hp_))
        (try simp only [← hl5_1])
        go_roundg k1
        case measure=>have:=HK1.out;omega
        case rel=>exact ⟨(y239),(wrap64 (x11_1+1)),ze_,H',⟨zbd_⟩,⟨by (try simp only [hl5_1]);refine zr ?_;exact HO_5.out⟩,⟨za_⟩⟩
       ·rw [if_neg c11] at H
        exact q3n_ H
      ·rw [if_neg c9] at H
       exact q3n_ H
     ·rw [if_neg c8] at H
      have c8b0:=decide_eq_false c8;(try (have c8z0:=c8b0;rw [hl5_1] at c8z0));clear c8;obtain rfl:=Option.some.inj H
      go_wp2
      go_ret
      exact ⟨_,zf_,by refine zr ?_;exact HO_5.out,za_⟩
  ·rw [if_neg c4] at H
   exact q3n_ H
 ·rw [if_neg c3] at H
  exact q3n_ H
end Go.Proofs.YtlnhpkjioppbiaaDoor.QFnDiagrams
