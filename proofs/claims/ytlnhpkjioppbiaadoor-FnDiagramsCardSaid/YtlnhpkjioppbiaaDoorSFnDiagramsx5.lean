/- Functions of FnDiagrams, each as a Lean function, with the proof that the Go code comes to its answers. -/
import Derived.Test.YtlnhpkjioppbiaaDoorSFnDiagramsx2
import Derived.Test.YtlnhpkjioppbiaaDoorSFnDiagramsx3
namespace Go.Proofs.YtlnhpkjioppbiaaDoor.QFnDiagrams
open Go.RowKit Go.Proofs.YtlnhpkjioppbiaaDoorW.PrintWords Go.Proofs.YtlnhpkjioppbiaaDoorW.PrintLast Go.Proofs.YtlnhpkjioppbiaaDoorW.PrintMore
open Go.Proofs.YtlnhpkjioppbiaaDoorW.PrintWords renaming pw_below_drewN→pN,below_drew1→p1,below_alloc→pA
open Go.Proofs.YtlnhpkjioppbiaaDoorW.PrintWords.Kd renaming R_alloc→kA,R_drewN→kN,R_drew→kD,Q_alloc→qA,Q_drewN→qN,Q_drew→qD,C_alloc→cA,C_drewN→cN,C_drew→cD
open Go.Proofs.YtlnhpkjioppbiaaDoorW.PrintWords.Aside0 renaming mk→aM
open List renaming setIfInBounds_toArray→sI,set_cons_zero→s0,set_cons_succ→sS,map_toArray→mT,length_take→lT,length_drop→lD,map_cons→mC,map_nil→mN
attribute [local go_sem] max2_int min2_int max_two min_two max_three min_three max_four min_four
set_option linter.unusedVariables false
set_option linter.unusedSimpArgs false
open Option renaming bind_eq_some_iff→oB
set_option maxHeartbeats 8000000
set_option maxRecDepth 100000
attribute [local go_sem high] eqA70
instance:DecidableEq S70:=fun a b=>decidable_of_iff (a.f0=b.f0∧a.f1=b.f1∧a.f2=b.f2) ⟨fun h=>by cases a;cases b;simp_all,fun h=>by subst h;exact ⟨rfl,rfl,rfl⟩⟩
def ndAt (x:S70):List S70→Nat
 | []=>0
 | y :: r=>if y=x then 0 else ndAt x r+1
def ndNode (ns:List S70) (x:S70):List S70×Int:=
 if x.f1=x.f2 then (ns,x.f1) else if ndAt x ns<ns.length then (ns,2+(ndAt x ns:Int)) else (ns ++ [x],2+(ns.length:Int))
def ndBuild (vs:List Int) (n:Nat):Nat→Nat→List S70→List S70×Int
 | 0,idx,ns=>(ns,rd vs (idx:Int))
 | d+1,idx,ns=>ndNode (ndBuild vs n d (idx+2 ^ (n - (d+1))) (ndBuild vs n d idx ns).1).1 ⟨((n - (d+1):Nat):Int),(ndBuild vs n d idx ns).2,(ndBuild vs n d (idx+2 ^ (n - (d+1))) (ndBuild vs n d idx ns).1).2⟩
theorem ndNode_length (ns:List S70) (x:S70):(ndNode ns x).1.length≤ns.length+1:=by
 unfold ndNode
 split
 ·dsimp only;omega
 ·split
  ·dsimp only;omega
  ·simp
theorem ndBuild_length (vs:List Int) (n:Nat):∀ (d idx:Nat) (ns:List S70),(ndBuild vs n d idx ns).1.length+1≤ns.length+2 ^ d:=by
 intro d
 induction d with
 | zero=>intro idx ns;rw [ndBuild];simp
 | succ d ih =>
  intro idx ns
  rw [ndBuild,Nat.pow_succ];have h1:=ih idx ns;have h2:=ih (idx+2 ^ (n - (d+1))) (ndBuild vs n d idx ns).1;have h3:=ndNode_length (ndBuild vs n d (idx+2 ^ (n - (d+1))) (ndBuild vs n d idx ns).1).1 ⟨((n - (d+1):Nat):Int),(ndBuild vs n d idx ns).2,(ndBuild vs n d (idx+2 ^ (n - (d+1))) (ndBuild vs n d idx ns).1).2⟩
  omega
theorem nd_at3m {w:World} {ad:Addr} {n:Nat} {xs:List (S70)} (h:Kd.C k70 w (some ad) n xs) (i:Int) (h0:0≤i) (h1:i<n):w.cell? (ad.add (i.toNat * 3))=some (.int .i64 (rd_T70 xs i).f0)∧w.cell? ⟨(ad.add (i.toNat * 3)).block,(ad.add (i.toNat * 3)).off+1,none⟩=some (.int .i64 (rd_T70 xs i).f1)∧w.cell? ⟨(ad.add (i.toNat * 3)).block,(ad.add (i.toNat * 3)).off+2,none⟩=some (.int .i64 (rd_T70 xs i).f2):=by
 obtain ⟨ad',e,h2⟩:=at_T70 h i h0 h1
 cases e
 exact h2
theorem nd_eqA (d:Nat) (w:World) (x0 y0:Int) (x1 y1:Int) (x2 y2:Int) :
  (Op.equalIn (d+2) 70 (.agg #[.int .i64 x0,.int .i64 x1,.int .i64 x2]) (.agg #[.int .i64 y0,.int .i64 y1,.int .i64 y2])).run Tryd.prog w = .ok (x0 == y0 && (x1 == y1 && (x2 == y2))) w:=by
 refine eqA_of Tryd.underlying70 (by kernel_rfl) ?_
 refine eqf_cons (by rfl) (by go_simp;rfl) (by go_simp;rfl) (by go_simp) ?_
 refine eqf_cons (by rfl) (by go_simp;rfl) (by go_simp;rfl) (by go_simp) ?_
 exact eqf_last (by rfl) (by go_simp;rfl) (by go_simp;rfl) (by go_simp)
theorem ndAt_drop (x:S70) (ns:List S70) (j:Int) (h0:0≤j) (h1:j<(ns.length:Int)):ndAt x (ns.drop j.toNat)=if rd_T70 ns j=x then 0 else ndAt x (ns.drop (j+1).toNat)+1:=by
 have hl:j.toNat<ns.length:=by omega
 rw [List.drop_eq_getElem_cons hl,ndAt,show (j+1).toNat=j.toNat+1 by omega]
 unfold rd_T70
 rw [List.getD_eq_getElem?_getD,List.getElem?_eq_getElem hl]
 rfl
theorem nd_eqb (a b:S70):(a.f0 == b.f0 && (a.f1 == b.f1 && (a.f2 == b.f2)))=decide (a=b):=by
 by_cases h:a=b
 ·subst h;simp
 ·rw [decide_eq_false h]
  cases a;cases b
  simp at h ⊢
  exact h
theorem nd_shl (n d idx:Nat) (hn:n≤4) (hd:d+1≤n) (hi:idx<2 ^ (n - (d+1))):shl .i64 1 ((n - (d+1):Nat):Int)=((2 ^ (n - (d+1)):Nat):Int)∧wrap64 ((idx:Int)+((2 ^ (n - (d+1)):Nat):Int))=((idx+2 ^ (n - (d+1)):Nat):Int)∧idx+2 ^ (n - (d+1))<2 ^ (n - d)∧idx<2 ^ (n - d)∧idx+2 ^ (n - (d+1))≤16∧Go.bits .or .i64 (idx:Int) ((2 ^ (n - (d+1)):Nat):Int)=((idx+2 ^ (n - (d+1)):Nat):Int):=by
 have h1:n - d=n - (d+1)+1:=by omega
 generalize hm:n - (d+1)=m at *
 have hm3:m≤3:=by omega
 rw [h1,Nat.pow_succ]
 have hw:∀ a b:Nat,a<16→b<16→wrap64 ((a:Int)+(b:Int))=((a+b:Nat):Int):=fun a b _ _=>by unfold wrap64;omega
 match m,hm3 with
 | 0,_=>refine ⟨by rfl,hw idx _ (by simp at hi;omega) (by decide),by omega,by omega,by simp at hi ⊢;omega,?_⟩;(obtain rfl:idx=0:=by simpa using hi);rfl
 | 1,_=>refine ⟨by rfl,hw idx _ (by simp at hi;omega) (by decide),by omega,by omega,by simp at hi ⊢;omega,?_⟩;match idx,hi with | 0,_=>rfl | 1,_=>rfl
 | 2,_=>refine ⟨by rfl,hw idx _ (by simp at hi;omega) (by decide),by omega,by omega,by simp at hi ⊢;omega,?_⟩;match idx,hi with | 0,_=>rfl | 1,_=>rfl | 2,_=>rfl | 3,_=>rfl
 | 3,_=>refine ⟨by rfl,hw idx _ (by simp at hi;omega) (by decide),by omega,by omega,by simp at hi ⊢;omega,?_⟩;match idx,hi with | 0,_=>rfl | 1,_=>rfl | 2,_=>rfl | 3,_=>rfl | 4,_=>rfl | 5,_=>rfl | 6,_=>rfl | 7,_=>rfl
section
attribute [local go_sem high] nd_eqA
open Go.Proofs.YtlnhpkjioppbiaaDoor.Sep in
set_option maxHeartbeats 16000000 in
set_option maxRecDepth 100000 in
theorem spec_ddBuild.node (w0:World) (g:Nat) (x0 x1 x2:Int) (ns:List (S70)) (hb:ns.length≤1000) (w:World) (vn:Value) (F:List Sep.Item) (_h:Own w0 w (Sep.Item.box g 96 #[vn] :: Sep.Item.row k70 70 vn ns :: F)) :
  Calls Tryd.prog 97 #[.pointer (some ⟨g,0,none⟩),.agg #[.int .i64 x0,.int .i64 x1,.int .i64 x2]] w fun e w'=>e = .returned (.int .i64 (ndNode ns ⟨x0,x1,x2⟩).2)∧∃ vn':Value,Own w0 w' (Sep.Item.box g 96 #[vn'] :: Sep.Item.row k70 70 vn' (ndNode ns ⟨x0,x1,x2⟩).1 :: F):=by
 obtain ⟨An,cn,rfl⟩:=_h.row_slice 1 rfl
 have HO:=aM _h
 have HB:=aM hb
 clear _h hb
 by_cases c1:x1=x2
 ·have c1b:(x1 == x2)=true:=beq_iff_eq.mpr c1
  rw [show ndNode ns (⟨x0,x1,x2⟩:S70)=(ns,x1) from by unfold ndNode;rw [if_pos c1]];clear c1
  go_enter Tryd.func97,Tryd.ntmps97
  go_wp2_with (first | ((with_reducible refine gate_dst (N:=3) rfl ?_);refine box_event ?hg (N:=3) ?hd (cs:=#[.int .i64 x0,.int .i64 x1,.int .i64 x2]) (t:=70) ?hr ?_;(case hd=>rfl);(case hg=>rfl);(case hr=>exact zb_);intro gx hg w_1 hbox hb;have HO_1:=aM (HO.out.add_box (T:=70) (cs:=#[.int .i64 x0,.int .i64 x1,.int .i64 x2]) hg hbox hb);clear hg hbox hb;have z_1:w_1.cell? ⟨gx,1,none⟩=some (.int .i64 x1):=(HO_1.out.cell 0 rfl 1 rfl);have z_2:w_1.cell? ⟨gx,2,none⟩=some (.int .i64 x2):=(HO_1.out.cell 0 rfl 2 rfl);have z_3:w_1.cell? ⟨gx,1,none⟩=some (.int .i64 x1):=(HO_1.out.cell 0 rfl 1 rfl)))
  go_ret
  exact ⟨rfl,_,(((HO_1.out.front 2 rfl).front 2 rfl).front 2 rfl).tail⟩
 ·have c1b:(x1 == x2)=false:=beq_eq_false_iff_ne.mpr c1
  have HND:=aM (show ndNode ns (⟨x0,x1,x2⟩:S70)=if ndAt (⟨x0,x1,x2⟩:S70) ns<ns.length then (ns,2+(ndAt (⟨x0,x1,x2⟩:S70) ns:Int)) else (ns ++ [(⟨x0,x1,x2⟩:S70)],2+(ns.length:Int)) from by unfold ndNode;rw [if_neg c1]);clear c1
  go_enter Tryd.func97,Tryd.ntmps97
  go_wp2_with (first | ((with_reducible refine gate_dst (N:=3) rfl ?_);refine box_event ?hg (N:=3) ?hd (cs:=#[.int .i64 x0,.int .i64 x1,.int .i64 x2]) (t:=70) ?hr ?_;(case hd=>rfl);(case hg=>rfl);(case hr=>exact zb_);intro gx hg w_1 hbox hb;have HO_1:=aM (HO.out.add_box (T:=70) (cs:=#[.int .i64 x0,.int .i64 x1,.int .i64 x2]) hg hbox hb);clear hg hbox hb;have z_1:w_1.cell? ⟨gx,1,none⟩=some (.int .i64 x1):=(HO_1.out.cell 0 rfl 1 rfl);have z_2:w_1.cell? ⟨gx,2,none⟩=some (.int .i64 x2):=(HO_1.out.cell 0 rfl 2 rfl);have z_3:w_1.cell? ⟨g,0,none⟩=some (.slice An ns.length cn):=(HO_1.out.cell 1 rfl 0 rfl)))
  (try simp only [Act.put,sI,s0,sS])
  go_loopw [19] (fun v19 wr => ∃ (j:Int),0≤j∧j≤(ns.length:Int)∧v19 = .int .i64 j∧Aside0 (ndAt (⟨x0,x1,x2⟩:S70) (ns.drop j.toNat)+j.toNat=ndAt (⟨x0,x1,x2⟩:S70) ns)∧Aside0 (Own w0 wr (Item.box gx 70 #[.int .i64 x0,.int .i64 x1,.int .i64 x2] :: Item.box g 96 #[.slice An ns.length cn] :: Item.row k70 70 (.slice An ns.length cn) (ns) :: F))) (fun v19 _=>ns.length - (intOf v19).toNat)
  case atStart=>exact ⟨0,Int.le_refl _,by omega,rfl,⟨rfl⟩,⟨(((HO_1.out.front 2 rfl).front 2 rfl).front 2 rfl)⟩⟩
  case round =>
   clear HO HO_1;obtain ⟨j,hj0,hj1,rfl,HJ,HO⟩:=hrel
   by_cases c2:j<(ns.length:Int)
   ·have c2b:=decide_eq_true c2
    have hwj:wrap64 (j+1)=j+1:=by have:=HB.out;unfold wrap64;omega
    obtain ⟨adn,er,hx_⟩:=at_T70 (HO.out.row_reads 2 rfl).2.2 j hj0 c2;clear hx_
    cases er
    have p1:(0≤j)=True:=eq_true hj0;have q1:(j<(ns.length:Int))=True:=eq_true c2;obtain ⟨y0,y1,y2,hnd⟩:∃ a0 a1 a2,rd_T70 ns j=⟨a0,a1,a2⟩:=⟨_,_,_,rfl⟩;have HN:=aM hnd;have had:=ndAt_drop (⟨x0,x1,x2⟩:S70) ns j hj0 c2;rw [hnd] at had;have HA:=aM had;clear had hnd;have HE:=aM (nd_eqb (⟨x0,x1,x2⟩:S70) ⟨y0,y1,y2⟩)
    by_cases c3:(⟨x0,x1,x2⟩:S70)=⟨y0,y1,y2⟩
    ·have he:=HE.out
     rw [decide_eq_true c3] at he
     dsimp only at he
     have ha:=HA.out;rw [if_pos c3.symm] at ha;have hj_:=HJ.out;have HP:=aM (show ndAt (⟨x0,x1,x2⟩:S70) ns=j.toNat by omega);have hw2:wrap64 (2+j)=2+j:=by have:=HB.out;unfold wrap64;omega
     clear ha hj_ c3;have z_4:wr.cell? (adn.add (j.toNat * 3))=some (.int .i64 y0):=(by have e:=(nd_at3m (HO.out.row_reads 2 rfl).2.2 j hj0 c2).1;rw [HN.out] at e;exact e);have z_5:wr.cell? ⟨(adn.add (j.toNat * 3)).block,(adn.add (j.toNat * 3)).off+1,none⟩=some (.int .i64 y1):=(by have e:=(nd_at3m (HO.out.row_reads 2 rfl).2.2 j hj0 c2).2.1;rw [HN.out] at e;exact e);have z_6:wr.cell? ⟨(adn.add (j.toNat * 3)).block,(adn.add (j.toNat * 3)).off+2,none⟩=some (.int .i64 y2):=(by have e:=(nd_at3m (HO.out.row_reads 2 rfl).2.2 j hj0 c2).2.2;rw [HN.out] at e;exact e)
     go_wp2_with (first | ((with_reducible refine gate_dst (N:=6) rfl ?_);refine box_event ?hg (N:=6) ?hd (cs:=#[.int .i64 0,.int .i64 0,.int .i64 0]) (t:=70) ?hr ?_;(case hd=>rfl);(case hg=>rfl);(case hr=>exact zb_);intro g6 hg w_1 hbox hb;have HO_1:=aM (HO.out.add_box (T:=70) (cs:=#[.int .i64 0,.int .i64 0,.int .i64 0]) hg hbox hb);clear hg hbox hb)|((with_reducible refine gate_store (t:=70) (p:=6) (v := .tmp 23) rfl ?_);refine Sep.own_store HO_1.out 0 g6 70 _ #[.int .i64 y0,.int .i64 y1,.int .i64 y2] rfl rfl rfl 70 (.tmp 6) (.tmp 23) rfl rfl _ rfl rfl rfl (by kernel_rfl) (by simp [Value.oneCell']) ?_;intro w_2 ho;have HO_2:=aM ho;clear ho;have z_7:w_2.cell? ⟨gx,0,none⟩=some (.int .i64 x0):=(HO_2.out.cell 1 rfl 0 rfl);have z_8:w_2.cell? ⟨gx,1,none⟩=some (.int .i64 x1):=(HO_2.out.cell 1 rfl 1 rfl);have z_9:w_2.cell? ⟨gx,2,none⟩=some (.int .i64 x2):=(HO_2.out.cell 1 rfl 2 rfl);have z_10:w_2.cell? ⟨g6,0,none⟩=some (.int .i64 y0):=(HO_2.out.cell 0 rfl 0 rfl);have z_11:w_2.cell? ⟨g6,1,none⟩=some (.int .i64 y1):=(HO_2.out.cell 0 rfl 1 rfl);have z_12:w_2.cell? ⟨g6,2,none⟩=some (.int .i64 y2):=(HO_2.out.cell 0 rfl 2 rfl)))
     have hnn:=HND.out;rw [HP.out,if_pos (by omega),Int.toNat_of_nonneg hj0] at hnn;rw [hnn];clear hnn
     go_ret
     exact ⟨by first | rfl | rw [hw2],_,((((HO_2.out.front 3 rfl).front 3 rfl).front 3 rfl).front 3 rfl).tail.tail⟩
    ·have he:=HE.out
     rw [decide_eq_false c3] at he
     dsimp only at he
     have ha:=HA.out;rw [if_neg (fun e=>c3 e.symm)] at ha;have HJ2:=aM (show ndAt (⟨x0,x1,x2⟩:S70) (ns.drop (j+1).toNat)+(j+1).toNat=ndAt (⟨x0,x1,x2⟩:S70) ns by have:=HJ.out;omega);clear ha c3;have z_4:wr.cell? (adn.add (j.toNat * 3))=some (.int .i64 y0):=(by have e:=(nd_at3m (HO.out.row_reads 2 rfl).2.2 j hj0 c2).1;rw [HN.out] at e;exact e);have z_5:wr.cell? ⟨(adn.add (j.toNat * 3)).block,(adn.add (j.toNat * 3)).off+1,none⟩=some (.int .i64 y1):=(by have e:=(nd_at3m (HO.out.row_reads 2 rfl).2.2 j hj0 c2).2.1;rw [HN.out] at e;exact e);have z_6:wr.cell? ⟨(adn.add (j.toNat * 3)).block,(adn.add (j.toNat * 3)).off+2,none⟩=some (.int .i64 y2):=(by have e:=(nd_at3m (HO.out.row_reads 2 rfl).2.2 j hj0 c2).2.2;rw [HN.out] at e;exact e)
     go_wp2_with (first | ((with_reducible refine gate_dst (N:=6) rfl ?_);refine box_event ?hg (N:=6) ?hd (cs:=#[.int .i64 0,.int .i64 0,.int .i64 0]) (t:=70) ?hr ?_;(case hd=>rfl);(case hg=>rfl);(case hr=>exact zb_);intro g6 hg w_1 hbox hb;have HO_1:=aM (HO.out.add_box (T:=70) (cs:=#[.int .i64 0,.int .i64 0,.int .i64 0]) hg hbox hb);clear hg hbox hb)|((with_reducible refine gate_store (t:=70) (p:=6) (v := .tmp 23) rfl ?_);refine Sep.own_store HO_1.out 0 g6 70 _ #[.int .i64 y0,.int .i64 y1,.int .i64 y2] rfl rfl rfl 70 (.tmp 6) (.tmp 23) rfl rfl _ rfl rfl rfl (by kernel_rfl) (by simp [Value.oneCell']) ?_;intro w_2 ho;have HO_2:=aM ho;clear ho;have z_7:w_2.cell? ⟨gx,0,none⟩=some (.int .i64 x0):=(HO_2.out.cell 1 rfl 0 rfl);have z_8:w_2.cell? ⟨gx,1,none⟩=some (.int .i64 x1):=(HO_2.out.cell 1 rfl 1 rfl);have z_9:w_2.cell? ⟨gx,2,none⟩=some (.int .i64 x2):=(HO_2.out.cell 1 rfl 2 rfl);have z_10:w_2.cell? ⟨g6,0,none⟩=some (.int .i64 y0):=(HO_2.out.cell 0 rfl 0 rfl);have z_11:w_2.cell? ⟨g6,1,none⟩=some (.int .i64 y1):=(HO_2.out.cell 0 rfl 1 rfl);have z_12:w_2.cell? ⟨g6,2,none⟩=some (.int .i64 y2):=(HO_2.out.cell 0 rfl 2 rfl)))
     go_roundw
     case measure=>simp only [intOf,hwj];omega
     case rel=>exact ⟨j+1,by omega,by omega,by first | rfl | rw [hwj],HJ2,⟨((((HO_2.out.front 3 rfl).front 3 rfl).front 3 rfl).front 3 rfl).tail⟩⟩
   ·have c2b:=decide_eq_false c2
    obtain rfl:j=(ns.length:Int):=by omega
    have hj_:=HJ.out;rw [Int.toNat_natCast,List.drop_length,ndAt,Nat.zero_add] at hj_;have hnn:=HND.out;rw [← hj_,if_neg (Nat.lt_irrefl _)] at hnn;have HNN:=aM hnn;clear hnn hj_ HJ HND;have hwl:wrap64 (1+((ns.length+1:Nat):Int))=2+(ns.length:Int):=by have:=HB.out;unfold wrap64;omega
    go_wp2
    have HD_9_3:=aM (HO.out.drew)
    refine start_ (n:=11) (S:=fun w'=>w'.cell? ⟨g,0,none⟩=some (.slice An ns.length cn)∧w'.cell? ⟨gx,0,none⟩=some (.int .i64 x0)∧w'.cell? ⟨gx,1,none⟩=some (.int .i64 x1)∧w'.cell? ⟨gx,2,none⟩=some (.int .i64 x2)) (ds:=[10]) #[fi,fi,fi,fi,fi,fi,fi,fi,fi,fi,fi] (by kernel_rfl) rfl rfl ⟨(HD_9_3.out.cell 1 rfl 0 rfl),(HD_9_3.out.cell 0 rfl 0 rfl),(HD_9_3.out.cell 0 rfl 1 rfl),(HD_9_3.out.cell 0 rfl 2 rfl)⟩ (fun hHeld=>?_)
    generalize wr.drew=wd_9_4 at HD_9_3 hHeld ⊢
    refine oz_ 0 30 ?_
    refine oz_ 1 31 ?_
    refine oz_ 2 32 ?_
    refine oz_ 3 33 ?_
    refine tz4_ 4 34 hHeld ?_
    refine tz4_ 5 35 hHeld ?_
    refine oo_ 6 36 (fun K hK=>?_)
    refine value_ (w1:=?_) (v:=?_) (by rfl) rfl ?_ ?_
    rotate_left 2
    ·go_simp
     constructor
     ·rfl
     ·rfl
    have HOb36:=aM (HD_9_3.out.below (pA (Below.refl _ _) (.cells #[.int .i64 x0,.int .i64 x1,.int .i64 x2] 70)))
    refine hK.out _ _ ⟨(HOb36.out.cell 1 rfl 0 rfl),(HOb36.out.cell 0 rfl 0 rfl),(HOb36.out.cell 0 rfl 1 rfl),(HOb36.out.cell 0 rfl 2 rfl)⟩ (fun hHeld=>?_)
    clear hK K
    refine nz_ 36 ?_
    refine oo_ 7 37 (fun K hK=>?_)
    refine Sep.own_append_step k70 HD_9_3.out 2 _ (ns) 70 rfl (by rfl) (.tmp 34) (.tmp 36) 28 (.agg #[.int .i64 0,.int .i64 0,.int .i64 0]) 24 rfl Tryd.underlying28 info70 rfl (by decide) (by omega) ((⟨x0,x1,x2⟩:S70)) [.int .i64 x0,.int .i64 x1,.int .i64 x2] rfl rfl (k70_mkM _ _ _ _) (by have:=HB.out;omega) ?_
    intro x_37 w_2 ho
    obtain ⟨A_37,n_37,c_37,hn_,rfl⟩:=ho.row_seal 2 rfl;have HN_37:=aM hn_;clear hn_;have HO_2:=aM ho;clear ho
    refine hK.out _ _ ⟨(HO_2.out.cell 1 rfl 0 rfl),(HO_2.out.cell 0 rfl 0 rfl),(HO_2.out.cell 0 rfl 1 rfl),(HO_2.out.cell 0 rfl 2 rfl)⟩ (fun hHeld=>?_)
    clear hK K
    refine nz_ 37 ?_
    refine oz_ 8 38 ?_
    refine oz_ 9 39 ?_
    refine last_ (i:=10) (N:=none) #[ti,ti,ti,ti,ti,ti,ti,ti,ti,ti,ti] rfl rfl (by kernel_rfl) (by decide) (fun K hK=>?_)
    have hbs:=HO_2.out.cell 1 rfl 0 rfl;have hbf:=HO_2.out.free 1 rfl 0
    refine skip_ (w1:=?_) (by rfl) rfl ?_ ?_
    rotate_left
    ·go_simp
     rfl
    have HO_3:=aM (HO_2.out.put1 1 rfl 0 (.slice A_37 n_37 c_37));clear hbs hbf;generalize hgs_:World.setCell w_2 ⟨g,0,none⟩ (.slice A_37 n_37 c_37)=w_3 at HO_3 ⊢;clear hgs_
    refine hK.out _ _ ?_
    clear hK K
    refine done_ (by kernel_rfl) ?_
    have z_5:w_3.cell? ⟨g,0,none⟩=some (.slice A_37 n_37 c_37):=(HO_3.out.cell 1 rfl 0 rfl)
    go_wp2
    have hwl2:∀ m:Nat,m=(ns ++ [(⟨x0,x1,x2⟩:S70)]).length→wrap64 (1+(m:Int))=2+(ns.length:Int):=by intro m hm;rw [hm,List.length_append,List.length_singleton];exact hwl
    go_ret
    rw [HNN.out]
    exact ⟨by have hq:=hwl2 _ HN_37.out;first | (rw [hq];done)|(rw [hq];rfl),_,(((HO_3.out.front 2 rfl).front 2 rfl).front 2 rfl).tail⟩
end
open Go.Proofs.YtlnhpkjioppbiaaDoor.Sep in
set_option maxHeartbeats 16000000 in
set_option maxRecDepth 100000 in
theorem spec_ddBuild.build (w0:World) (g n:Nat) (hn:n≤4) (vs:List Int) (hv:vs.length=2 ^ n) (At:Option Addr) (ct:Nat) (hr:Kd.C (Kd.int .i64) w0 At vs.length vs):∀ (d idx:Nat) (ns:List (S70)) (i xx:Int) (w:World) (vn:Value) (F:List Sep.Item) (_hd:d≤n) (_hi:idx<2 ^ (n - d)) (_he:i=((n - d:Nat):Int)) (_hx:xx=(idx:Int)) (_hb:ns.length+2 ^ d≤1000) (_h:Own w0 w (Sep.Item.box g 96 #[vn] :: Sep.Item.row k70 70 vn ns :: F)),
  Calls Tryd.prog 86 #[.pointer (some ⟨g,0,none⟩),.agg #[.int .i64 (n:Int),.slice At vs.length ct],.int .i64 i,.int .i64 xx] w fun e w'=>e = .returned (.int .i64 (ndBuild vs n d idx ns).2)∧∃ vn':Value,Own w0 w' (Sep.Item.box g 96 #[vn'] :: Sep.Item.row k70 70 vn' (ndBuild vs n d idx ns).1 :: F):=by
 have HVL:=aM hv
 clear hv
 intro d
 induction d with
 | zero =>
  intro idx ns i xx w vn F hd hi he hx hb h
  obtain ⟨An,cn,rfl⟩:=h.row_slice 1 rfl;have HO:=aM h;have HB:=aM hb;have HI:=aM he;have HX:=aM hx;have HR:=aM hr;clear h hb hr;have c1b:(i == (n:Int))=true:=beq_iff_eq.mpr (by omega);have hx0:0≤xx:=by omega
  have hx1:xx<(vs.length:Int):=by rw [HVL.out,hx];simp only [Nat.sub_zero] at hi;omega
  obtain ⟨ad,ead,hc⟩:=Kd.at_int HR.out xx hx0 hx1
  cases ead
  have p1:(0≤xx)=True:=eq_true hx0;have q1:(xx<(vs.length:Int))=True:=eq_true hx1;obtain ⟨v,hv_⟩:∃ v,rd vs xx=v:=⟨_,rfl⟩;rw [hv_] at hc;have HC:=aM hc;have HV:=aM hv_;clear hc hv_ hi he hx
  go_enter Tryd.func86,Tryd.ntmps86
  go_wp2_with (first | ((with_reducible refine gate_dst (N:=5) rfl ?_);refine box_event ?hg (N:=5) ?hd (cs:=#[.int .i64 ((n:Int)),.slice ((some ad)) vs.length ct]) (t:=26) ?hr ?_;(case hd=>rfl);(case hg=>rfl);(case hr=>exact zb_);intro gt hg w_1 hbox hb;have HO_1:=aM (HO.out.add_box (T:=26) (cs:=#[.int .i64 ((n:Int)),.slice ((some ad)) vs.length ct]) hg hbox hb);clear hg hbox hb;have z_1:w_1.cell? ⟨gt,0,none⟩=some (.int .i64 ((n:Int))):=(HO_1.out.cell 0 rfl 0 rfl);have z_2:w_1.cell? ⟨gt,1,none⟩=some (.slice ((some ad)) vs.length ct):=(HO_1.out.cell 0 rfl 1 rfl);have z_3:w_1.cell? (ad.add xx.toNat)=some (.int .i64 v):=(by obtain ⟨_,e,h_⟩:=Kd.at_int (Kd.C_below HR.out HO_1.out.base) xx hx0 hx1;cases e;rw [HV.out] at h_;exact h_)))
  go_ret
  rw [ndBuild]
  exact ⟨by rw [← HX.out];show _=Ending.returned (.int .i64 (rd vs xx));rw [HV.out];rfl,_,(((HO_1.out.front 2 rfl).front 2 rfl).front 2 rfl).tail⟩
 | succ d ih =>
  intro idx ns i xx w vn F hd hi he hx hb h
  obtain ⟨An,cn,rfl⟩:=h.row_slice 1 rfl;have HO:=aM h;have HB:=aM hb;have HI:=aM he;have HX:=aM hx;have HR:=aM hr;clear h hb hr;obtain ⟨hs1,hs2,hs3,hs4,hs5,hs6⟩:=nd_shl n d idx hn hd hi;rw [← he] at hs1;rw [← hx] at hs2;have c1b:(i == (n:Int))=false:=beq_eq_false_iff_ne.mpr (by omega);have hi1:wrap64 (i+1)=((n - d:Nat):Int):=by unfold wrap64;omega
  obtain ⟨pp,hpp⟩:∃ p:Nat,p=2 ^ (n - (d+1)):=⟨_,rfl⟩;rw [← hpp] at hs1 hs2 hs3 hs5;obtain ⟨x1,hx1⟩:∃ x1:Int,x1=((idx+pp:Nat):Int):=⟨_,rfl⟩;rw [← hx1] at hs2;have hi0:0≤i:=by omega
  have hi4:i≤3:=by omega
  have hul:IntKind.u64.wrap i=i:=by rw [IntKind.wrap_u64];omega
  have p0:(0≤i)=True:=eq_true hi0;have hb2:=HB.out;rw [Nat.pow_succ] at hb2;have hsh:wrap64 (2 ^ min i.toNat 64)=(pp:Int):=by rw [← hs1];unfold shl;rw [Int.one_mul,IntKind.wrap_i64,show IntKind.i64.bits=64 from rfl];unfold wrap64;omega
  generalize hA:ndBuild vs n d idx ns=ra;obtain ⟨n1,lo⟩:=ra;have hla:=ndBuild_length vs n d idx ns;rw [hA] at hla;generalize hB2:ndBuild vs n d (idx+pp) n1=rb;obtain ⟨n2,hh⟩:=rb;have hlb:=ndBuild_length vs n d (idx+pp) n1;rw [hB2] at hlb
  dsimp only at hla hlb
  have hfin:ndBuild vs n (d+1) idx ns=ndNode n2 ⟨i,lo,hh⟩:=by rw [ndBuild,hA,← hpp];dsimp only;rw [hB2,he]
  have HA:=aM hA;have HB2:=aM hB2;have HFIN:=aM hfin;have HN1:=aM (show n1.length+2 ^ d≤1000 by omega);have HN2:=aM (show n2.length≤1000 by omega);have HN0:=aM (show ns.length+2 ^ d≤1000 by omega);have IH:=aM ih;have HS3:=aM hs3;have HS4:=aM hs4;have HX1:=aM hx1;have HI1:=aM hi1;have HD:=aM (show d≤n by omega);clear hi0 hi4 ih hla hlb hA hB2 hfin hs1 hs3 hs4 hs5 hs6 hi he hx hi1 hx1 hb2 hd hpp
  go_enter Tryd.func86,Tryd.ntmps86
  go_wp2_with (first | ((with_reducible refine gate_dst (N:=5) rfl ?_);refine box_event ?hg (N:=5) ?hd (cs:=#[.int .i64 ((n:Int)),.slice At vs.length ct]) (t:=26) ?hr ?_;(case hd=>rfl);(case hg=>rfl);(case hr=>exact zb_);intro gt hg w_1 hbox hb;have HO_1:=aM (HO.out.add_box (T:=26) (cs:=#[.int .i64 ((n:Int)),.slice At vs.length ct]) hg hbox hb);clear hg hbox hb;have z_1:w_1.cell? ⟨gt,0,none⟩=some (.int .i64 ((n:Int))):=(HO_1.out.cell 0 rfl 0 rfl);have z_2:w_1.cell? ⟨gt,0,none⟩=some (.int .i64 ((n:Int))):=(HO_1.out.cell 0 rfl 0 rfl);have z_3:w_1.cell? ⟨gt,1,none⟩=some (.slice At vs.length ct):=(HO_1.out.cell 0 rfl 1 rfl))|((with_reducible refine gate_callee (f:=86) rfl ?_);refine goesL_ (some 25) rfl rfl Tryd.func86 (by kernel_rfl) rfl #[.pointer (some ⟨g,0,none⟩),.agg #[.int .i64 ((n:Int)),.slice At vs.length ct],.int .i64 (wrap64 (i+1)),.int .i64 xx] rfl zbba_ ?_;refine (IH.out idx (ns) (wrap64 (i+1)) xx _ _ (Item.box gt 26 #[.int .i64 ((n:Int)),.slice At vs.length ct] :: F) HD.out HS4.out HI1.out HX.out HN0.out ((HO_1.out.front 2 rfl).front 2 rfl)).mono ?_;rw [HA.out];rintro e w_2 ⟨rfl,vo,ho⟩;refine ⟨_,rfl,?_⟩;obtain ⟨A_b25,c_b25,rfl⟩:=ho.row_slice 1 rfl;have HO_2:=aM ho;clear ho;have z_4:w_2.cell? ⟨gt,0,none⟩=some (.int .i64 ((n:Int))):=(HO_2.out.cell 2 rfl 0 rfl);have z_5:w_2.cell? ⟨gt,1,none⟩=some (.slice At vs.length ct):=(HO_2.out.cell 2 rfl 1 rfl))|((with_reducible refine gate_callee (f:=86) rfl ?_);refine goesL_ (some 35) rfl rfl Tryd.func86 (by kernel_rfl) rfl #[.pointer (some ⟨g,0,none⟩),.agg #[.int .i64 ((n:Int)),.slice At vs.length ct],.int .i64 (wrap64 (i+1)),.int .i64 x1] rfl zbba_ ?_;refine (IH.out (idx+pp) (n1) (wrap64 (i+1)) x1 _ _ (Item.box gt 26 #[.int .i64 ((n:Int)),.slice At vs.length ct] :: F) HD.out HS3.out HI1.out HX1.out HN1.out ((HO_2.out.front 1 rfl).front 1 rfl)).mono ?_;rw [HB2.out];rintro e w_3 ⟨rfl,vo,ho⟩;refine ⟨_,rfl,?_⟩;obtain ⟨A_b35,c_b35,rfl⟩:=ho.row_slice 1 rfl;have HO_3:=aM ho;clear ho)|((with_reducible refine gate_callee (f:=97) rfl ?_);refine goesL_ (some 41) rfl rfl Tryd.func97 (by kernel_rfl) rfl #[.pointer (some ⟨g,0,none⟩),.agg #[.int .i64 i,.int .i64 lo,.int .i64 hh]] rfl zbba_ ?_;refine (spec_ddBuild.node w0 g i lo hh n2 HN2.out _ _ (Item.box gt 26 #[.int .i64 ((n:Int)),.slice At vs.length ct] :: F) ((HO_3.out.front 1 rfl).front 1 rfl)).mono ?_;rintro e w_4 ⟨rfl,vf,ho⟩;refine ⟨_,rfl,?_⟩;have HO_4:=aM ho;clear ho))
  go_ret
  rw [HFIN.out]
  exact ⟨rfl,_,(((HO_4.out.front 1 rfl).front 1 rfl).front 2 rfl).tail⟩
def spec_ddMake.f (k:Nat) (a0_0:Int) (l0_1:List Int):Option (Int×List (S70)×Int):=if 0≤a0_0∧a0_0≤4∧l0_1.length=2 ^ a0_0.toNat then some (a0_0,(ndBuild l0_1 a0_0.toNat a0_0.toNat 0 []).1,(ndBuild l0_1 a0_0.toNat a0_0.toNat 0 []).2) else none
open Go.Proofs.YtlnhpkjioppbiaaDoor.Sep in
set_option maxHeartbeats 16000000 in
set_option maxRecDepth 100000 in
theorem spec_ddMake.calls (k:Nat) (a0_0:Int) (A0_1:Option Addr) (c0_1:Nat) (l0_1:List Int) (r1:Int) (r2:List (S70)) (r3:Int) (w:World) (hr0_1:Kd.C (Kd.int .i64) w A0_1 l0_1.length l0_1) (hc0_1:l0_1.length≤c0_1) (h:spec_ddMake.f k a0_0 l0_1=some (r1,r2,r3)) :
  Calls Tryd.prog 51 #[.agg #[.int .i64 a0_0,.slice A0_1 l0_1.length c0_1]] w fun e w' => ∃ v1_:Value,e = .returned (.agg #[.int .i64 r1,v1_,.int .i64 r3])∧Kd.R k70 70 w' w.heap.size (fun _=>True) v1_ r2∧Below w.heap.size w w':=by
 unfold spec_ddMake.f at h
 split at h
 ·rename_i hcc
  obtain ⟨hn0,hn4,hl⟩:=hcc;obtain ⟨n,rfl⟩:=Int.eq_ofNat_of_zero_le hn0;rw [Int.toNat_natCast] at h hl;have h2:=Option.some.inj h;clear h;have HN4:=aM (show n≤4 by omega);have HVL:=aM hl;have HC:=aM hr0_1;clear hr0_1 hc0_1 hl hn0 hn4;have hbl:=ndBuild_length l0_1 n n 0 [];generalize hB:ndBuild l0_1 n n 0 []=rb at h2 hbl;obtain ⟨n2,rr⟩:=rb
  injection h2 with e1 e2
  injection e2 with e2 e3
  dsimp only at e1 e2 e3 hbl
  subst e1;subst e2;subst e3;have HB:=aM hB;clear hB hbl
  go_enter Tryd.func51,Tryd.ntmps51
  go_wp2_with (first | ((with_reducible refine gate_dst (N:=1) rfl ?_);refine box_event ?hg (N:=1) ?hd (cs:=#[.int .i64 ((n:Int)),.slice A0_1 l0_1.length c0_1]) (t:=26) ?hr ?_;(case hd=>rfl);(case hg=>rfl);(case hr=>exact zb_);intro gt hg w_1 hbox hb;have HO_1:=aM ((Sep.Own.nil w).add_box (T:=26) (cs:=#[.int .i64 ((n:Int)),.slice A0_1 l0_1.length c0_1]) hg hbox hb);clear hg hbox hb)|((with_reducible refine gate_dst (N:=2) rfl ?_);refine box_event ?hg (N:=2) ?hd (cs:=#[.int .i64 0,.slice none 0 0,.int .i64 0]) (t:=30) ?hr ?_;(case hd=>rfl);(case hg=>rfl);(case hr=>exact zb_);intro gr hg w_2 hbox hb;have HO_2:=aM (HO_1.out.add_box (T:=30) (cs:=#[.int .i64 0,.slice none 0 0,.int .i64 0]) hg hbox hb);clear hg hbox hb)|((with_reducible refine gate_dst (N:=6) rfl ?_);refine box_event ?hg (N:=6) ?hd (cs:=#[.slice none 0 0]) (t:=96) ?hr ?_;(case hd=>rfl);(case hg=>rfl);(case hr=>exact zb_);intro g hg w_3 hbox hb;have HO_3:=aM (HO_2.out.add_box (T:=96) (cs:=#[.slice none 0 0]) hg hbox hb);clear hg hbox hb;have z_1:w_3.cell? ⟨gt,0,none⟩=some (.int .i64 ((n:Int))):=(HO_3.out.cell 2 rfl 0 rfl);have z_2:w_3.cell? ⟨gt,1,none⟩=some (.slice A0_1 l0_1.length c0_1):=(HO_3.out.cell 2 rfl 1 rfl))|((with_reducible refine gate_callee (f:=86) rfl ?_);refine goesL_ (some 9) rfl rfl Tryd.func86 (by kernel_rfl) rfl #[.pointer (some ⟨g,0,none⟩),.agg #[.int .i64 ((n:Int)),.slice A0_1 l0_1.length c0_1],.int .i64 0,.int .i64 0] rfl zbc_ ?_;refine (spec_ddBuild.build w g n HN4.out l0_1 HVL.out _ _ HC.out n 0 [] 0 0 _ _ [Item.box gr 30 #[.int .i64 0,.slice none 0 0,.int .i64 0],Item.box gt 26 #[.int .i64 ((n:Int)),.slice A0_1 l0_1.length c0_1]] (Nat.le_refl _) (by simp) (by simp) rfl (by rw [List.length_nil,Nat.zero_add];exact Nat.le_trans (Nat.pow_le_pow_right (by decide) HN4.out) (by decide)) (((HO_3.out.nilrow k70 70).front 0 rfl).front 1 rfl)).mono ?_;rw [HB.out];rintro e w_4 ⟨rfl,vo,ho⟩;refine ⟨_,rfl,?_⟩;obtain ⟨A_b,c_b,rfl⟩:=ho.row_slice 1 rfl;have HO_4:=aM ho;clear ho))
  have HD_3_2:=aM (HO_4.out.drew)
  refine start_ (n:=9) (S:=fun w'=>w'.cell? ⟨gt,0,none⟩=some (.int .i64 ((n:Int)))∧w'.cell? ⟨g,0,none⟩=some (.slice A_b n2.length c_b)) (ds:=[8]) #[fi,fi,fi,fi,fi,fi,fi,fi,fi] (by kernel_rfl) rfl rfl ⟨(HD_3_2.out.cell 3 rfl 0 rfl),(HD_3_2.out.cell 0 rfl 0 rfl)⟩ (fun hHeld=>?_)
  generalize w_4.drew=wd_3_3 at HD_3_2 hHeld ⊢
  refine oz_ 0 10 ?_
  refine oz_ 2 12 ?_
  refine oz_ 3 13 ?_
  refine oz_ 4 14 ?_
  refine oz_ 6 16 ?_
  refine tz2_ 1 11 hHeld ?_
  refine tz2_ 5 15 hHeld ?_
  refine oz_ 7 17 ?_
  refine last_ (i:=8) (N:=none) #[ti,ti,ti,ti,ti,ti,ti,ti,ti] rfl rfl (by kernel_rfl) (by decide) (fun K hK=>?_)
  refine Sep.own_store_step HD_3_2.out 2 gr 30 _ #[.int .i64 ((n:Int)),.slice A_b n2.length c_b,.int .i64 rr] rfl (by rfl) rfl 30 (.tmp 2) (.tmp 17) rfl rfl _ rfl rfl rfl (by kernel_rfl) (by simp [Value.oneCell']) ?_
  intro w_5 ho
  have HO_5:=aM ho;clear ho
  refine hK.out _ _ ?_
  clear hK K
  refine done_ (by kernel_rfl) ?_
  go_wp2
  (try simp only [Exit.inBlock,Exit.then])
  refine bodyPost_ret (results_cell_row rfl _ _ gr 30 #[.int .i64 ((n:Int)),.slice A_b n2.length c_b,.int .i64 rr] (0,0) _ rfl (HO_5.out.blk 2 rfl) Tryd.underlying30 rfl (by kernel_rfl)) rfl ?_
  obtain ⟨P_,hP⟩:=HO_5.out.get 1 rfl
  exact ⟨_,rfl,Kd.R_mono hP (fun _ _=>trivial),HO_5.out.base⟩
 ·cases h
section
attribute [local go_sem high] nd_eqA
open Go.Proofs.YtlnhpkjioppbiaaDoor.Sep in
set_option maxHeartbeats 16000000 in
set_option maxRecDepth 100000 in
theorem impl_diagramOf.build (w0:World) (gt gv gd n:Nat) (hn:n≤4) (vs:List Int) (hv:vs.length=2 ^ n) (At:Option Addr) (ct:Nat) (hr:Kd.C (Kd.int .i64) w0 At vs.length vs):∀ (d idx:Nat) (ns:List (S70)) (i xx:Int) (w:World) (vn:Value) (F:List Sep.Item) (_hd:d≤n) (_hi:idx<2 ^ (n - d)) (_he:i=((n - d:Nat):Int)) (_hx:xx=(idx:Int)) (_hb:ns.length+2 ^ d≤1000) (_h:Own w0 w (Sep.Item.box gd 30 #[.int .i64 ((n:Int)),vn,.int .i64 0] :: Sep.Item.row k70 70 (vn) (ns) :: Sep.Item.box gt 26 #[.int .i64 ((n:Int)),.slice At vs.length ct] :: Sep.Item.box gv 88 #[.func (.func 84) #[] #[.pointer (some ⟨gt,0,none⟩),.pointer (some ⟨gv,0,none⟩),.pointer (some ⟨gd,0,none⟩)]] :: F)),
  Calls Tryd.prog 84 #[.int .i64 i,.int .i64 xx,.pointer (some ⟨gt,0,none⟩),.pointer (some ⟨gv,0,none⟩),.pointer (some ⟨gd,0,none⟩)] w fun e w'=>e = .returned (.int .i64 (ndBuild vs n d idx ns).2)∧∃ vn':Value,Own w0 w' (Sep.Item.box gd 30 #[.int .i64 ((n:Int)),vn',.int .i64 0] :: Sep.Item.row k70 70 (vn') ((ndBuild vs n d idx ns).1) :: Sep.Item.box gt 26 #[.int .i64 ((n:Int)),.slice At vs.length ct] :: Sep.Item.box gv 88 #[.func (.func 84) #[] #[.pointer (some ⟨gt,0,none⟩),.pointer (some ⟨gv,0,none⟩),.pointer (some ⟨gd,0,none⟩)]] :: F):=by
 have HVL:=aM hv
 clear hv
 intro d
 induction d with
 | zero =>
  intro idx ns i xx w vn F hd hi he hx hb h
  obtain ⟨An,cn,rfl⟩:=h.row_slice 1 rfl;have HO:=aM h;have HB:=aM hb;have HI:=aM he;have HX:=aM hx;have HR:=aM hr;clear h hb hr;have c1b:(i == (n:Int))=true:=beq_iff_eq.mpr (by omega);have hx0:0≤xx:=by omega
  have hx1:xx<(vs.length:Int):=by rw [HVL.out,hx];simp only [Nat.sub_zero] at hi;omega
  obtain ⟨ad,ead,hc⟩:=Kd.at_int HR.out xx hx0 hx1
  cases ead
  have p1:(0≤xx)=True:=eq_true hx0;have q1:(xx<(vs.length:Int))=True:=eq_true hx1;obtain ⟨v,hv_⟩:∃ v,rd vs xx=v:=⟨_,rfl⟩;rw [hv_] at hc;have HV:=aM hv_;clear hc hv_ hi he hx
  go_enter Tryd.func84,Tryd.ntmps84
  have z_1:w.cell? ⟨gt,0,none⟩=some (.int .i64 ((n:Int))):=(HO.out.cell 2 rfl 0 rfl);have z_2:w.cell? ⟨gt,1,none⟩=some (.slice ((some ad)) vs.length ct):=(HO.out.cell 2 rfl 1 rfl);have z_3:w.cell? (ad.add xx.toNat)=some (.int .i64 v):=(by obtain ⟨_,e,h_⟩:=Kd.at_int (Kd.C_below HR.out HO.out.base) xx hx0 hx1;cases e;rw [HV.out] at h_;exact h_)
  go_wp2
  go_ret
  rw [ndBuild]
  exact ⟨by rw [← HX.out];show _=Ending.returned (.int .i64 (rd vs xx));rw [HV.out];rfl,_,HO.out⟩
 | succ d ih =>
  intro idx ns i xx w vn F hd hi he hx hb h
  obtain ⟨An,cn,rfl⟩:=h.row_slice 1 rfl;have HO:=aM h;have HB:=aM hb;have HI:=aM he;have HX:=aM hx;have HR:=aM hr;clear h hb hr;obtain ⟨hs1,hs2,hs3,hs4,hs5,hs6⟩:=nd_shl n d idx hn hd hi;rw [← he] at hs1;rw [← hx] at hs6;have c1b:(i == (n:Int))=false:=beq_eq_false_iff_ne.mpr (by omega);have hi1:wrap64 (i+1)=((n - d:Nat):Int):=by unfold wrap64;omega
  obtain ⟨pp,hpp⟩:∃ p:Nat,p=2 ^ (n - (d+1)):=⟨_,rfl⟩;rw [← hpp] at hs1 hs3 hs5 hs6;obtain ⟨x1,hx1⟩:∃ x1:Int,x1=((idx+pp:Nat):Int):=⟨_,rfl⟩;rw [← hx1] at hs6;have hi0:0≤i:=by omega
  have hi4:i≤3:=by omega
  have p0:(0≤i)=True:=eq_true hi0;have hb2:=HB.out;rw [Nat.pow_succ] at hb2;have hsh:wrap64 (2 ^ min i.toNat 64)=(pp:Int):=by rw [← hs1];unfold shl;rw [Int.one_mul,IntKind.wrap_i64,show IntKind.i64.bits=64 from rfl];unfold wrap64;omega
  generalize hA:ndBuild vs n d idx ns=ra;obtain ⟨n1,lo⟩:=ra;have hla:=ndBuild_length vs n d idx ns;rw [hA] at hla;generalize hB2:ndBuild vs n d (idx+pp) n1=rb;obtain ⟨n2,hh⟩:=rb;have hlb:=ndBuild_length vs n d (idx+pp) n1;rw [hB2] at hlb
  dsimp only at hla hlb
  have hfin:ndBuild vs n (d+1) idx ns=ndNode n2 ⟨i,lo,hh⟩:=by rw [ndBuild,hA,← hpp];dsimp only;rw [hB2,he]
  have HA:=aM hA;have HB2:=aM hB2;have HFIN:=aM hfin;have HN1:=aM (show n1.length+2 ^ d≤1000 by omega);have HN2:=aM (show n2.length≤999 by omega);have HN0:=aM (show ns.length+2 ^ d≤1000 by omega);have IH:=aM ih;have HS3:=aM hs3;have HS4:=aM hs4;have HX1:=aM hx1;have HI1:=aM hi1;have HD:=aM (show d≤n by omega);clear hi0 hi4 ih hla hlb hA hB2 hfin hs1 hs2 hs3 hs4 hs5 hi he hx hi1 hx1 hb2 hd hpp
  by_cases c2:lo=hh
  ·have c2b:(lo == hh)=true:=beq_iff_eq.mpr c2
   have HNE:=aM (show ndNode n2 (⟨i,lo,hh⟩:S70)=(n2,lo) from by unfold ndNode;rw [if_pos c2]);clear c2
   go_enter Tryd.func84,Tryd.ntmps84
   have z_1:w.cell? ⟨gt,0,none⟩=some (.int .i64 ((n:Int))):=(HO.out.cell 2 rfl 0 rfl);have z_2:w.cell? ⟨gv,0,none⟩=some (.func (.func 84) #[] #[.pointer (some ⟨gt,0,none⟩),.pointer (some ⟨gv,0,none⟩),.pointer (some ⟨gd,0,none⟩)]):=(HO.out.cell 3 rfl 0 rfl)
   go_wp2_with (first | ((with_reducible refine gate_dst (N:=26) rfl ?_);refine Sep.goesCL_ (some 26) rfl rfl (f:=84) (fn:=Tryd.f84) Tryd.func84 (by kernel_rfl) rfl #[.int .i64 (wrap64 (i+1)),.int .i64 xx,.pointer (some ⟨gt,0,none⟩),.pointer (some ⟨gv,0,none⟩),.pointer (some ⟨gd,0,none⟩)] rfl rfl (by (try simp only [mT,mC,mN]);first | done | rfl | (simp only [hsh,hs6];rfl)) ?_;refine (IH.out idx (ns) (wrap64 (i+1)) xx _ _ (F) HD.out HS4.out HI1.out HX.out HN0.out ((((HO.out.front 3 rfl).front 3 rfl).front 3 rfl).front 3 rfl)).mono ?_;rw [HA.out];rintro e w_1 ⟨rfl,vo,ho⟩;refine ⟨_,rfl,?_⟩;obtain ⟨A_b26,c_b26,rfl⟩:=ho.row_slice 1 rfl;have HO_1:=aM ho;clear ho))
   have HD_4_2:=aM (HO_1.out.drew)
   refine start_ (n:=9) (S:=fun w'=>w'.cell? ⟨gv,0,none⟩=some (.func (.func 84) #[] #[.pointer (some ⟨gt,0,none⟩),.pointer (some ⟨gv,0,none⟩),.pointer (some ⟨gd,0,none⟩)])) (ds:=[]) #[fi,fi,fi,fi,fi,fi,fi,fi,fi] (by kernel_rfl) rfl rfl ((HD_4_2.out.cell 3 rfl 0 rfl)) (fun hHeld=>?_)
   generalize w_1.drew=wd_4_3 at HD_4_2 hHeld ⊢
   refine oz_ 1 28 ?_
   refine oz_ 2 29 ?_
   refine oz_ 3 30 ?_
   refine oz_ 4 31 ?_
   refine oz_ 5 32 ?_
   refine oz_ 6 33 ?_
   refine tz1_ 0 27 hHeld ?_
   refine oo_ 7 34 (fun K hK=>?_)
   refine Sep.goesC_ (f:=84) Tryd.func84 (by kernel_rfl) rfl #[.int .i64 (wrap64 (i+1)),.int .i64 x1,.pointer (some ⟨gt,0,none⟩),.pointer (some ⟨gv,0,none⟩),.pointer (some ⟨gd,0,none⟩)] (by rfl) rfl rfl rfl zbc_ ?_
   refine (IH.out (idx+pp) (n1) (wrap64 (i+1)) x1 _ _ (F) HD.out HS3.out HI1.out HX1.out HN1.out ((((HD_4_2.out.front 3 rfl).front 3 rfl).front 3 rfl).front 3 rfl)).mono ?_
   rw [HB2.out]
   rintro e w_2 ⟨rfl,vo,ho⟩
   refine ⟨_,rfl,?_⟩
   obtain ⟨A_b34,c_b34,rfl⟩:=ho.row_slice 1 rfl;have HO_2:=aM ho;clear ho
   refine hK.out _ _ ((HO_2.out.cell 3 rfl 0 rfl)) (fun hHeld=>?_)
   clear hK K
   refine nz_ 34 ?_
   refine oz_ 8 9 ?_
   refine done_ (by kernel_rfl) ?_
   go_wp2
   go_ret
   rw [HFIN.out,HNE.out]
   exact ⟨rfl,_,HO_2.out⟩
  ·have c2b:(lo == hh)=false:=beq_eq_false_iff_ne.mpr c2
   have HND:=aM (show ndNode n2 (⟨i,lo,hh⟩:S70)=if ndAt (⟨i,lo,hh⟩:S70) n2<n2.length then (n2,2+(ndAt (⟨i,lo,hh⟩:S70) n2:Int)) else (n2 ++ [(⟨i,lo,hh⟩:S70)],2+(n2.length:Int)) from by unfold ndNode;rw [if_neg c2]);clear c2
   go_enter Tryd.func84,Tryd.ntmps84
   have z_1:w.cell? ⟨gt,0,none⟩=some (.int .i64 ((n:Int))):=(HO.out.cell 2 rfl 0 rfl);have z_2:w.cell? ⟨gv,0,none⟩=some (.func (.func 84) #[] #[.pointer (some ⟨gt,0,none⟩),.pointer (some ⟨gv,0,none⟩),.pointer (some ⟨gd,0,none⟩)]):=(HO.out.cell 3 rfl 0 rfl)
   go_wp2_with (first | ((with_reducible refine gate_dst (N:=26) rfl ?_);refine Sep.goesCL_ (some 26) rfl rfl (f:=84) (fn:=Tryd.f84) Tryd.func84 (by kernel_rfl) rfl #[.int .i64 (wrap64 (i+1)),.int .i64 xx,.pointer (some ⟨gt,0,none⟩),.pointer (some ⟨gv,0,none⟩),.pointer (some ⟨gd,0,none⟩)] rfl rfl (by (try simp only [mT,mC,mN]);first | done | rfl | (simp only [hsh,hs6];rfl)) ?_;refine (IH.out idx (ns) (wrap64 (i+1)) xx _ _ (F) HD.out HS4.out HI1.out HX.out HN0.out ((((HO.out.front 3 rfl).front 3 rfl).front 3 rfl).front 3 rfl)).mono ?_;rw [HA.out];rintro e w_1 ⟨rfl,vo,ho⟩;refine ⟨_,rfl,?_⟩;obtain ⟨A_b26,c_b26,rfl⟩:=ho.row_slice 1 rfl;have HO_1:=aM ho;clear ho))
   have HD_4_2:=aM (HO_1.out.drew)
   refine start_ (n:=9) (S:=fun w'=>w'.cell? ⟨gv,0,none⟩=some (.func (.func 84) #[] #[.pointer (some ⟨gt,0,none⟩),.pointer (some ⟨gv,0,none⟩),.pointer (some ⟨gd,0,none⟩)])) (ds:=[]) #[fi,fi,fi,fi,fi,fi,fi,fi,fi] (by kernel_rfl) rfl rfl ((HD_4_2.out.cell 3 rfl 0 rfl)) (fun hHeld=>?_)
   generalize w_1.drew=wd_4_3 at HD_4_2 hHeld ⊢
   refine oz_ 1 28 ?_
   refine oz_ 2 29 ?_
   refine oz_ 3 30 ?_
   refine oz_ 4 31 ?_
   refine oz_ 5 32 ?_
   refine oz_ 6 33 ?_
   refine tz1_ 0 27 hHeld ?_
   refine oo_ 7 34 (fun K hK=>?_)
   refine Sep.goesC_ (f:=84) Tryd.func84 (by kernel_rfl) rfl #[.int .i64 (wrap64 (i+1)),.int .i64 x1,.pointer (some ⟨gt,0,none⟩),.pointer (some ⟨gv,0,none⟩),.pointer (some ⟨gd,0,none⟩)] (by rfl) rfl rfl rfl zbc_ ?_
   refine (IH.out (idx+pp) (n1) (wrap64 (i+1)) x1 _ _ (F) HD.out HS3.out HI1.out HX1.out HN1.out ((((HD_4_2.out.front 3 rfl).front 3 rfl).front 3 rfl).front 3 rfl)).mono ?_
   rw [HB2.out]
   rintro e w_2 ⟨rfl,vo,ho⟩
   refine ⟨_,rfl,?_⟩
   obtain ⟨A_b34,c_b34,rfl⟩:=ho.row_slice 1 rfl;have HO_2:=aM ho;clear ho
   refine hK.out _ _ ((HO_2.out.cell 3 rfl 0 rfl)) (fun hHeld=>?_)
   clear hK K
   refine nz_ 34 ?_
   refine oz_ 8 9 ?_
   refine done_ (by kernel_rfl) ?_
   go_wp2_with (first | ((with_reducible refine gate_dst (N:=10) rfl ?_);refine box_event ?hg (N:=10) ?hd (cs:=#[.int .i64 0,.int .i64 0,.int .i64 0]) (t:=70) ?hr ?_;(case hd=>rfl);(case hg=>rfl);(case hr=>exact zb_);intro gx hg w_3 hbox hb;have HO_3:=aM (HO_2.out.add_box (T:=70) (cs:=#[.int .i64 0,.int .i64 0,.int .i64 0]) hg hbox hb);clear hg hbox hb)|((with_reducible refine gate_store (t:=70) (p:=10) (v := .tmp 42) rfl ?_);refine Sep.own_store HO_3.out 0 gx 70 _ #[.int .i64 i,.int .i64 lo,.int .i64 hh] rfl rfl rfl 70 (.tmp 10) (.tmp 42) rfl rfl _ rfl rfl rfl (by kernel_rfl) (by simp [Value.oneCell']) ?_;intro w_4 ho;have HO_4:=aM ho;clear ho;have z_4:w_4.cell? ⟨gd,1,none⟩=some (.slice A_b34 n2.length c_b34):=(HO_4.out.cell 1 rfl 1 rfl)))
   (try simp only [Act.put,sI,s0,sS])
   go_loopw [46] (fun v46 wr => ∃ (j:Int),0≤j∧j≤(n2.length:Int)∧v46 = .int .i64 j∧Aside0 (ndAt (⟨i,lo,hh⟩:S70) (n2.drop j.toNat)+j.toNat=ndAt (⟨i,lo,hh⟩:S70) n2)∧Aside0 (Own w0 wr (Item.box gx 70 #[.int .i64 i,.int .i64 lo,.int .i64 hh] :: Item.box gd 30 #[.int .i64 ((n:Int)),.slice A_b34 n2.length c_b34,.int .i64 0] :: Item.row k70 70 (.slice A_b34 n2.length c_b34) (n2) :: Item.box gt 26 #[.int .i64 ((n:Int)),.slice At vs.length ct] :: Item.box gv 88 #[.func (.func 84) #[] #[.pointer (some ⟨gt,0,none⟩),.pointer (some ⟨gv,0,none⟩),.pointer (some ⟨gd,0,none⟩)]] :: F))) (fun v46 _=>n2.length - (intOf v46).toNat)
   case atStart=>exact ⟨0,Int.le_refl _,by omega,rfl,⟨rfl⟩,⟨(((((HO_4.out.front 4 rfl).front 4 rfl).front 4 rfl).front 4 rfl).front 4 rfl)⟩⟩
   case round =>
    clear HO HO_4;obtain ⟨j,hj0,hj1,rfl,HJ,HO⟩:=hrel
    by_cases c3:j<(n2.length:Int)
    ·have c3b:=decide_eq_true c3
     have hwj:wrap64 (j+1)=j+1:=by have:=HN2.out;unfold wrap64;omega
     obtain ⟨adn,er,hx_⟩:=at_T70 (HO.out.row_reads 2 rfl).2.2 j hj0 c3;clear hx_
     cases er
     have p1:(0≤j)=True:=eq_true hj0;have q1:(j<(n2.length:Int))=True:=eq_true c3;obtain ⟨y0,y1,y2,hnd⟩:∃ a0 a1 a2,rd_T70 n2 j=⟨a0,a1,a2⟩:=⟨_,_,_,rfl⟩;have HN:=aM hnd;have had:=ndAt_drop (⟨i,lo,hh⟩:S70) n2 j hj0 c3;rw [hnd] at had;have HAD:=aM had;clear had hnd;have HE:=aM (nd_eqb ⟨y0,y1,y2⟩ (⟨i,lo,hh⟩:S70))
     by_cases c4:(⟨y0,y1,y2⟩:S70)=(⟨i,lo,hh⟩:S70)
     ·have he:=HE.out
      rw [decide_eq_true c4] at he
      dsimp only at he
      have ha:=HAD.out;rw [if_pos c4] at ha;have hj_:=HJ.out;have HP:=aM (show ndAt (⟨i,lo,hh⟩:S70) n2=j.toNat by omega);have hw2:wrap64 (2+j)=2+j:=by have:=HN2.out;unfold wrap64;omega
      clear ha hj_ c4;have z_5:wr.cell? (adn.add (j.toNat * 3))=some (.int .i64 y0):=(by have e:=(nd_at3m (HO.out.row_reads 2 rfl).2.2 j hj0 c3).1;rw [HN.out] at e;exact e);have z_6:wr.cell? ⟨(adn.add (j.toNat * 3)).block,(adn.add (j.toNat * 3)).off+1,none⟩=some (.int .i64 y1):=(by have e:=(nd_at3m (HO.out.row_reads 2 rfl).2.2 j hj0 c3).2.1;rw [HN.out] at e;exact e);have z_7:wr.cell? ⟨(adn.add (j.toNat * 3)).block,(adn.add (j.toNat * 3)).off+2,none⟩=some (.int .i64 y2):=(by have e:=(nd_at3m (HO.out.row_reads 2 rfl).2.2 j hj0 c3).2.2;rw [HN.out] at e;exact e)
      go_wp2_with (first | ((with_reducible refine gate_dst (N:=12) rfl ?_);refine box_event ?hg (N:=12) ?hd (cs:=#[.int .i64 0,.int .i64 0,.int .i64 0]) (t:=70) ?hr ?_;(case hd=>rfl);(case hg=>rfl);(case hr=>exact zb_);intro gy hg w_1 hbox hb;have HO_1:=aM (HO.out.add_box (T:=70) (cs:=#[.int .i64 0,.int .i64 0,.int .i64 0]) hg hbox hb);clear hg hbox hb)|((with_reducible refine gate_store (t:=70) (p:=12) (v := .tmp 50) rfl ?_);refine Sep.own_store HO_1.out 0 gy 70 _ #[.int .i64 y0,.int .i64 y1,.int .i64 y2] rfl rfl rfl 70 (.tmp 12) (.tmp 50) rfl rfl _ rfl rfl rfl (by kernel_rfl) (by simp [Value.oneCell']) ?_;intro w_2 ho;have HO_2:=aM ho;clear ho;have z_8:w_2.cell? ⟨gy,0,none⟩=some (.int .i64 y0):=(HO_2.out.cell 0 rfl 0 rfl);have z_9:w_2.cell? ⟨gy,1,none⟩=some (.int .i64 y1):=(HO_2.out.cell 0 rfl 1 rfl);have z_10:w_2.cell? ⟨gy,2,none⟩=some (.int .i64 y2):=(HO_2.out.cell 0 rfl 2 rfl);have z_11:w_2.cell? ⟨gx,0,none⟩=some (.int .i64 i):=(HO_2.out.cell 1 rfl 0 rfl);have z_12:w_2.cell? ⟨gx,1,none⟩=some (.int .i64 lo):=(HO_2.out.cell 1 rfl 1 rfl);have z_13:w_2.cell? ⟨gx,2,none⟩=some (.int .i64 hh):=(HO_2.out.cell 1 rfl 2 rfl)))
      have hnn:=HND.out;rw [HP.out,if_pos (by omega),Int.toNat_of_nonneg hj0] at hnn
      go_ret
      rw [HFIN.out,hnn]
      exact ⟨by first | rfl | (rw [hw2];done)|(rw [hw2];rfl),_,((((((HO_2.out.front 5 rfl).front 5 rfl).front 5 rfl).front 5 rfl).front 5 rfl).front 5 rfl).tail.tail⟩
     ·have he:=HE.out
      rw [decide_eq_false c4] at he
      dsimp only at he
      have ha:=HAD.out;rw [if_neg c4] at ha;have HJ2:=aM (show ndAt (⟨i,lo,hh⟩:S70) (n2.drop (j+1).toNat)+(j+1).toNat=ndAt (⟨i,lo,hh⟩:S70) n2 by have:=HJ.out;omega);clear ha c4;have z_5:wr.cell? (adn.add (j.toNat * 3))=some (.int .i64 y0):=(by have e:=(nd_at3m (HO.out.row_reads 2 rfl).2.2 j hj0 c3).1;rw [HN.out] at e;exact e);have z_6:wr.cell? ⟨(adn.add (j.toNat * 3)).block,(adn.add (j.toNat * 3)).off+1,none⟩=some (.int .i64 y1):=(by have e:=(nd_at3m (HO.out.row_reads 2 rfl).2.2 j hj0 c3).2.1;rw [HN.out] at e;exact e);have z_7:wr.cell? ⟨(adn.add (j.toNat * 3)).block,(adn.add (j.toNat * 3)).off+2,none⟩=some (.int .i64 y2):=(by have e:=(nd_at3m (HO.out.row_reads 2 rfl).2.2 j hj0 c3).2.2;rw [HN.out] at e;exact e)
      go_wp2_with (first | ((with_reducible refine gate_dst (N:=12) rfl ?_);refine box_event ?hg (N:=12) ?hd (cs:=#[.int .i64 0,.int .i64 0,.int .i64 0]) (t:=70) ?hr ?_;(case hd=>rfl);(case hg=>rfl);(case hr=>exact zb_);intro gy hg w_1 hbox hb;have HO_1:=aM (HO.out.add_box (T:=70) (cs:=#[.int .i64 0,.int .i64 0,.int .i64 0]) hg hbox hb);clear hg hbox hb)|((with_reducible refine gate_store (t:=70) (p:=12) (v := .tmp 50) rfl ?_);refine Sep.own_store HO_1.out 0 gy 70 _ #[.int .i64 y0,.int .i64 y1,.int .i64 y2] rfl rfl rfl 70 (.tmp 12) (.tmp 50) rfl rfl _ rfl rfl rfl (by kernel_rfl) (by simp [Value.oneCell']) ?_;intro w_2 ho;have HO_2:=aM ho;clear ho;have z_8:w_2.cell? ⟨gy,0,none⟩=some (.int .i64 y0):=(HO_2.out.cell 0 rfl 0 rfl);have z_9:w_2.cell? ⟨gy,1,none⟩=some (.int .i64 y1):=(HO_2.out.cell 0 rfl 1 rfl);have z_10:w_2.cell? ⟨gy,2,none⟩=some (.int .i64 y2):=(HO_2.out.cell 0 rfl 2 rfl);have z_11:w_2.cell? ⟨gx,0,none⟩=some (.int .i64 i):=(HO_2.out.cell 1 rfl 0 rfl);have z_12:w_2.cell? ⟨gx,1,none⟩=some (.int .i64 lo):=(HO_2.out.cell 1 rfl 1 rfl);have z_13:w_2.cell? ⟨gx,2,none⟩=some (.int .i64 hh):=(HO_2.out.cell 1 rfl 2 rfl)))
      go_roundw
      case measure=>simp only [intOf,hwj];omega
      case rel=>exact ⟨j+1,by omega,by omega,by first | rfl | rw [hwj],HJ2,⟨((((((HO_2.out.front 5 rfl).front 5 rfl).front 5 rfl).front 5 rfl).front 5 rfl).front 5 rfl).tail⟩⟩
    ·have c3b:=decide_eq_false c3
     obtain rfl:j=(n2.length:Int):=by omega
     have hj_:=HJ.out;rw [Int.toNat_natCast,List.drop_length,ndAt,Nat.zero_add] at hj_;have hnn:=HND.out;rw [← hj_,if_neg (Nat.lt_irrefl _)] at hnn;have HNN:=aM hnn;clear hnn hj_ HJ HND;have hwl:wrap64 (1+((n2.length+1:Nat):Int))=2+(n2.length:Int):=by have:=HN2.out;unfold wrap64;omega
     have z_5:wr.cell? ⟨gd,1,none⟩=some (.slice A_b34 n2.length c_b34):=(HO.out.cell 1 rfl 1 rfl);have z_6:wr.cell? ⟨gx,0,none⟩=some (.int .i64 i):=(HO.out.cell 0 rfl 0 rfl);have z_7:wr.cell? ⟨gx,1,none⟩=some (.int .i64 lo):=(HO.out.cell 0 rfl 1 rfl);have z_8:wr.cell? ⟨gx,2,none⟩=some (.int .i64 hh):=(HO.out.cell 0 rfl 2 rfl)
     go_wp2_with (first | ((with_reducible refine gate_dst (N:=61) rfl ?_);at_builtin;refine Sep.own_append k70 HO.out 2 _ (n2) 70 rfl rfl (.tmp 58) (.tmp 60) 28 (.agg #[.int .i64 0,.int .i64 0,.int .i64 0]) 24 rfl Tryd.underlying28 info70 rfl (by decide) (by omega) ((⟨i,lo,hh⟩:S70)) [.int .i64 i,.int .i64 lo,.int .i64 hh] rfl rfl (k70_mkM _ _ _ _) (by have:=HN2.out;omega) ?_;intro x_61 w_2 ho;obtain ⟨A_61,n_61,c_61,hn_,rfl⟩:=ho.row_seal 2 rfl;have HN_61:=aM hn_;clear hn_;have HO_2:=aM ho;clear ho)|((with_reducible refine gate_store (t:=28) (p:=62) (v := .tmp 61) rfl ?_);refine Sep.own_store_at HO_2.out 1 gd 30 _ rfl rfl rfl 28 (.tmp 62) (.tmp 61) rfl 1 rfl (.slice A_61 n_61 c_61) rfl rfl (by kernel_rfl) rfl (by simp) ?_;intro w_3 ho;have HO_3:=aM ho;clear ho;have z_9:w_3.cell? ⟨gd,1,none⟩=some (.slice A_61 n_61 c_61):=(HO_3.out.cell 1 rfl 1 rfl)))
     have hwl2:∀ m:Nat,m=(n2 ++ [(⟨i,lo,hh⟩:S70)]).length→wrap64 (1+(m:Int))=2+(n2.length:Int):=by intro m hm;rw [hm,List.length_append,List.length_singleton];exact hwl
     go_ret
     rw [HFIN.out,HNN.out]
     exact ⟨by have hq:=hwl2 _ HN_61.out;first | (rw [hq];done)|(rw [hq];rfl),_,(((((HO_3.out.front 4 rfl).front 4 rfl).front 4 rfl).front 4 rfl).front 4 rfl).tail⟩
end
def impl_diagramOf.f (k:Nat) (a0_0:Int) (l0_1:List Int):Option (Int×List (S70)×Int):=if 0≤a0_0∧a0_0≤4∧l0_1.length=2 ^ a0_0.toNat then some (a0_0,(ndBuild l0_1 a0_0.toNat a0_0.toNat 0 []).1,(ndBuild l0_1 a0_0.toNat a0_0.toNat 0 []).2) else none
open Go.Proofs.YtlnhpkjioppbiaaDoor.Sep in
set_option maxHeartbeats 16000000 in
set_option maxRecDepth 100000 in
theorem impl_diagramOf.calls (k:Nat) (a0_0:Int) (A0_1:Option Addr) (c0_1:Nat) (l0_1:List Int) (r1:Int) (r2:List (S70)) (r3:Int) (w:World) (hr0_1:Kd.C (Kd.int .i64) w A0_1 l0_1.length l0_1) (hc0_1:l0_1.length≤c0_1) (h:impl_diagramOf.f k a0_0 l0_1=some (r1,r2,r3)) :
  Calls Tryd.prog 49 #[.agg #[.int .i64 a0_0,.slice A0_1 l0_1.length c0_1]] w fun e w' => ∃ v1_:Value,e = .returned (.agg #[.int .i64 r1,v1_,.int .i64 r3])∧Kd.R k70 70 w' w.heap.size (fun _=>True) v1_ r2∧Below w.heap.size w w':=by
 unfold impl_diagramOf.f at h
 split at h
 ·rename_i hcc
  obtain ⟨hn0,hn4,hl⟩:=hcc;obtain ⟨n,rfl⟩:=Int.eq_ofNat_of_zero_le hn0;rw [Int.toNat_natCast] at h hl;have h2:=Option.some.inj h;clear h;have HN4:=aM (show n≤4 by omega);have HVL:=aM hl;have HC:=aM hr0_1;clear hr0_1 hc0_1 hl hn0 hn4;have hbl:=ndBuild_length l0_1 n n 0 [];generalize hB:ndBuild l0_1 n n 0 []=rb at h2 hbl;obtain ⟨n2,rr⟩:=rb
  injection h2 with e1 e2
  injection e2 with e2 e3
  dsimp only at e1 e2 e3 hbl
  subst e1;subst e2;subst e3;have HB:=aM hB;clear hB hbl
  go_enter Tryd.func49,Tryd.ntmps49
  go_wp2_with (first | ((with_reducible refine gate_dst (N:=1) rfl ?_);refine box_event ?hg (N:=1) ?hd (cs:=#[.int .i64 ((n:Int)),.slice A0_1 l0_1.length c0_1]) (t:=26) ?hr ?_;(case hd=>rfl);(case hg=>rfl);(case hr=>exact zb_);intro gt hg w_1 hbox hb;have HO_1:=aM ((Sep.Own.nil w).add_box (T:=26) (cs:=#[.int .i64 ((n:Int)),.slice A0_1 l0_1.length c0_1]) hg hbox hb);clear hg hbox hb)|((with_reducible refine gate_dst (N:=2) rfl ?_);refine box_event ?hg (N:=2) ?hd (cs:=#[.int .i64 0,.slice none 0 0,.int .i64 0]) (t:=30) ?hr ?_;(case hd=>rfl);(case hg=>rfl);(case hr=>exact zb_);intro gr hg w_2 hbox hb;have HO_2:=aM (HO_1.out.add_box (T:=30) (cs:=#[.int .i64 0,.slice none 0 0,.int .i64 0]) hg hbox hb);clear hg hbox hb;have z_1:w_2.cell? ⟨gt,0,none⟩=some (.int .i64 ((n:Int))):=(HO_2.out.cell 1 rfl 0 rfl))|((with_reducible refine gate_dst (N:=3) rfl ?_);refine box_event ?hg (N:=3) ?hd (cs:=#[.int .i64 0,.slice none 0 0,.int .i64 0]) (t:=30) ?hr ?_;(case hd=>rfl);(case hg=>rfl);(case hr=>exact zb_);intro gd hg w_3 hbox hb;have HO_3:=aM (HO_2.out.add_box (T:=30) (cs:=#[.int .i64 0,.slice none 0 0,.int .i64 0]) hg hbox hb);clear hg hbox hb)|((with_reducible refine gate_store (t:=30) (p:=3) (v := .tmp 7) rfl ?_);refine Sep.own_store HO_3.out 0 gd 30 _ #[.int .i64 ((n:Int)),.slice none 0 0,.int .i64 0] rfl rfl rfl 30 (.tmp 3) (.tmp 7) rfl rfl _ rfl rfl rfl (by kernel_rfl) (by simp [Value.oneCell']) ?_;intro w_4 ho;have HO_4:=aM ho;clear ho)|((with_reducible refine gate_dst (N:=4) rfl ?_);refine box_event ?hg (N:=4) ?hd (cs:=#[.nilFunc]) (t:=88) ?hr ?_;(case hd=>rfl);(case hg=>rfl);(case hr=>exact zb_);intro gv hg w_5 hbox hb;have HO_5:=aM (HO_4.out.add_box (T:=88) (cs:=#[.nilFunc]) hg hbox hb);clear hg hbox hb)|((with_reducible refine gate_store (t:=88) (p:=4) (v := .tmp 8) rfl ?_);refine Sep.own_store HO_5.out 0 gv 88 _ #[.func (.func 84) #[] #[.pointer (some ⟨gt,0,none⟩),.pointer (some ⟨gv,0,none⟩),.pointer (some ⟨gd,0,none⟩)]] rfl rfl rfl 88 (.tmp 4) (.tmp 8) rfl rfl (.func (.func 84) #[] #[.pointer (some ⟨gt,0,none⟩),.pointer (some ⟨gv,0,none⟩),.pointer (some ⟨gd,0,none⟩)]) rfl rfl rfl (by kernel_rfl) (by simp [Value.oneCell']) ?_;intro w_6 ho;have HO_6:=aM ho;clear ho;have z_2:w_6.cell? ⟨gv,0,none⟩=some (.func (.func 84) #[] #[.pointer (some ⟨gt,0,none⟩),.pointer (some ⟨gv,0,none⟩),.pointer (some ⟨gd,0,none⟩)]):=(HO_6.out.cell 0 rfl 0 rfl))|((with_reducible refine gate_dst (N:=10) rfl ?_);refine Sep.goesCL_ (some 10) rfl rfl (f:=84) (fn:=Tryd.f84) Tryd.func84 (by kernel_rfl) rfl #[.int .i64 0,.int .i64 0,.pointer (some ⟨gt,0,none⟩),.pointer (some ⟨gv,0,none⟩),.pointer (some ⟨gd,0,none⟩)] rfl rfl zbc_ ?_;refine (impl_diagramOf.build w gt gv gd n HN4.out l0_1 HVL.out _ _ HC.out n 0 [] 0 0 _ _ [Item.box gr 30 #[.int .i64 0,.slice none 0 0,.int .i64 0]] (Nat.le_refl _) (by simp) (by simp) rfl (by rw [List.length_nil,Nat.zero_add];exact Nat.le_trans (Nat.pow_le_pow_right (by decide) HN4.out) (by decide)) (((((HO_6.out.nilrow k70 70).front 1 rfl).front 4 rfl).front 2 rfl).front 3 rfl)).mono ?_;rw [HB.out];rintro e w_7 ⟨rfl,vo,ho⟩;refine ⟨_,rfl,?_⟩;obtain ⟨A_b,c_b,rfl⟩:=ho.row_slice 1 rfl;have HO_7:=aM ho;clear ho)|((with_reducible refine gate_store (t:=3) (p:=11) (v := .tmp 10) rfl ?_);refine Sep.own_store_at HO_7.out 0 gd 30 _ rfl rfl rfl 3 (.tmp 11) (.tmp 10) rfl 2 rfl (.int .i64 rr) rfl rfl (by kernel_rfl) rfl (by simp) ?_;intro w_8 ho;have HO_8:=aM ho;clear ho;have z_3:w_8.cell? ⟨gd,0,none⟩=some (.int .i64 ((n:Int))):=(HO_8.out.cell 0 rfl 0 rfl);have z_4:w_8.cell? ⟨gd,1,none⟩=some (.slice A_b n2.length c_b):=(HO_8.out.cell 0 rfl 1 rfl);have z_5:w_8.cell? ⟨gd,2,none⟩=some (.int .i64 rr):=(HO_8.out.cell 0 rfl 2 rfl))|((with_reducible refine gate_store (t:=30) (p:=2) (v := .tmp 12) rfl ?_);refine Sep.own_store HO_8.out 4 gr 30 _ #[.int .i64 ((n:Int)),.slice A_b n2.length c_b,.int .i64 rr] rfl rfl rfl 30 (.tmp 2) (.tmp 12) rfl rfl _ rfl rfl rfl (by kernel_rfl) (by simp [Value.oneCell']) ?_;intro w_9 ho;have HO_9:=aM ho;clear ho))
  (try simp only [Exit.inBlock,Exit.then])
  refine bodyPost_ret (results_cell_row rfl _ _ gr 30 #[.int .i64 ((n:Int)),.slice A_b n2.length c_b,.int .i64 rr] (0,0) _ rfl (HO_9.out.blk 4 rfl) Tryd.underlying30 rfl (by kernel_rfl)) rfl ?_
  obtain ⟨P_,hP⟩:=HO_9.out.get 1 rfl
  exact ⟨_,rfl,Kd.R_mono hP (fun _ _=>trivial),HO_9.out.base⟩
 ·cases h
def impl_DiagramOf.f (k:Nat) (a0_0:Int) (l0_1:List Int):Option (Int×(List (S70))×Int×Bool):=(impl_IsTable.f k a0_0 l0_1).bind fun t195=>(if t195=true then ((impl_diagramOf.f k a0_0 l0_1).bind fun bt196=>(some (bt196.1,bt196.2.1,bt196.2.2,true))) else (some (0,([]:List (S70)),0,false)))
theorem impl_DiagramOf.calls (k:Nat) (a0_0:Int) (A0_1:Option Addr) (c0_1:Nat) (l0_1:List Int) (r1:Int) (r2:List (S70)) (r3:Int) (r4:Bool) (w:World) (hr0_1:Kd.C (Kd.int .i64) w A0_1 l0_1.length l0_1) (hc0_1:l0_1.length≤c0_1) (h:impl_DiagramOf.f k a0_0 l0_1=some (r1,r2,r3,r4)) :
  Calls Tryd.prog 7 #[.agg #[.int .i64 a0_0,.slice A0_1 l0_1.length c0_1]] w fun e w' => ∃ v1_:Value,e = .returned (.tuple #[.agg #[.int .i64 r1,v1_,.int .i64 r3],.bool r4])∧Kd.R k70 70 w' w.heap.size (fun _=>True) v1_ r2∧Below w.heap.size w w':=by
 have hu26:=Tryd.underlying26
 have hu30:=Tryd.underlying30
 have HR0_1:=aM hr0_1
 have HC0_1:=aM hc0_1
 clear hr0_1 hc0_1
 have HB:=aM (Below.refl w.heap.size w)
 have H:((impl_IsTable.f k a0_0 l0_1).bind fun t195=>(if t195=true then ((impl_diagramOf.f k a0_0 l0_1).bind fun bt196=>(some (bt196.1,bt196.2.1,bt196.2.2,true))) else (some (0,([]:List (S70)),0,false))))=some (r1,r2,r3,r4):=h
 clear h
 replace H:=oB.mp H
 obtain ⟨t195,A20,H⟩:=H
 replace H:(if t195=true then ((impl_diagramOf.f k a0_0 l0_1).bind fun bt196=>(some (bt196.1,bt196.2.1,bt196.2.2,true))) else (some (0,([]:List (S70)),0,false)))=some (r1,r2,r3,r4):=H
 have A2:=aM A20
 clear A20
 by_cases c3:t195=true
 ·subst c3
  have H1:((impl_diagramOf.f k a0_0 l0_1).bind fun bt196=>(some (bt196.1,bt196.2.1,bt196.2.2,true)))=some (r1,r2,r3,r4):=by rw [if_pos rfl] at H;exact H
  clear H;have H:=H1;clear H1;replace H:=oB.mp H;obtain ⟨⟨t196,t197,t200⟩,A40,H⟩:=H;replace H:(some (t196,t197,t200,true))=some (r1,r2,r3,r4):=H;have A4:=aM A40;clear A40
  simp only [Option.some.injEq,Prod.mk.injEq] at H
  obtain ⟨rfl,rfl,rfl,rfl⟩:=H
  go_enter Tryd.func7,Tryd.ntmps7
  go_wp2_with (first | ((with_reducible refine gate_dst (N:=1) rfl ?_);refine box_event ?hg (N:=1) ?hd (cs:=#[.int .i64 a0_0,.slice A0_1 l0_1.length c0_1]) (t:=26) ?hr ?_;(case hd=>rfl);(case hg=>rfl);(case hr=>exact zb_);intro gb193 hg w5 hbox hb;have n_:=z (below_step za_ hb)<|z (hbox)<|z ((by rw [hg];exact (below_size za_):w.heap.size≤gb193))<|z1 ((by rw [hg];exact (below_size za_):w.heap.size≤gb193));clear HB;obtain ⟨HB,BK193,GW193,GE193⟩:=n_;clear hb hbox hg)|((with_reducible refine gate_dst (N:=2) rfl ?_);refine box_event ?hg (N:=2) ?hd (cs:=#[.int .i64 0,.slice none 0 0,.int .i64 0]) (t:=30) ?hr ?_;(case hd=>rfl);(case hg=>rfl);(case hr=>exact zb_);intro gb194 hg w6 hbox hb;have n_:=z (blk_below (zb BK193.out) hb)<|z (below_step zgh_ hb)<|z (hbox)<|z ((by rw [hg];exact (below_size zgh_):w.heap.size≤gb194))<|z ((by rw [hg];exact (below_size zgh_):w.heap.size≤gb194))<|z ((by rw [hg];exact Nat.ne_of_lt (blk_lt (zb BK193.out)):gb193≠gb194))<|z1 ((by rw [hg];exact Nat.ne_of_gt (blk_lt (zb BK193.out)):gb194≠gb193));clear BK193 HB;obtain ⟨BK193,HB,BK194,GW194,GE194,NB193_194,NB194_193⟩:=n_;clear hb hbox hg;have hnb7:=NB193_194.out;have hnc7:=NB194_193.out;obtain ⟨hcz8_0,hcz8_1,hfz8_0,hfz8_1⟩:=zk2 BK193.out)|((with_reducible refine gate_callee (f:=10) rfl ?_);refine goesL_ (some 5) rfl rfl Tryd.func10 (by kernel_rfl) rfl #[.agg #[.int .i64 a0_0,.slice A0_1 l0_1.length c0_1]] rfl zd_ ?_;(with_reducible refine (impl_IsTable.calls k a0_0 _ _ l0_1 true _ ?side1 ?side2 A2.out).mono ?_);(case side1=>exact zg_);(case side2=>exact HC0_1.out);rintro e w9 ⟨rfl,hb⟩;refine ⟨_,rfl,?_⟩;have n_:=z (blk_below (zb BK193.out) hb)<|z (blk_below (zb BK194.out) hb)<|z1 (below_step zgi_ hb);clear BK193 BK194 HB;obtain ⟨BK193,BK194,HB⟩:=n_;clear hb;obtain ⟨hcz10_0,hcz10_1,hfz10_0,hfz10_1⟩:=zk2 BK193.out)|((with_reducible refine gate_callee (f:=49) rfl ?_);refine goesL_ (some 9) rfl rfl Tryd.func49 (by kernel_rfl) rfl #[.agg #[.int .i64 a0_0,.slice A0_1 l0_1.length c0_1]] rfl zd_ ?_;(with_reducible refine (impl_diagramOf.calls k a0_0 _ _ l0_1 t196 t197 t200 _ ?side1 ?side2 A4.out).mono ?_);(case side1=>exact zg_);(case side2=>exact HC0_1.out);rintro e w11 ⟨v198,rfl,ho0,hb⟩;refine ⟨_,rfl,?_⟩;have n_:=z (Kd.R_lower ho0 (below_size zgi_))<|z (blk_below (zb BK193.out) hb)<|z (blk_below (zb BK194.out) hb)<|z1 (below_step zgi_ hb);clear BK193 BK194 HB;obtain ⟨HO199,BK193,BK194,HB⟩:=n_;clear hb;(try clear ho0);obtain ⟨hcz12_0,hcz12_1,hcz12_2,hfz12_0,hfz12_1,hfz12_2⟩:=zk3 BK194.out;obtain ⟨Ao13,co13,eo13⟩:=Kd.R_slice HO199.out;subst eo13))
  refine bodyPost_ret (results_ct rfl _ _ gb194 30 #[.int .i64 t196,.slice Ao13 t197.length co13,.int .i64 t200] (0,0) _ rfl (by refine zb ?_;refine blk_put (cs:=#[.int .i64 t196,.slice Ao13 t197.length co13,.int .i64 0]) ?_ 2 _ rfl;refine zb ?_;refine blk_put (cs:=#[.int .i64 t196,.slice none 0 0,.int .i64 0]) ?_ 1 _ rfl;refine zb ?_;refine blk_put (cs:=#[.int .i64 0,.slice none 0 0,.int .i64 0]) ?_ 0 _ rfl;refine zb ?_;exact BK194.out) Tryd.underlying30 rfl (by kernel_rfl)) rfl ?_
  exact ⟨_,zf_,by refine zr ?_;exact Kd.R_mono (Kd.R_far (p:=⟨gb194,2,none⟩) (Kd.R_far (p:=⟨gb194,1,none⟩) (Kd.R_far (p:=⟨gb194,0,none⟩) (Kd.R_types HO199.out BK194.out (by decide)) (fun _ hk=>hk.2) (.int .i64 t196)) (fun _ hk=>hk.2) (.slice Ao13 t197.length co13)) (fun _ hk=>hk.2) (.int .i64 t200)) (fun _ hk=>trivial),zgi_⟩
 ·replace c3:=Bool.eq_false_iff.mpr c3
  subst c3;have H1:(some (0,([]:List (S70)),0,false))=some (r1,r2,r3,r4):=by rw [if_neg (show ¬ (false=true) by decide)] at H;exact H
  clear H;have H:=H1;clear H1
  simp only [Option.some.injEq,Prod.mk.injEq] at H
  obtain ⟨rfl,rfl,rfl,rfl⟩:=H
  go_enter Tryd.func7,Tryd.ntmps7
  go_wp2_with (first | ((with_reducible refine gate_dst (N:=1) rfl ?_);refine box_event ?hg (N:=1) ?hd (cs:=#[.int .i64 a0_0,.slice A0_1 l0_1.length c0_1]) (t:=26) ?hr ?_;(case hd=>rfl);(case hg=>rfl);(case hr=>exact zb_);intro gb193 hg w14 hbox hb;have n_:=z (below_step za_ hb)<|z (hbox)<|z ((by rw [hg];exact (below_size za_):w.heap.size≤gb193))<|z1 ((by rw [hg];exact (below_size za_):w.heap.size≤gb193));clear HB;obtain ⟨HB,BK193,GW193,GE193⟩:=n_;clear hb hbox hg)|((with_reducible refine gate_dst (N:=2) rfl ?_);refine box_event ?hg (N:=2) ?hd (cs:=#[.int .i64 0,.slice none 0 0,.int .i64 0]) (t:=30) ?hr ?_;(case hd=>rfl);(case hg=>rfl);(case hr=>exact zb_);intro gb194 hg w15 hbox hb;have n_:=z (blk_below (zb BK193.out) hb)<|z (below_step zgh_ hb)<|z (hbox)<|z ((by rw [hg];exact (below_size zgh_):w.heap.size≤gb194))<|z ((by rw [hg];exact (below_size zgh_):w.heap.size≤gb194))<|z ((by rw [hg];exact Nat.ne_of_lt (blk_lt (zb BK193.out)):gb193≠gb194))<|z1 ((by rw [hg];exact Nat.ne_of_gt (blk_lt (zb BK193.out)):gb194≠gb193));clear BK193 HB;obtain ⟨BK193,HB,BK194,GW194,GE194,NB193_194,NB194_193⟩:=n_;clear hb hbox hg;have hnb16:=NB193_194.out;have hnc16:=NB194_193.out;obtain ⟨hcz17_0,hcz17_1,hfz17_0,hfz17_1⟩:=zk2 BK193.out)|((with_reducible refine gate_callee (f:=10) rfl ?_);refine goesL_ (some 5) rfl rfl Tryd.func10 (by kernel_rfl) rfl #[.agg #[.int .i64 a0_0,.slice A0_1 l0_1.length c0_1]] rfl zd_ ?_;(with_reducible refine (impl_IsTable.calls k a0_0 _ _ l0_1 false _ ?side1 ?side2 A2.out).mono ?_);(case side1=>exact zg_);(case side2=>exact HC0_1.out);rintro e w18 ⟨rfl,hb⟩;refine ⟨_,rfl,?_⟩;have n_:=z (blk_below (zb BK193.out) hb)<|z (blk_below (zb BK194.out) hb)<|z1 (below_step zgi_ hb);clear BK193 BK194 HB;obtain ⟨BK193,BK194,HB⟩:=n_;clear hb;obtain ⟨hcz19_0,hcz19_1,hcz19_2,hfz19_0,hfz19_1,hfz19_2⟩:=zk3 BK194.out))
  refine bodyPost_ret (results_ct rfl _ _ gb194 30 #[.int .i64 0,.slice none 0 0,.int .i64 0] (0,0) _ rfl (by refine zb ?_;refine blk_put (cs:=#[.int .i64 0,.slice none 0 0,.int .i64 0]) ?_ 2 _ rfl;refine zb ?_;refine blk_put (cs:=#[.int .i64 0,.slice none 0 0,.int .i64 0]) ?_ 1 _ rfl;refine zb ?_;refine blk_put (cs:=#[.int .i64 0,.slice none 0 0,.int .i64 0]) ?_ 0 _ rfl;refine zb ?_;exact BK194.out) Tryd.underlying30 rfl (by kernel_rfl)) rfl ?_
  exact ⟨_,zf_,zdi_,zgi_⟩
def spec_l1In.f (a0:Int) (a1:Int) (a2:Int):Option (Bool):=if a0≥a1 then (some (decide (a0≤a2))) else (some false)
theorem spec_l1In.calls (a0:Int) (a1:Int) (a2:Int) (r:Bool) (w:World) (h:spec_l1In.f a0 a1 a2=some r) :
  Calls Tryd.prog 76 #[.int .i64 a0,.int .i64 a1,.int .i64 a2] w fun e w'=>e = .returned (.bool r)∧Drawn0 w w':=by
 have H:(if a0≥a1 then (some (decide (a0≤a2))) else (some false))=some r:=h
 clear h
 by_cases c4:a0≥a1
 ·rw [if_pos c4] at H
  have c4b0:decide (a1≤a0)=true:=decide_eq_true c4;clear c4;obtain rfl:=Option.some.inj H
  go_enter Tryd.func76,Tryd.ntmps76
  go_wp2
  go_ret
  exact ⟨ze_,zbb_⟩
 ·rw [if_neg c4] at H
  have c4b0:decide (a1≤a0)=false:=decide_eq_false c4;clear c4;obtain rfl:=Option.some.inj H
  go_enter Tryd.func76,Tryd.ntmps76
  go_wp2
  go_ret
  exact ⟨ze_,zbb_⟩
def spec_l1All.l0:Nat→Int→Int→List Int→Int→Int→Option (Bool)
 | 0,_,_,_,_,_=>none
 | k+1,x1,x2,x9,x10,x11=>if x11<x10 then (if 0≤x11 then (if x11<(x9.length:Int) then ((spec_l1In.f (rd x9 x11) x1 x2).bind fun t202=>(if t202=true then (spec_l1All.l0 k x1 x2 x9 x10 (wrap64 (x11+1))) else (some false))) else (none)) else (none)) else (some true)
def spec_l1All.f (k:Nat) (l0:List Int) (a1:Int) (a2:Int):Option (Bool):=spec_l1All.l0 k a1 a2 l0 (l0.length:Int) 0
theorem spec_l1All.calls (k:Nat) (A0:Option Addr) (c0:Nat) (l0:List Int) (a1:Int) (a2:Int) (r:Bool) (w:World) (hr0:Kd.C (Kd.int .i64) w A0 l0.length l0) (hc0:l0.length≤c0) (h:spec_l1All.f k l0 a1 a2=some r) :
  Calls Tryd.prog 63 #[.slice A0 l0.length c0,.int .i64 a1,.int .i64 a2] w fun e w'=>e = .returned (.bool r)∧Drawn0 w w':=by
 have HR0:=aM hr0
 have HC0:=aM hc0
 clear hr0 hc0
 have H:(spec_l1All.l0 k a1 a2 l0 (l0.length:Int) 0)=some r:=h
 clear h
 have H':=aM H
 clear H
 go_enter Tryd.func63,Tryd.ntmps63
 go_wp2
 go_loopg [11] k (fun kq v11 w' => ∃ (x11_1:Int),v11 = .int .i64 x11_1∧Aside0 (spec_l1All.l0 kq a1 a2 l0 (l0.length:Int) x11_1=some r)∧Aside0 (kq≤k)∧Drawn0 w w')
 case atStart=>exact ⟨(0),ze_,H',⟨Nat.le_refl _⟩,zbb_⟩
 case round =>
  clear H';obtain ⟨x11_1,rfl,HA,HK1,⟨m1,rfl⟩⟩:=hrel
  cases gk with
  | zero=>exact absurd HA.out (by simp [spec_l1All.l0])
  | succ k1 =>
   have H:=HA.out;clear HA
   simp only [spec_l1All.l0] at H
   by_cases c4:x11_1<(l0.length:Int)
   ·rw [if_pos c4] at H
    have c4b0:=decide_eq_true c4;clear c4
    by_cases c5:0≤x11_1
    ·rw [if_pos c5] at H
     have c5b0:=decide_eq_true c5;clear c5
     by_cases c6:x11_1<(l0.length:Int)
     ·rw [if_pos c6] at H
      have c6b0:=decide_eq_true c6;clear c6;replace H:=oB.mp H;obtain ⟨t202,A70,H⟩:=H;replace H:(if t202=true then (spec_l1All.l0 k1 a1 a2 l0 (l0.length:Int) (wrap64 (x11_1+1))) else (some false))=some r:=H;have A7:=aM A70;clear A70
      by_cases c8:t202=true
      ·subst c8
       have H1:(spec_l1All.l0 k1 a1 a2 l0 (l0.length:Int) (wrap64 (x11_1+1)))=some r:=by rw [if_pos rfl] at H;exact H
       clear H;have H:=H1;clear H1;have H':=aM H;clear H;have p201:0≤(x11_1:Int):=of_decide_eq_true zc_;have q201:x11_1<(l0.length:Int):=of_decide_eq_true zc_;obtain ⟨ad201,e201,hx201_0⟩:=Kd.at_int HR0.out x11_1 p201 q201
       cases e201
       replace p201:=eq_true p201;replace q201:=eq_true q201
       go_wp2_with (first | ((with_reducible refine gate_callee (f:=76) rfl ?_);refine goesL_ (some 18) rfl rfl Tryd.func76 (by kernel_rfl) rfl #[.int .i64 (rd l0 x11_1),.int .i64 a1,.int .i64 a2] rfl zd_ ?_;(with_reducible refine (spec_l1In.calls (rd l0 x11_1) a1 a2 true _ A7.out).mono ?_);rintro e w' ⟨rfl,⟨nd,rfl⟩⟩;refine ⟨_,rfl,?_⟩))
       go_roundg k1
       case measure=>have:=HK1.out;omega
       case rel=>exact ⟨(wrap64 (x11_1+1)),ze_,H',⟨zbd_⟩,zbb_⟩
      ·replace c8:=Bool.eq_false_iff.mpr c8
       subst c8;have H1:(some false)=some r:=by rw [if_neg (show ¬ (false=true) by decide)] at H;exact H
       clear H;have H:=H1;clear H1;obtain rfl:=Option.some.inj H;have p201:0≤(x11_1:Int):=of_decide_eq_true zc_;have q201:x11_1<(l0.length:Int):=of_decide_eq_true zc_;obtain ⟨ad201,e201,hx201_0⟩:=Kd.at_int HR0.out x11_1 p201 q201
       cases e201
       replace p201:=eq_true p201;replace q201:=eq_true q201
       go_wp2_with (first | ((with_reducible refine gate_callee (f:=76) rfl ?_);refine goesL_ (some 18) rfl rfl Tryd.func76 (by kernel_rfl) rfl #[.int .i64 (rd l0 x11_1),.int .i64 a1,.int .i64 a2] rfl zd_ ?_;(with_reducible refine (spec_l1In.calls (rd l0 x11_1) a1 a2 false _ A7.out).mono ?_);rintro e w' ⟨rfl,⟨nd,rfl⟩⟩;refine ⟨_,rfl,?_⟩))
       go_ret
       exact ⟨ze_,zbb_⟩
     ·rw [if_neg c6] at H
      exact q3n_ H
    ·rw [if_neg c5] at H
     exact q3n_ H
   ·rw [if_neg c4] at H
    have c4b0:=decide_eq_false c4;clear c4;obtain rfl:=Option.some.inj H
    go_wp2
    go_ret
    exact ⟨ze_,zbb_⟩
def spec_ttInputs.f (a0:Int):Option (Bool):=(spec_l1In.f a0 0 4).bind fun t203=>(some t203)
theorem spec_ttInputs.calls (a0:Int) (r:Bool) (w:World) (h:spec_ttInputs.f a0=some r) :
  Calls Tryd.prog 85 #[.int .i64 a0] w fun e w'=>e = .returned (.bool r)∧Drawn0 w w':=by
 have H:((spec_l1In.f a0 0 4).bind fun t203=>(some t203))=some r:=h
 clear h
 replace H:=oB.mp H
 obtain ⟨t203,A20,H⟩:=H
 replace H:(some t203)=some r:=H
 have A2:=aM A20
 clear A20
 obtain rfl:=Option.some.inj H
 go_enter Tryd.func85,Tryd.ntmps85
 go_wp2_with (first | ((with_reducible refine gate_callee (f:=76) rfl ?_);refine goesL_ (some 4) rfl rfl Tryd.func76 (by kernel_rfl) rfl #[.int .i64 a0,.int .i64 0,.int .i64 4] rfl zd_ ?_;(with_reducible refine (spec_l1In.calls a0 0 4 t203 _ A2.out).mono ?_);rintro e w' ⟨rfl,⟨nd,rfl⟩⟩;refine ⟨_,rfl,?_⟩))
 go_ret
 exact ⟨ze_,zbb_⟩
def spec_ttGood.f (k:Nat) (a0_0:Int) (l0_1:List Int):Option (Bool):=(spec_ttInputs.f a0_0).bind fun t205=>(if t205=true then (if 0≤(IntKind.u64.wrap (a0_0)) then (if (l0_1.length:Int)=(shl .i64 1 (IntKind.u64.wrap (a0_0))) then ((spec_l1All.f k l0_1 0 1).bind fun t206=>(some t206)) else (some false)) else (none)) else (some false))
theorem spec_ttGood.calls (k:Nat) (a0_0:Int) (A0_1:Option Addr) (c0_1:Nat) (l0_1:List Int) (r:Bool) (w:World) (hr0_1:Kd.C (Kd.int .i64) w A0_1 l0_1.length l0_1) (hc0_1:l0_1.length≤c0_1) (h:spec_ttGood.f k a0_0 l0_1=some r) :
  Calls Tryd.prog 50 #[.agg #[.int .i64 a0_0,.slice A0_1 l0_1.length c0_1]] w fun e w'=>e = .returned (.bool r)∧Below w.heap.size w w':=by
 have hu26:=Tryd.underlying26
 have HR0_1:=aM hr0_1
 have HC0_1:=aM hc0_1
 clear hr0_1 hc0_1
 have HB:=aM (Below.refl w.heap.size w)
 have H:((spec_ttInputs.f a0_0).bind fun t205=>(if t205=true then (if 0≤(IntKind.u64.wrap (a0_0)) then (if (l0_1.length:Int)=(shl .i64 1 (IntKind.u64.wrap (a0_0))) then ((spec_l1All.f k l0_1 0 1).bind fun t206=>(some t206)) else (some false)) else (none)) else (some false)))=some r:=h
 clear h
 replace H:=oB.mp H
 obtain ⟨t205,A20,H⟩:=H
 replace H:(if t205=true then (if 0≤(IntKind.u64.wrap (a0_0)) then (if (l0_1.length:Int)=(shl .i64 1 (IntKind.u64.wrap (a0_0))) then ((spec_l1All.f k l0_1 0 1).bind fun t206=>(some t206)) else (some false)) else (none)) else (some false))=some r:=H
 have A2:=aM A20
 clear A20
 by_cases c3:t205=true
 ·subst c3
  have H1:(if 0≤(IntKind.u64.wrap (a0_0)) then (if (l0_1.length:Int)=(shl .i64 1 (IntKind.u64.wrap (a0_0))) then ((spec_l1All.f k l0_1 0 1).bind fun t206=>(some t206)) else (some false)) else (none))=some r:=by rw [if_pos rfl] at H;exact H
  clear H;have H:=H1;clear H1;obtain ⟨ji4,hji4⟩:∃ j_:Int,(IntKind.u64.wrap (a0_0))=j_:=⟨_,rfl⟩;replace H:(if 0≤(ji4) then (if (l0_1.length:Int)=(shl .i64 1 (ji4)) then ((spec_l1All.f k l0_1 0 1).bind fun t206=>(some t206)) else (some false)) else (none))=some r:=by first | (rw [hji4] at H;exact H)|(simp only [hji4] at H ⊢;exact H)
  (try rw [hji4] at A2)
  by_cases c5:0≤(ji4)
  ·rw [if_pos c5] at H
   have c5b0:=eq_true c5;have c5b1:=decide_eq_true c5;clear c5;obtain ⟨ji6,hji6⟩:∃ j_:Int,(shl .i64 1 (ji4))=j_:=⟨_,rfl⟩;replace H:(if (l0_1.length:Int)=(ji6) then ((spec_l1All.f k l0_1 0 1).bind fun t206=>(some t206)) else (some false))=some r:=by first | (rw [hji6] at H;exact H)|(simp only [hji6] at H ⊢;exact H)
   (try rw [hji6] at A2);have hji6_:(IntKind.i64.wrap (1 * 2 ^ min (ji4).toNat 64))=ji6:=hji6;have hji6z:(ji4)≤64→(IntKind.i64.wrap (1 * 2 ^ (ji4).toNat))=ji6:=shl_small hji6;have hji6u:(IntKind.i64.wrap (2 ^ min (ji4).toNat 64))=ji6:=by have h_:=hji6_;rw [Int.one_mul] at h_;exact h_
   have hji6v:(ji4)≤64→(IntKind.i64.wrap (2 ^ (ji4).toNat))=ji6:=fun hle_=>by have h_:=hji6z hle_;rw [Int.one_mul] at h_;exact h_
   have hji6y:(wrap64 (1 * 2 ^ min (ji4).toNat 64))=ji6:=(i64_w _).symm.trans hji6_;have hji6x:(ji4)≤64→(wrap64 (1 * 2 ^ (ji4).toNat))=ji6:=fun h_=>(i64_w _).symm.trans (hji6z h_)
   by_cases c7:(l0_1.length:Int)=(ji6)
   ·rw [if_pos c7] at H
    have c7b0:=beq_iff_eq.mpr c7;have c7b1:=bne_eq_false_iff_eq.mpr c7;clear c7;replace H:=oB.mp H;obtain ⟨t206,A80,H⟩:=H;replace H:(some t206)=some r:=H;have A8:=aM A80;clear A80;obtain rfl:=Option.some.inj H
    go_enter Tryd.func50,Tryd.ntmps50
    go_wp2_with (first | ((with_reducible refine gate_dst (N:=1) rfl ?_);(try (refine gate_guard (by rfl) ?_;dsimp only));refine box_event ?hg (N:=1) ?hd (cs:=#[.int .i64 a0_0,.slice A0_1 l0_1.length c0_1]) (t:=26) ?hr ?_;(case hd=>rfl);(case hg=>rfl);(case hr=>exact zb_);intro gb204 hg w9 hbox hb;have n_:=z (below_step za_ hb)<|z (hbox)<|z ((by rw [hg];exact (below_size za_):w.heap.size≤gb204))<|z1 ((by rw [hg];exact (below_size za_):w.heap.size≤gb204));clear HB;obtain ⟨HB,BK204,GW204,GE204⟩:=n_;clear hb hbox hg;obtain ⟨hcz10_0,hcz10_1,hfz10_0,hfz10_1⟩:=zk2 BK204.out)|((with_reducible refine gate_callee (f:=85) rfl ?_);refine goesL_ (some 5) rfl rfl Tryd.func85 (by kernel_rfl) rfl #[.int .i64 a0_0] rfl zd_ ?_;(with_reducible refine (spec_ttInputs.calls a0_0 true _ A2.out).mono ?_);rintro e w' ⟨rfl,⟨nd,rfl⟩⟩;refine ⟨_,rfl,?_⟩)|(go_at_call 63;(with_reducible refine (spec_l1All.calls k _ _ l0_1 0 1 t206 _ ?side1 ?side2 A8.out).mono ?_);(case side1=>repeat (first | exact (Kd.C_below HR0_1.out zjb_)|(with_reducible refine cA ?_ _)|(with_reducible refine cN ?_ _)|(with_reducible refine cD ?_)));(case side2=>exact HC0_1.out);rintro e w' ⟨rfl,⟨nd,rfl⟩⟩))
    go_ret
    exact ⟨by first | rfl | (simp [errW_none,errW_some] <;> rfl)|(simp only [← hji4,← hji6];first | rfl | (simp [errW_none,errW_some] <;> rfl))|(simp [*,errW_none,errW_some] <;> rfl),zjb_⟩
   ·rw [if_neg c7] at H
    have c7b0:=beq_eq_false_iff_ne.mpr c7;have c7b1:=bne_iff_ne.mpr c7;obtain rfl:=Option.some.inj H
    go_enter Tryd.func50,Tryd.ntmps50
    go_wp2_with (first | ((with_reducible refine gate_dst (N:=1) rfl ?_);(try (refine gate_guard (by rfl) ?_;dsimp only));refine box_event ?hg (N:=1) ?hd (cs:=#[.int .i64 a0_0,.slice A0_1 l0_1.length c0_1]) (t:=26) ?hr ?_;(case hd=>rfl);(case hg=>rfl);(case hr=>exact zb_);intro gb204 hg w11 hbox hb;have n_:=z (below_step za_ hb)<|z (hbox)<|z ((by rw [hg];exact (below_size za_):w.heap.size≤gb204))<|z1 ((by rw [hg];exact (below_size za_):w.heap.size≤gb204));clear HB;obtain ⟨HB,BK204,GW204,GE204⟩:=n_;clear hb hbox hg;obtain ⟨hcz12_0,hcz12_1,hfz12_0,hfz12_1⟩:=zk2 BK204.out)|((with_reducible refine gate_callee (f:=85) rfl ?_);refine goesL_ (some 5) rfl rfl Tryd.func85 (by kernel_rfl) rfl #[.int .i64 a0_0] rfl zd_ ?_;(with_reducible refine (spec_ttInputs.calls a0_0 true _ A2.out).mono ?_);rintro e w' ⟨rfl,⟨nd,rfl⟩⟩;refine ⟨_,rfl,?_⟩))
    go_ret
    exact ⟨by first | rfl | (simp [errW_none,errW_some] <;> rfl)|(simp only [← hji4,← hji6];first | rfl | (simp [errW_none,errW_some] <;> rfl))|(simp [*,errW_none,errW_some] <;> rfl),zjb_⟩
  ·rw [if_neg c5] at H
   exact q3n_ H
 ·replace c3:=Bool.eq_false_iff.mpr c3
  subst c3;have H1:(some false)=some r:=by rw [if_neg (show ¬ (false=true) by decide)] at H;exact H
  clear H;have H:=H1;clear H1;obtain rfl:=Option.some.inj H
  go_enter Tryd.func50,Tryd.ntmps50
  go_wp2_with (first | ((with_reducible refine gate_dst (N:=1) rfl ?_);(try (refine gate_guard (by rfl) ?_;dsimp only));refine box_event ?hg (N:=1) ?hd (cs:=#[.int .i64 a0_0,.slice A0_1 l0_1.length c0_1]) (t:=26) ?hr ?_;(case hd=>rfl);(case hg=>rfl);(case hr=>exact zb_);intro gb204 hg w13 hbox hb;have n_:=z (below_step za_ hb)<|z (hbox)<|z ((by rw [hg];exact (below_size za_):w.heap.size≤gb204))<|z1 ((by rw [hg];exact (below_size za_):w.heap.size≤gb204));clear HB;obtain ⟨HB,BK204,GW204,GE204⟩:=n_;clear hb hbox hg;obtain ⟨hcz14_0,hcz14_1,hfz14_0,hfz14_1⟩:=zk2 BK204.out)|((with_reducible refine gate_callee (f:=85) rfl ?_);refine goesL_ (some 5) rfl rfl Tryd.func85 (by kernel_rfl) rfl #[.int .i64 a0_0] rfl zd_ ?_;(with_reducible refine (spec_ttInputs.calls a0_0 false _ A2.out).mono ?_);rintro e w' ⟨rfl,⟨nd,rfl⟩⟩;refine ⟨_,rfl,?_⟩))
  go_ret
  exact ⟨zf_,zjb_⟩
def spec_DiagramOf.f (k:Nat) (a0_0:Int) (l0_1:List Int):Option (Int×(List (S70))×Int×Bool):=(spec_ttGood.f k a0_0 l0_1).bind fun t209=>(if t209=true then ((spec_ddMake.f k a0_0 l0_1).bind fun bt210=>(some (bt210.1,bt210.2.1,bt210.2.2,true))) else (some (0,([]:List (S70)),0,false)))
theorem spec_DiagramOf.calls (k:Nat) (a0_0:Int) (A0_1:Option Addr) (c0_1:Nat) (l0_1:List Int) (r1:Int) (r2:List (S70)) (r3:Int) (r4:Bool) (w:World) (hr0_1:Kd.C (Kd.int .i64) w A0_1 l0_1.length l0_1) (hc0_1:l0_1.length≤c0_1) (h:spec_DiagramOf.f k a0_0 l0_1=some (r1,r2,r3,r4)) :
  Calls Tryd.prog 8 #[.agg #[.int .i64 a0_0,.slice A0_1 l0_1.length c0_1]] w fun e w' => ∃ v1_:Value,e = .returned (.tuple #[.agg #[.int .i64 r1,v1_,.int .i64 r3],.bool r4])∧Kd.R k70 70 w' w.heap.size (fun _=>True) v1_ r2∧Below w.heap.size w w':=by
 have hu26:=Tryd.underlying26
 have hu30:=Tryd.underlying30
 have HR0_1:=aM hr0_1
 have HC0_1:=aM hc0_1
 clear hr0_1 hc0_1
 have HB:=aM (Below.refl w.heap.size w)
 have H:((spec_ttGood.f k a0_0 l0_1).bind fun t209=>(if t209=true then ((spec_ddMake.f k a0_0 l0_1).bind fun bt210=>(some (bt210.1,bt210.2.1,bt210.2.2,true))) else (some (0,([]:List (S70)),0,false))))=some (r1,r2,r3,r4):=h
 clear h
 replace H:=oB.mp H
 obtain ⟨t209,A20,H⟩:=H
 replace H:(if t209=true then ((spec_ddMake.f k a0_0 l0_1).bind fun bt210=>(some (bt210.1,bt210.2.1,bt210.2.2,true))) else (some (0,([]:List (S70)),0,false)))=some (r1,r2,r3,r4):=H
 have A2:=aM A20
 clear A20
 by_cases c3:t209=true
 ·subst c3
  have H1:((spec_ddMake.f k a0_0 l0_1).bind fun bt210=>(some (bt210.1,bt210.2.1,bt210.2.2,true)))=some (r1,r2,r3,r4):=by rw [if_pos rfl] at H;exact H
  clear H;have H:=H1;clear H1;replace H:=oB.mp H;obtain ⟨⟨t210,t211,t214⟩,A40,H⟩:=H;replace H:(some (t210,t211,t214,true))=some (r1,r2,r3,r4):=H;have A4:=aM A40;clear A40
  simp only [Option.some.injEq,Prod.mk.injEq] at H
  obtain ⟨rfl,rfl,rfl,rfl⟩:=H
  go_enter Tryd.func8,Tryd.ntmps8
  go_wp2_with (first | ((with_reducible refine gate_dst (N:=1) rfl ?_);refine box_event ?hg (N:=1) ?hd (cs:=#[.int .i64 a0_0,.slice A0_1 l0_1.length c0_1]) (t:=26) ?hr ?_;(case hd=>rfl);(case hg=>rfl);(case hr=>exact zb_);intro gb207 hg w5 hbox hb;have n_:=z (below_step za_ hb)<|z (hbox)<|z ((by rw [hg];exact (below_size za_):w.heap.size≤gb207))<|z1 ((by rw [hg];exact (below_size za_):w.heap.size≤gb207));clear HB;obtain ⟨HB,BK207,GW207,GE207⟩:=n_;clear hb hbox hg)|((with_reducible refine gate_dst (N:=2) rfl ?_);refine box_event ?hg (N:=2) ?hd (cs:=#[.int .i64 0,.slice none 0 0,.int .i64 0]) (t:=30) ?hr ?_;(case hd=>rfl);(case hg=>rfl);(case hr=>exact zb_);intro gb208 hg w6 hbox hb;have n_:=z (blk_below (zb BK207.out) hb)<|z (below_step zgj_ hb)<|z (hbox)<|z ((by rw [hg];exact (below_size zgj_):w.heap.size≤gb208))<|z ((by rw [hg];exact (below_size zgj_):w.heap.size≤gb208))<|z ((by rw [hg];exact Nat.ne_of_lt (blk_lt (zb BK207.out)):gb207≠gb208))<|z1 ((by rw [hg];exact Nat.ne_of_gt (blk_lt (zb BK207.out)):gb208≠gb207));clear BK207 HB;obtain ⟨BK207,HB,BK208,GW208,GE208,NB207_208,NB208_207⟩:=n_;clear hb hbox hg;have hnb7:=NB207_208.out;have hnc7:=NB208_207.out;obtain ⟨hcz8_0,hcz8_1,hfz8_0,hfz8_1⟩:=zk2 BK207.out)|((with_reducible refine gate_callee (f:=50) rfl ?_);refine goesL_ (some 5) rfl rfl Tryd.func50 (by kernel_rfl) rfl #[.agg #[.int .i64 a0_0,.slice A0_1 l0_1.length c0_1]] rfl zd_ ?_;(with_reducible refine (spec_ttGood.calls k a0_0 _ _ l0_1 true _ ?side1 ?side2 A2.out).mono ?_);(case side1=>exact zg_);(case side2=>exact HC0_1.out);rintro e w9 ⟨rfl,hb⟩;refine ⟨_,rfl,?_⟩;have n_:=z (blk_below (zb BK207.out) hb)<|z (blk_below (zb BK208.out) hb)<|z1 (below_step zha_ hb);clear BK207 BK208 HB;obtain ⟨BK207,BK208,HB⟩:=n_;clear hb;obtain ⟨hcz10_0,hcz10_1,hfz10_0,hfz10_1⟩:=zk2 BK207.out)|((with_reducible refine gate_callee (f:=51) rfl ?_);refine goesL_ (some 9) rfl rfl Tryd.func51 (by kernel_rfl) rfl #[.agg #[.int .i64 a0_0,.slice A0_1 l0_1.length c0_1]] rfl zd_ ?_;(with_reducible refine (spec_ddMake.calls k a0_0 _ _ l0_1 t210 t211 t214 _ ?side1 ?side2 A4.out).mono ?_);(case side1=>exact zg_);(case side2=>exact HC0_1.out);rintro e w11 ⟨v212,rfl,ho0,hb⟩;refine ⟨_,rfl,?_⟩;have n_:=z (Kd.R_lower ho0 (below_size zha_))<|z (blk_below (zb BK207.out) hb)<|z (blk_below (zb BK208.out) hb)<|z1 (below_step zha_ hb);clear BK207 BK208 HB;obtain ⟨HO213,BK207,BK208,HB⟩:=n_;clear hb;(try clear ho0);obtain ⟨hcz12_0,hcz12_1,hcz12_2,hfz12_0,hfz12_1,hfz12_2⟩:=zk3 BK208.out;obtain ⟨Ao13,co13,eo13⟩:=Kd.R_slice HO213.out;subst eo13))
  refine bodyPost_ret (results_ct rfl _ _ gb208 30 #[.int .i64 t210,.slice Ao13 t211.length co13,.int .i64 t214] (0,0) _ rfl (by refine zb ?_;refine blk_put (cs:=#[.int .i64 t210,.slice Ao13 t211.length co13,.int .i64 0]) ?_ 2 _ rfl;refine zb ?_;refine blk_put (cs:=#[.int .i64 t210,.slice none 0 0,.int .i64 0]) ?_ 1 _ rfl;refine zb ?_;refine blk_put (cs:=#[.int .i64 0,.slice none 0 0,.int .i64 0]) ?_ 0 _ rfl;refine zb ?_;exact BK208.out) Tryd.underlying30 rfl (by kernel_rfl)) rfl ?_
  exact ⟨_,zf_,by refine zr ?_;exact Kd.R_mono (Kd.R_far (p:=⟨gb208,2,none⟩) (Kd.R_far (p:=⟨gb208,1,none⟩) (Kd.R_far (p:=⟨gb208,0,none⟩) (Kd.R_types HO213.out BK208.out (by decide)) (fun _ hk=>hk.2) (.int .i64 t210)) (fun _ hk=>hk.2) (.slice Ao13 t211.length co13)) (fun _ hk=>hk.2) (.int .i64 t214)) (fun _ hk=>trivial),zha_⟩
 ·replace c3:=Bool.eq_false_iff.mpr c3
  subst c3;have H1:(some (0,([]:List (S70)),0,false))=some (r1,r2,r3,r4):=by rw [if_neg (show ¬ (false=true) by decide)] at H;exact H
  clear H;have H:=H1;clear H1
  simp only [Option.some.injEq,Prod.mk.injEq] at H
  obtain ⟨rfl,rfl,rfl,rfl⟩:=H
  go_enter Tryd.func8,Tryd.ntmps8
  go_wp2_with (first | ((with_reducible refine gate_dst (N:=1) rfl ?_);refine box_event ?hg (N:=1) ?hd (cs:=#[.int .i64 a0_0,.slice A0_1 l0_1.length c0_1]) (t:=26) ?hr ?_;(case hd=>rfl);(case hg=>rfl);(case hr=>exact zb_);intro gb207 hg w14 hbox hb;have n_:=z (below_step za_ hb)<|z (hbox)<|z ((by rw [hg];exact (below_size za_):w.heap.size≤gb207))<|z1 ((by rw [hg];exact (below_size za_):w.heap.size≤gb207));clear HB;obtain ⟨HB,BK207,GW207,GE207⟩:=n_;clear hb hbox hg)|((with_reducible refine gate_dst (N:=2) rfl ?_);refine box_event ?hg (N:=2) ?hd (cs:=#[.int .i64 0,.slice none 0 0,.int .i64 0]) (t:=30) ?hr ?_;(case hd=>rfl);(case hg=>rfl);(case hr=>exact zb_);intro gb208 hg w15 hbox hb;have n_:=z (blk_below (zb BK207.out) hb)<|z (below_step zgj_ hb)<|z (hbox)<|z ((by rw [hg];exact (below_size zgj_):w.heap.size≤gb208))<|z ((by rw [hg];exact (below_size zgj_):w.heap.size≤gb208))<|z ((by rw [hg];exact Nat.ne_of_lt (blk_lt (zb BK207.out)):gb207≠gb208))<|z1 ((by rw [hg];exact Nat.ne_of_gt (blk_lt (zb BK207.out)):gb208≠gb207));clear BK207 HB;obtain ⟨BK207,HB,BK208,GW208,GE208,NB207_208,NB208_207⟩:=n_;clear hb hbox hg;have hnb16:=NB207_208.out;have hnc16:=NB208_207.out;obtain ⟨hcz17_0,hcz17_1,hfz17_0,hfz17_1⟩:=zk2 BK207.out)|((with_reducible refine gate_callee (f:=50) rfl ?_);refine goesL_ (some 5) rfl rfl Tryd.func50 (by kernel_rfl) rfl #[.agg #[.int .i64 a0_0,.slice A0_1 l0_1.length c0_1]] rfl zd_ ?_;(with_reducible refine (spec_ttGood.calls k a0_0 _ _ l0_1 false _ ?side1 ?side2 A2.out).mono ?_);(case side1=>exact zg_);(case side2=>exact HC0_1.out);rintro e w18 ⟨rfl,hb⟩;refine ⟨_,rfl,?_⟩;have n_:=z (blk_below (zb BK207.out) hb)<|z (blk_below (zb BK208.out) hb)<|z1 (below_step zha_ hb);clear BK207 BK208 HB;obtain ⟨BK207,BK208,HB⟩:=n_;clear hb;obtain ⟨hcz19_0,hcz19_1,hcz19_2,hfz19_0,hfz19_1,hfz19_2⟩:=zk3 BK208.out))
  refine bodyPost_ret (results_ct rfl _ _ gb208 30 #[.int .i64 0,.slice none 0 0,.int .i64 0] (0,0) _ rfl (by refine zb ?_;refine blk_put (cs:=#[.int .i64 0,.slice none 0 0,.int .i64 0]) ?_ 2 _ rfl;refine zb ?_;refine blk_put (cs:=#[.int .i64 0,.slice none 0 0,.int .i64 0]) ?_ 1 _ rfl;refine zb ?_;refine blk_put (cs:=#[.int .i64 0,.slice none 0 0,.int .i64 0]) ?_ 0 _ rfl;refine zb ?_;exact BK208.out) Tryd.underlying30 rfl (by kernel_rfl)) rfl ?_
  exact ⟨_,zf_,zdi_,zha_⟩
mutual
def laws_pSameDiagram.j0:Nat→Bool→Int→List (S70)→Int→Int→List (S70)→Int→Option (Bool)
 | 0,_,_,_,_,_,_,_=>none
 | k+1,x26,x216000,x216001,x216002,x217000,x217001,x217002=>if x26=true then (some false) else (laws_pSameDiagram.l0 k (x216001.length:Int) 0 x216000 x216001 x216002 x217000 x217001 x217002)
def laws_pSameDiagram.l0:Nat→Int→Int→Int→List (S70)→Int→Int→List (S70)→Int→Option (Bool)
 | 0,_,_,_,_,_,_,_,_=>none
 | k+1,x29,x30,x216000,x216001,x216002,x217000,x217001,x217002=>if x30<x29 then (if 0≤x30 then (if x30<(x216001.length:Int) then (if x30<(x217001.length:Int) then (if (!(((rd_T70 x216001 x30).f0) == ((rd_T70 x217001 x30).f0)) || (!(((rd_T70 x216001 x30).f1) == ((rd_T70 x217001 x30).f1)) || (!(((rd_T70 x216001 x30).f2) == ((rd_T70 x217001 x30).f2)))))=true then (some false) else (laws_pSameDiagram.l0 k x29 (wrap64 (x30+1)) x216000 x216001 x216002 x217000 x217001 x217002)) else (none)) else (none)) else (none)) else (some true)
end
def laws_pSameDiagram.f (k:Nat) (a0_0:Int) (l0_1:List (S70)) (a0_2:Int) (a1_0:Int) (l1_1:List (S70)) (a1_2:Int):Option (Bool):=if a0_0=a1_0 then (if a0_2=a1_2 then (laws_pSameDiagram.j0 k ((l0_1.length:Int) != (l1_1.length:Int)) a0_0 l0_1 a0_2 a1_0 l1_1 a1_2) else (laws_pSameDiagram.j0 k true a0_0 l0_1 a0_2 a1_0 l1_1 a1_2)) else (laws_pSameDiagram.j0 k true a0_0 l0_1 a0_2 a1_0 l1_1 a1_2)
theorem laws_pSameDiagram.calls (k:Nat) (a0_0:Int) (A0_1:Option Addr) (c0_1:Nat) (l0_1:List (S70)) (a0_2:Int) (a1_0:Int) (A1_1:Option Addr) (c1_1:Nat) (l1_1:List (S70)) (a1_2:Int) (r:Bool) (w:World) (hr0_1:Kd.C k70 w A0_1 l0_1.length l0_1) (hc0_1:l0_1.length≤c0_1) (hr1_1:Kd.C k70 w A1_1 l1_1.length l1_1) (hc1_1:l1_1.length≤c1_1) (h:laws_pSameDiagram.f k a0_0 l0_1 a0_2 a1_0 l1_1 a1_2=some r) :
  Calls Tryd.prog 9 #[.agg #[.int .i64 a0_0,.slice A0_1 l0_1.length c0_1,.int .i64 a0_2],.agg #[.int .i64 a1_0,.slice A1_1 l1_1.length c1_1,.int .i64 a1_2]] w fun e w'=>e = .returned (.bool r)∧Below w.heap.size w w':=by
 have hu30:=Tryd.underlying30
 have hu70:=Tryd.underlying70
 have HR0_1:=aM hr0_1
 have HC0_1:=aM hc0_1
 clear hr0_1 hc0_1
 have HR1_1:=aM hr1_1
 have HC1_1:=aM hc1_1
 clear hr1_1 hc1_1
 have HB:=aM (Below.refl w.heap.size w)
 have H:(if a0_0=a1_0 then (if a0_2=a1_2 then (laws_pSameDiagram.j0 k ((l0_1.length:Int) != (l1_1.length:Int)) a0_0 l0_1 a0_2 a1_0 l1_1 a1_2) else (laws_pSameDiagram.j0 k true a0_0 l0_1 a0_2 a1_0 l1_1 a1_2)) else (laws_pSameDiagram.j0 k true a0_0 l0_1 a0_2 a1_0 l1_1 a1_2))=some r:=h
 clear h
 have HC3:=aM H
 clear H
 go_enter Tryd.func9,Tryd.ntmps9
 go_upto_region 1 with (first | ((with_reducible refine gate_dst (N:=2) rfl ?_);(try (refine gate_guard (by rfl) ?_;dsimp only));refine box_event ?hg (N:=2) ?hd (cs:=#[.int .i64 a0_0,.slice A0_1 l0_1.length c0_1,.int .i64 a0_2]) (t:=30) ?hr ?_;(case hd=>rfl);(case hg=>rfl);(case hr=>exact zb_);intro gb215 hg w4 hbox hb;have n_:=z (below_step za_ hb)<|z (hbox)<|z ((by rw [hg];exact (below_size za_):w.heap.size≤gb215))<|z1 ((by rw [hg];exact (below_size za_):w.heap.size≤gb215));clear HB;obtain ⟨HB,BK215,GW215,GE215⟩:=n_;clear hb hbox hg)|((with_reducible refine gate_dst (N:=3) rfl ?_);(try (refine gate_guard (by rfl) ?_;dsimp only));refine box_event ?hg (N:=3) ?hd (cs:=#[.int .i64 a1_0,.slice A1_1 l1_1.length c1_1,.int .i64 a1_2]) (t:=30) ?hr ?_;(case hd=>rfl);(case hg=>rfl);(case hr=>exact zb_);intro gb216 hg w5 hbox hb;have n_:=z (blk_below (zb BK215.out) hb)<|z (below_step zee_ hb)<|z (hbox)<|z ((by rw [hg];exact (below_size zee_):w.heap.size≤gb216))<|z ((by rw [hg];exact (below_size zee_):w.heap.size≤gb216))<|z ((by rw [hg];exact Nat.ne_of_lt (blk_lt (zb BK215.out)):gb215≠gb216))<|z1 ((by rw [hg];exact Nat.ne_of_gt (blk_lt (zb BK215.out)):gb216≠gb215));clear BK215 HB;obtain ⟨BK215,HB,BK216,GW216,GE216,NB215_216,NB216_215⟩:=n_;clear hb hbox hg))
 repeat (go_quiet (first | ((with_reducible refine gate_dst (N:=2) rfl ?_);(try (refine gate_guard (by rfl) ?_;dsimp only));refine box_event ?hg (N:=2) ?hd (cs:=#[.int .i64 a0_0,.slice A0_1 l0_1.length c0_1,.int .i64 a0_2]) (t:=30) ?hr ?_;(case hd=>rfl);(case hg=>rfl);(case hr=>exact zb_);intro gb215 hg w4 hbox hb;have n_:=z (below_step za_ hb)<|z (hbox)<|z ((by rw [hg];exact (below_size za_):w.heap.size≤gb215))<|z1 ((by rw [hg];exact (below_size za_):w.heap.size≤gb215));clear HB;obtain ⟨HB,BK215,GW215,GE215⟩:=n_;clear hb hbox hg)|((with_reducible refine gate_dst (N:=3) rfl ?_);(try (refine gate_guard (by rfl) ?_;dsimp only));refine box_event ?hg (N:=3) ?hd (cs:=#[.int .i64 a1_0,.slice A1_1 l1_1.length c1_1,.int .i64 a1_2]) (t:=30) ?hr ?_;(case hd=>rfl);(case hg=>rfl);(case hr=>exact zb_);intro gb216 hg w5 hbox hb;have n_:=z (blk_below (zb BK215.out) hb)<|z (below_step zee_ hb)<|z (hbox)<|z ((by rw [hg];exact (below_size zee_):w.heap.size≤gb216))<|z ((by rw [hg];exact (below_size zee_):w.heap.size≤gb216))<|z ((by rw [hg];exact Nat.ne_of_lt (blk_lt (zb BK215.out)):gb215≠gb216))<|z1 ((by rw [hg];exact Nat.ne_of_gt (blk_lt (zb BK215.out)):gb216≠gb215));clear BK215 HB;obtain ⟨BK215,HB,BK216,GW216,GE216,NB215_216,NB216_215⟩:=n_;clear hb hbox hg));go_upto_region 1 with (first | ((with_reducible refine gate_dst (N:=2) rfl ?_);(try (refine gate_guard (by rfl) ?_;dsimp only));refine box_event ?hg (N:=2) ?hd (cs:=#[.int .i64 a0_0,.slice A0_1 l0_1.length c0_1,.int .i64 a0_2]) (t:=30) ?hr ?_;(case hd=>rfl);(case hg=>rfl);(case hr=>exact zb_);intro gb215 hg w4 hbox hb;have n_:=z (below_step za_ hb)<|z (hbox)<|z ((by rw [hg];exact (below_size za_):w.heap.size≤gb215))<|z1 ((by rw [hg];exact (below_size za_):w.heap.size≤gb215));clear HB;obtain ⟨HB,BK215,GW215,GE215⟩:=n_;clear hb hbox hg)|((with_reducible refine gate_dst (N:=3) rfl ?_);(try (refine gate_guard (by rfl) ?_;dsimp only));refine box_event ?hg (N:=3) ?hd (cs:=#[.int .i64 a1_0,.slice A1_1 l1_1.length c1_1,.int .i64 a1_2]) (t:=30) ?hr ?_;(case hd=>rfl);(case hg=>rfl);(case hr=>exact zb_);intro gb216 hg w5 hbox hb;have n_:=z (blk_below (zb BK215.out) hb)<|z (below_step zee_ hb)<|z (hbox)<|z ((by rw [hg];exact (below_size zee_):w.heap.size≤gb216))<|z ((by rw [hg];exact (below_size zee_):w.heap.size≤gb216))<|z ((by rw [hg];exact Nat.ne_of_lt (blk_lt (zb BK215.out)):gb215≠gb216))<|z1 ((by rw [hg];exact Nat.ne_of_gt (blk_lt (zb BK215.out)):gb216≠gb215));clear BK215 HB;obtain ⟨BK215,HB,BK216,GW216,GE216,NB215_216,NB216_215⟩:=n_;clear hb hbox hg)))
 (try simp only [Act.put,sI,s0,sS])
 go_cut [26] (fun v26 wc => ∃ (kq:Nat) (x26_2:Bool),v26 = .bool x26_2∧Aside0 (laws_pSameDiagram.j0 kq x26_2 a0_0 l0_1 a0_2 a1_0 l1_1 a1_2=some r)∧Aside0 (kq≤k)∧Aside0 (wc.heap[gb215]?=some (.cells #[.int .i64 a0_0,(.slice A0_1 l0_1.length c0_1),.int .i64 a0_2] 30 (0,0)))∧Aside0 (wc.heap[gb216]?=some (.cells #[.int .i64 a1_0,(.slice A1_1 l1_1.length c1_1),.int .i64 a1_2] 30 (0,0)))∧Aside0 (Below w.heap.size w wc))
 case first =>
  have H:=HC3.out;clear HC3
  by_cases c6:a0_0=a1_0
  ·rw [if_pos c6] at H
   have c6b0:=beq_iff_eq.mpr c6;have c6b1:=bne_eq_false_iff_eq.mpr c6;clear c6;(first | rw [c6b0]|(simp only [i64_w,i32_w];rw [c6b0]) | skip)
   by_cases c7:a0_2=a1_2
   ·rw [if_pos c7] at H
    have c7b0:=beq_iff_eq.mpr c7;have c7b1:=bne_eq_false_iff_eq.mpr c7;clear c7;have H':=aM H;clear H;have hnb8:=NB215_216.out;have hnc8:=NB216_215.out;obtain ⟨hcz9_0,hcz9_1,hcz9_2,hfz9_0,hfz9_1,hfz9_2⟩:=zk3 BK215.out;obtain ⟨hcz10_0,hcz10_1,hcz10_2,hfz10_0,hfz10_1,hfz10_2⟩:=zk3 BK216.out
    go_wp2
    repeat (go_quiet (fail);try go_wp2)
    go_meet
    case rel=>exact ⟨_,(((l0_1.length:Int) != (l1_1.length:Int))),ze_,H',⟨zcf_⟩,⟨zb BK215.out⟩,⟨zb BK216.out⟩,⟨zfc_⟩⟩
   ·rw [if_neg c7] at H
    have c7b0:=beq_eq_false_iff_ne.mpr c7;have c7b1:=bne_iff_ne.mpr c7;have H':=aM H;clear H;have hnb11:=NB215_216.out;have hnc11:=NB216_215.out;obtain ⟨hcz12_0,hcz12_1,hcz12_2,hfz12_0,hfz12_1,hfz12_2⟩:=zk3 BK215.out;obtain ⟨hcz13_0,hcz13_1,hcz13_2,hfz13_0,hfz13_1,hfz13_2⟩:=zk3 BK216.out
    go_wp2
    repeat (go_quiet (fail);try go_wp2)
    go_meet
    case rel=>exact ⟨_,(true),ze_,H',⟨zcf_⟩,⟨zb BK215.out⟩,⟨zb BK216.out⟩,⟨zfc_⟩⟩
  ·rw [if_neg c6] at H
   have c6b0:=beq_eq_false_iff_ne.mpr c6;have c6b1:=bne_iff_ne.mpr c6;(first | rw [c6b0]|(simp only [i64_w,i32_w];rw [c6b0]) | skip);have H':=aM H;clear H;have hnb14:=NB215_216.out;have hnc14:=NB216_215.out;obtain ⟨hcz15_0,hcz15_1,hcz15_2,hfz15_0,hfz15_1,hfz15_2⟩:=zk3 BK215.out;obtain ⟨hcz16_0,hcz16_1,hcz16_2,hfz16_0,hfz16_1,hfz16_2⟩:=zk3 BK216.out
   go_wp2
   repeat (go_quiet (fail);try go_wp2)
   go_meet
   case rel=>exact ⟨_,(true),ze_,H',⟨zcf_⟩,⟨zb BK215.out⟩,⟨zb BK216.out⟩,⟨zfc_⟩⟩
 case rest =>
  clear HC3;obtain ⟨kq,x26_2,rfl,HA,HJ2,BK215,BK216,HB⟩:=hcut
  cases kq with
  | zero=>exact absurd HA.out (by simp [laws_pSameDiagram.j0])
  | succ kj2 =>
   have H:=HA.out;clear HA
   simp only [laws_pSameDiagram.j0] at H
   by_cases c17:x26_2=true
   ·subst c17
    have H1:(some false)=some r:=by rw [if_pos rfl] at H;exact H
    clear H;have H:=H1;clear H1;obtain rfl:=Option.some.inj H
    go_wp2
    repeat (go_quiet (fail);try go_wp2)
    go_ret
    exact ⟨zf_,zfc_⟩
   ·replace c17:=Bool.eq_false_iff.mpr c17
    subst c17;have H1:(laws_pSameDiagram.l0 kj2 (l0_1.length:Int) 0 a0_0 l0_1 a0_2 a1_0 l1_1 a1_2)=some r:=by rw [if_neg (show ¬ (false=true) by decide)] at H;exact H
    clear H;have H:=H1;clear H1;have H':=aM H;clear H;have hnb18:=NB215_216.out;have hnc18:=NB216_215.out;obtain ⟨hcz19_0,hcz19_1,hcz19_2,hfz19_0,hfz19_1,hfz19_2⟩:=zk3 BK215.out
    go_wp2
    repeat (go_quiet (fail);try go_wp2)
    go_loopg [30] kj2 (fun kq v30 w' => ∃ (x30_2:Int),v30 = .int .i64 x30_2∧Aside0 (laws_pSameDiagram.l0 kq (l0_1.length:Int) x30_2 a0_0 l0_1 a0_2 a1_0 l1_1 a1_2=some r)∧Aside0 (kq≤kj2)∧Aside0 (w'.heap[gb215]?=some (.cells #[.int .i64 a0_0,(.slice A0_1 l0_1.length c0_1),.int .i64 a0_2] 30 (0,0)))∧Aside0 (w'.heap[gb216]?=some (.cells #[.int .i64 a1_0,(.slice A1_1 l1_1.length c1_1),.int .i64 a1_2] 30 (0,0)))∧Aside0 (Below w.heap.size w w'))
    case atStart=>exact ⟨(0),ze_,H',⟨Nat.le_refl _⟩,⟨zb BK215.out⟩,⟨zb BK216.out⟩,⟨zfc_⟩⟩
    case round =>
     clear H';(try clear hcz19_0);(try clear hcz19_1);(try clear hcz19_2);(try clear hfz19_0);(try clear hfz19_1);(try clear hfz19_2);obtain ⟨x30_2,rfl,HA,HK2,BK215,BK216,HB⟩:=hrel
     cases gk with
     | zero=>exact absurd HA.out (by simp [laws_pSameDiagram.l0])
     | succ k2 =>
      have H:=HA.out;clear HA
      simp only [laws_pSameDiagram.l0] at H
      by_cases c20:x30_2<(l0_1.length:Int)
      ·rw [if_pos c20] at H
       have c20b0:=decide_eq_true c20;clear c20
       by_cases c21:0≤x30_2
       ·rw [if_pos c21] at H
        have c21b0:=decide_eq_true c21;clear c21
        by_cases c22:x30_2<(l0_1.length:Int)
        ·rw [if_pos c22] at H
         have c22b0:=decide_eq_true c22;clear c22
         by_cases c23:x30_2<(l1_1.length:Int)
         ·rw [if_pos c23] at H
          have c23b0:=decide_eq_true c23;clear c23
          by_cases c24:(!(((rd_T70 l0_1 x30_2).f0) == ((rd_T70 l1_1 x30_2).f0)) || (!(((rd_T70 l0_1 x30_2).f1) == ((rd_T70 l1_1 x30_2).f1)) || (!(((rd_T70 l0_1 x30_2).f2) == ((rd_T70 l1_1 x30_2).f2)))))=true
          ·rw [if_pos c24] at H
           have c24b0:(!(((rd_T70 l0_1 x30_2).f0) == ((rd_T70 l1_1 x30_2).f0)) || (!(((rd_T70 l0_1 x30_2).f1) == ((rd_T70 l1_1 x30_2).f1)) || (!(((rd_T70 l0_1 x30_2).f2) == ((rd_T70 l1_1 x30_2).f2)))))=true:=c24;clear c24;obtain rfl:=Option.some.inj H;have hnb25:=NB215_216.out;have hnc25:=NB216_215.out;obtain ⟨hcz26_0,hcz26_1,hcz26_2,hfz26_0,hfz26_1,hfz26_2⟩:=zk3 BK215.out;have p217:0≤(x30_2:Int):=of_decide_eq_true zc_;have q217:x30_2<(l0_1.length:Int):=of_decide_eq_true zc_;obtain ⟨ad217,e217,hx217_0,hx217_1,hx217_2⟩:=at_T70 HR0_1.out x30_2 p217 q217
           cases e217
           (try (replace hx217_0:=q3h_ HB.out hx217_0));(try (replace hx217_1:=q3h_ HB.out hx217_1));(try (replace hx217_2:=q3h_ HB.out hx217_2));replace p217:=eq_true p217;replace q217:=eq_true q217;obtain ⟨hcz27_0,hcz27_1,hcz27_2,hfz27_0,hfz27_1,hfz27_2⟩:=zk3 BK216.out;have p218:0≤(x30_2:Int):=of_decide_eq_true zc_;have q218:x30_2<(l1_1.length:Int):=of_decide_eq_true zc_;obtain ⟨ad218,e218,hx218_0,hx218_1,hx218_2⟩:=at_T70 HR1_1.out x30_2 p218 q218
           cases e218
           (try (replace hx218_0:=q3h_ HB.out hx218_0));(try (replace hx218_1:=q3h_ HB.out hx218_1));(try (replace hx218_2:=q3h_ HB.out hx218_2));replace p218:=eq_true p218;replace q218:=eq_true q218
           go_wp2
           repeat (go_quiet (fail);try go_wp2)
           go_ret
           exact ⟨zf_,zfc_⟩
          ·rw [if_neg c24] at H
           have c24b0:(!(((rd_T70 l0_1 x30_2).f0) == ((rd_T70 l1_1 x30_2).f0)) || (!(((rd_T70 l0_1 x30_2).f1) == ((rd_T70 l1_1 x30_2).f1)) || (!(((rd_T70 l0_1 x30_2).f2) == ((rd_T70 l1_1 x30_2).f2)))))=false:=by simpa using c24
           clear c24;have H':=aM H;clear H;have hnb28:=NB215_216.out;have hnc28:=NB216_215.out;obtain ⟨hcz29_0,hcz29_1,hcz29_2,hfz29_0,hfz29_1,hfz29_2⟩:=zk3 BK215.out;have p217:0≤(x30_2:Int):=of_decide_eq_true zc_;have q217:x30_2<(l0_1.length:Int):=of_decide_eq_true zc_;obtain ⟨ad217,e217,hx217_0,hx217_1,hx217_2⟩:=at_T70 HR0_1.out x30_2 p217 q217
           cases e217
           (try (replace hx217_0:=q3h_ HB.out hx217_0));(try (replace hx217_1:=q3h_ HB.out hx217_1));(try (replace hx217_2:=q3h_ HB.out hx217_2));replace p217:=eq_true p217;replace q217:=eq_true q217;obtain ⟨hcz30_0,hcz30_1,hcz30_2,hfz30_0,hfz30_1,hfz30_2⟩:=zk3 BK216.out;have p218:0≤(x30_2:Int):=of_decide_eq_true zc_;have q218:x30_2<(l1_1.length:Int):=of_decide_eq_true zc_;obtain ⟨ad218,e218,hx218_0,hx218_1,hx218_2⟩:=at_T70 HR1_1.out x30_2 p218 q218
           cases e218
           (try (replace hx218_0:=q3h_ HB.out hx218_0));(try (replace hx218_1:=q3h_ HB.out hx218_1));(try (replace hx218_2:=q3h_ HB.out hx218_2));replace p218:=eq_true p218;replace q218:=eq_true q218
           go_wp2
           repeat (go_quiet (fail);try go_wp2)
           go_roundg k2
           case measure=>have:=HJ2.out;have:=HK2.out;omega
           case rel=>exact ⟨(wrap64 (x30_2+1)),ze_,H',⟨by have:=HJ2.out;have:=HK2.out;omega⟩,⟨zb BK215.out⟩,⟨zb BK216.out⟩,⟨zfc_⟩⟩
         ·rw [if_neg c23] at H
          exact q3n_ H
        ·rw [if_neg c22] at H
         exact q3n_ H
       ·rw [if_neg c21] at H
        exact q3n_ H
      ·rw [if_neg c20] at H
       have c20b0:=decide_eq_false c20;clear c20;obtain rfl:=Option.some.inj H
       go_wp2
       repeat (go_quiet (fail);try go_wp2)
       go_ret
       exact ⟨zf_,zfc_⟩
def impl_goodReference.f (a0_0:Int) (l0_1:List (S70)) (a0_2:Int) (a1:Int) (a2:Int):Option (Bool):=if a2<0 then (some false) else (if a2≥(wrap64 (2+a1)) then (some false) else (if a2<2 then (some true) else (if 0≤a1 then (if a1<(l0_1.length:Int) then (if 0≤(wrap64 (a2 - 2)) then (if (wrap64 (a2 - 2))<(l0_1.length:Int) then (some (decide (((rd_T70 l0_1 a1).f0)<((rd_T70 l0_1 (wrap64 (a2 - 2))).f0)))) else (none)) else (none)) else (none)) else (none))))
theorem impl_goodReference.calls (a0_0:Int) (A0_1:Option Addr) (c0_1:Nat) (l0_1:List (S70)) (a0_2:Int) (a1:Int) (a2:Int) (r:Bool) (w:World) (hr0_1:Kd.C k70 w A0_1 l0_1.length l0_1) (hc0_1:l0_1.length≤c0_1) (h:impl_goodReference.f a0_0 l0_1 a0_2 a1 a2=some r) :
  Calls Tryd.prog 55 #[.agg #[.int .i64 a0_0,.slice A0_1 l0_1.length c0_1,.int .i64 a0_2],.int .i64 a1,.int .i64 a2] w fun e w'=>e = .returned (.bool r)∧Below w.heap.size w w':=by
 have hu30:=Tryd.underlying30
 have HR0_1:=aM hr0_1
 have HC0_1:=aM hc0_1
 clear hr0_1 hc0_1
 have HB:=aM (Below.refl w.heap.size w)
 have H:(if a2<0 then (some false) else (if a2≥(wrap64 (2+a1)) then (some false) else (if a2<2 then (some true) else (if 0≤a1 then (if a1<(l0_1.length:Int) then (if 0≤(wrap64 (a2 - 2)) then (if (wrap64 (a2 - 2))<(l0_1.length:Int) then (some (decide (((rd_T70 l0_1 a1).f0)<((rd_T70 l0_1 (wrap64 (a2 - 2))).f0)))) else (none)) else (none)) else (none)) else (none)))))=some r:=h
 clear h
 by_cases c4:a2<0
 ·rw [if_pos c4] at H
  have c4b0:=decide_eq_true c4;clear c4;obtain rfl:=Option.some.inj H
  go_enter Tryd.func55,Tryd.ntmps55
  go_wp2_with (first | ((with_reducible refine gate_dst (N:=3) rfl ?_);refine box_event ?hg (N:=3) ?hd (cs:=#[.int .i64 a0_0,.slice A0_1 l0_1.length c0_1,.int .i64 a0_2]) (t:=30) ?hr ?_;(case hd=>rfl);(case hg=>rfl);(case hr=>exact zb_);intro gb219 hg w5 hbox hb;have n_:=z (below_step za_ hb)<|z (hbox)<|z ((by rw [hg];exact (below_size za_):w.heap.size≤gb219))<|z1 ((by rw [hg];exact (below_size za_):w.heap.size≤gb219));clear HB;obtain ⟨HB,BK219,GW219,GE219⟩:=n_;clear hb hbox hg))
  repeat (go_quiet (first | ((with_reducible refine gate_dst (N:=3) rfl ?_);refine box_event ?hg (N:=3) ?hd (cs:=#[.int .i64 a0_0,.slice A0_1 l0_1.length c0_1,.int .i64 a0_2]) (t:=30) ?hr ?_;(case hd=>rfl);(case hg=>rfl);(case hr=>exact zb_);intro gb219 hg w5 hbox hb;have n_:=z (below_step za_ hb)<|z (hbox)<|z ((by rw [hg];exact (below_size za_):w.heap.size≤gb219))<|z1 ((by rw [hg];exact (below_size za_):w.heap.size≤gb219));clear HB;obtain ⟨HB,BK219,GW219,GE219⟩:=n_;clear hb hbox hg));try go_wp2_with (first | ((with_reducible refine gate_dst (N:=3) rfl ?_);refine box_event ?hg (N:=3) ?hd (cs:=#[.int .i64 a0_0,.slice A0_1 l0_1.length c0_1,.int .i64 a0_2]) (t:=30) ?hr ?_;(case hd=>rfl);(case hg=>rfl);(case hr=>exact zb_);intro gb219 hg w5 hbox hb;have n_:=z (below_step za_ hb)<|z (hbox)<|z ((by rw [hg];exact (below_size za_):w.heap.size≤gb219))<|z1 ((by rw [hg];exact (below_size za_):w.heap.size≤gb219));clear HB;obtain ⟨HB,BK219,GW219,GE219⟩:=n_;clear hb hbox hg)))
  go_ret
  exact ⟨zf_,zjc_⟩
 ·rw [if_neg c4] at H
  have c4b0:=decide_eq_false c4;clear c4
  by_cases c6:a2≥(wrap64 (2+a1))
  ·rw [if_pos c6] at H
   have c6b0:decide ((wrap64 (2+a1))≤a2)=true:=decide_eq_true c6;clear c6;obtain rfl:=Option.some.inj H
   go_enter Tryd.func55,Tryd.ntmps55
   go_wp2_with (first | ((with_reducible refine gate_dst (N:=3) rfl ?_);refine box_event ?hg (N:=3) ?hd (cs:=#[.int .i64 a0_0,.slice A0_1 l0_1.length c0_1,.int .i64 a0_2]) (t:=30) ?hr ?_;(case hd=>rfl);(case hg=>rfl);(case hr=>exact zb_);intro gb219 hg w7 hbox hb;have n_:=z (below_step za_ hb)<|z (hbox)<|z ((by rw [hg];exact (below_size za_):w.heap.size≤gb219))<|z1 ((by rw [hg];exact (below_size za_):w.heap.size≤gb219));clear HB;obtain ⟨HB,BK219,GW219,GE219⟩:=n_;clear hb hbox hg))
   repeat (go_quiet (first | ((with_reducible refine gate_dst (N:=3) rfl ?_);refine box_event ?hg (N:=3) ?hd (cs:=#[.int .i64 a0_0,.slice A0_1 l0_1.length c0_1,.int .i64 a0_2]) (t:=30) ?hr ?_;(case hd=>rfl);(case hg=>rfl);(case hr=>exact zb_);intro gb219 hg w7 hbox hb;have n_:=z (below_step za_ hb)<|z (hbox)<|z ((by rw [hg];exact (below_size za_):w.heap.size≤gb219))<|z1 ((by rw [hg];exact (below_size za_):w.heap.size≤gb219));clear HB;obtain ⟨HB,BK219,GW219,GE219⟩:=n_;clear hb hbox hg));try go_wp2_with (first | ((with_reducible refine gate_dst (N:=3) rfl ?_);refine box_event ?hg (N:=3) ?hd (cs:=#[.int .i64 a0_0,.slice A0_1 l0_1.length c0_1,.int .i64 a0_2]) (t:=30) ?hr ?_;(case hd=>rfl);(case hg=>rfl);(case hr=>exact zb_);intro gb219 hg w7 hbox hb;have n_:=z (below_step za_ hb)<|z (hbox)<|z ((by rw [hg];exact (below_size za_):w.heap.size≤gb219))<|z1 ((by rw [hg];exact (below_size za_):w.heap.size≤gb219));clear HB;obtain ⟨HB,BK219,GW219,GE219⟩:=n_;clear hb hbox hg)))
   go_ret
   exact ⟨zf_,zjc_⟩
  ·rw [if_neg c6] at H
   have c6b0:decide ((wrap64 (2+a1))≤a2)=false:=decide_eq_false c6;clear c6
   by_cases c8:a2<2
   ·rw [if_pos c8] at H
    have c8b0:=decide_eq_true c8;clear c8;obtain rfl:=Option.some.inj H
    go_enter Tryd.func55,Tryd.ntmps55
    go_wp2_with (first | ((with_reducible refine gate_dst (N:=3) rfl ?_);refine box_event ?hg (N:=3) ?hd (cs:=#[.int .i64 a0_0,.slice A0_1 l0_1.length c0_1,.int .i64 a0_2]) (t:=30) ?hr ?_;(case hd=>rfl);(case hg=>rfl);(case hr=>exact zb_);intro gb219 hg w9 hbox hb;have n_:=z (below_step za_ hb)<|z (hbox)<|z ((by rw [hg];exact (below_size za_):w.heap.size≤gb219))<|z1 ((by rw [hg];exact (below_size za_):w.heap.size≤gb219));clear HB;obtain ⟨HB,BK219,GW219,GE219⟩:=n_;clear hb hbox hg))
    repeat (go_quiet (first | ((with_reducible refine gate_dst (N:=3) rfl ?_);refine box_event ?hg (N:=3) ?hd (cs:=#[.int .i64 a0_0,.slice A0_1 l0_1.length c0_1,.int .i64 a0_2]) (t:=30) ?hr ?_;(case hd=>rfl);(case hg=>rfl);(case hr=>exact zb_);intro gb219 hg w9 hbox hb;have n_:=z (below_step za_ hb)<|z (hbox)<|z ((by rw [hg];exact (below_size za_):w.heap.size≤gb219))<|z1 ((by rw [hg];exact (below_size za_):w.heap.size≤gb219));clear HB;obtain ⟨HB,BK219,GW219,GE219⟩:=n_;clear hb hbox hg));try go_wp2_with (first | ((with_reducible refine gate_dst (N:=3) rfl ?_);refine box_event ?hg (N:=3) ?hd (cs:=#[.int .i64 a0_0,.slice A0_1 l0_1.length c0_1,.int .i64 a0_2]) (t:=30) ?hr ?_;(case hd=>rfl);(case hg=>rfl);(case hr=>exact zb_);intro gb219 hg w9 hbox hb;have n_:=z (below_step za_ hb)<|z (hbox)<|z ((by rw [hg];exact (below_size za_):w.heap.size≤gb219))<|z1 ((by rw [hg];exact (below_size za_):w.heap.size≤gb219));clear HB;obtain ⟨HB,BK219,GW219,GE219⟩:=n_;clear hb hbox hg)))
    go_ret
    exact ⟨zf_,zjc_⟩
   ·rw [if_neg c8] at H
    have c8b0:=decide_eq_false c8;clear c8
    by_cases c10:0≤a1
    ·rw [if_pos c10] at H
     have c10b0:=decide_eq_true c10;clear c10
     by_cases c11:a1<(l0_1.length:Int)
     ·rw [if_pos c11] at H
      have c11b0:=decide_eq_true c11;clear c11;obtain ⟨ji12,hji12⟩:∃ j_:Int,(wrap64 (a2 - 2))=j_:=⟨_,rfl⟩;replace H:(if 0≤(ji12) then (if (ji12)<(l0_1.length:Int) then (some (decide (((rd_T70 l0_1 a1).f0)<((rd_T70 l0_1 (ji12)).f0)))) else (none)) else (none))=some r:=by first | (rw [hji12] at H;exact H)|(simp only [hji12] at H ⊢;exact H)
      have hji12w:(IntKind.i64.wrap (a2 - 2))=ji12:=(i64_w _).trans hji12
      by_cases c13:0≤(ji12)
      ·rw [if_pos c13] at H
       have c13b0:=decide_eq_true c13;clear c13
       by_cases c14:(ji12)<(l0_1.length:Int)
       ·rw [if_pos c14] at H
        have c14b0:=decide_eq_true c14;clear c14;obtain rfl:=Option.some.inj H
        go_enter Tryd.func55,Tryd.ntmps55
        go_wp2_with (first | ((with_reducible refine gate_dst (N:=3) rfl ?_);refine box_event ?hg (N:=3) ?hd (cs:=#[.int .i64 a0_0,.slice A0_1 l0_1.length c0_1,.int .i64 a0_2]) (t:=30) ?hr ?_;(case hd=>rfl);(case hg=>rfl);(case hr=>exact zb_);intro gb219 hg w15 hbox hb;have n_:=z (below_step za_ hb)<|z (hbox)<|z ((by rw [hg];exact (below_size za_):w.heap.size≤gb219))<|z1 ((by rw [hg];exact (below_size za_):w.heap.size≤gb219));clear HB;obtain ⟨HB,BK219,GW219,GE219⟩:=n_;clear hb hbox hg;obtain ⟨hcz16_0,hcz16_1,hcz16_2,hfz16_0,hfz16_1,hfz16_2⟩:=zk3 BK219.out;have p220:0≤(a1:Int):=of_decide_eq_true zc_;have q220:a1<(l0_1.length:Int):=of_decide_eq_true zc_;obtain ⟨ad220,e220,hx220_0,hx220_1,hx220_2⟩:=at_T70 HR0_1.out a1 p220 q220;cases e220;replace hx220_0:=(HB.out.cell (World.block_lt_of_cell? w _ hx220_0)).trans hx220_0;replace hx220_1:=(HB.out.cell (World.block_lt_of_cell? w _ hx220_1)).trans hx220_1;replace hx220_2:=(HB.out.cell (World.block_lt_of_cell? w _ hx220_2)).trans hx220_2;replace p220:=eq_true p220;replace q220:=eq_true q220;have p221:0≤((ji12):Int):=of_decide_eq_true zc_;have q221:(ji12)<(l0_1.length:Int):=of_decide_eq_true zc_;obtain ⟨ad221,e221,hx221_0,hx221_1,hx221_2⟩:=at_T70 HR0_1.out (ji12) p221 q221;obtain rfl:ad220=ad221:=(by injection e221);replace hx221_0:=(HB.out.cell (World.block_lt_of_cell? w _ hx221_0)).trans hx221_0;replace hx221_1:=(HB.out.cell (World.block_lt_of_cell? w _ hx221_1)).trans hx221_1;replace hx221_2:=(HB.out.cell (World.block_lt_of_cell? w _ hx221_2)).trans hx221_2;replace p221:=eq_true p221;replace q221:=eq_true q221))
        repeat (go_quiet (first | ((with_reducible refine gate_dst (N:=3) rfl ?_);refine box_event ?hg (N:=3) ?hd (cs:=#[.int .i64 a0_0,.slice A0_1 l0_1.length c0_1,.int .i64 a0_2]) (t:=30) ?hr ?_;(case hd=>rfl);(case hg=>rfl);(case hr=>exact zb_);intro gb219 hg w15 hbox hb;have n_:=z (below_step za_ hb)<|z (hbox)<|z ((by rw [hg];exact (below_size za_):w.heap.size≤gb219))<|z1 ((by rw [hg];exact (below_size za_):w.heap.size≤gb219));clear HB;obtain ⟨HB,BK219,GW219,GE219⟩:=n_;clear hb hbox hg;obtain ⟨hcz16_0,hcz16_1,hcz16_2,hfz16_0,hfz16_1,hfz16_2⟩:=zk3 BK219.out;have p220:0≤(a1:Int):=of_decide_eq_true zc_;have q220:a1<(l0_1.length:Int):=of_decide_eq_true zc_;obtain ⟨ad220,e220,hx220_0,hx220_1,hx220_2⟩:=at_T70 HR0_1.out a1 p220 q220;cases e220;replace hx220_0:=(HB.out.cell (World.block_lt_of_cell? w _ hx220_0)).trans hx220_0;replace hx220_1:=(HB.out.cell (World.block_lt_of_cell? w _ hx220_1)).trans hx220_1;replace hx220_2:=(HB.out.cell (World.block_lt_of_cell? w _ hx220_2)).trans hx220_2;replace p220:=eq_true p220;replace q220:=eq_true q220;have p221:0≤((ji12):Int):=of_decide_eq_true zc_;have q221:(ji12)<(l0_1.length:Int):=of_decide_eq_true zc_;obtain ⟨ad221,e221,hx221_0,hx221_1,hx221_2⟩:=at_T70 HR0_1.out (ji12) p221 q221;obtain rfl:ad220=ad221:=(by injection e221);replace hx221_0:=(HB.out.cell (World.block_lt_of_cell? w _ hx221_0)).trans hx221_0;replace hx221_1:=(HB.out.cell (World.block_lt_of_cell? w _ hx221_1)).trans hx221_1;replace hx221_2:=(HB.out.cell (World.block_lt_of_cell? w _ hx221_2)).trans hx221_2;replace p221:=eq_true p221;replace q221:=eq_true q221));try go_wp2_with (first | ((with_reducible refine gate_dst (N:=3) rfl ?_);refine box_event ?hg (N:=3) ?hd (cs:=#[.int .i64 a0_0,.slice A0_1 l0_1.length c0_1,.int .i64 a0_2]) (t:=30) ?hr ?_;(case hd=>rfl);(case hg=>rfl);(case hr=>exact zb_);intro gb219 hg w15 hbox hb;have n_:=z (below_step za_ hb)<|z (hbox)<|z ((by rw [hg];exact (below_size za_):w.heap.size≤gb219))<|z1 ((by rw [hg];exact (below_size za_):w.heap.size≤gb219));clear HB;obtain ⟨HB,BK219,GW219,GE219⟩:=n_;clear hb hbox hg;obtain ⟨hcz16_0,hcz16_1,hcz16_2,hfz16_0,hfz16_1,hfz16_2⟩:=zk3 BK219.out;have p220:0≤(a1:Int):=of_decide_eq_true zc_;have q220:a1<(l0_1.length:Int):=of_decide_eq_true zc_;obtain ⟨ad220,e220,hx220_0,hx220_1,hx220_2⟩:=at_T70 HR0_1.out a1 p220 q220;cases e220;replace hx220_0:=(HB.out.cell (World.block_lt_of_cell? w _ hx220_0)).trans hx220_0;replace hx220_1:=(HB.out.cell (World.block_lt_of_cell? w _ hx220_1)).trans hx220_1;replace hx220_2:=(HB.out.cell (World.block_lt_of_cell? w _ hx220_2)).trans hx220_2;replace p220:=eq_true p220;replace q220:=eq_true q220;have p221:0≤((ji12):Int):=of_decide_eq_true zc_;have q221:(ji12)<(l0_1.length:Int):=of_decide_eq_true zc_;obtain ⟨ad221,e221,hx221_0,hx221_1,hx221_2⟩:=at_T70 HR0_1.out (ji12) p221 q221;obtain rfl:ad220=ad221:=(by injection e221);replace hx221_0:=(HB.out.cell (World.block_lt_of_cell? w _ hx221_0)).trans hx221_0;replace hx221_1:=(HB.out.cell (World.block_lt_of_cell? w _ hx221_1)).trans hx221_1;replace hx221_2:=(HB.out.cell (World.block_lt_of_cell? w _ hx221_2)).trans hx221_2;replace p221:=eq_true p221;replace q221:=eq_true q221)))
        go_ret
        exact ⟨by first | rfl | (simp [errW_none,errW_some] <;> rfl)|(simp only [← hji12];first | rfl | (simp [errW_none,errW_some] <;> rfl))|(simp [*,errW_none,errW_some] <;> rfl),zjc_⟩
       ·rw [if_neg c14] at H
        exact q3n_ H
      ·rw [if_neg c13] at H
       exact q3n_ H
     ·rw [if_neg c11] at H
      exact q3n_ H
    ·rw [if_neg c10] at H
     exact q3n_ H
end Go.Proofs.YtlnhpkjioppbiaaDoor.QFnDiagrams
