/- Functions of FnDiagrams, each as a Lean function, with the proof that the Go code comes to its answers. -/
import Derived.Test.YtlnhpkjioppbiaaDoorSFnDiagramsx2
import Derived.Test.YtlnhpkjioppbiaaDoorSFnDiagramsx16
namespace Go.Proofs.YtlnhpkjioppbiaaDoor.QFnDiagrams
open Go.RowKit Go.Proofs.YtlnhpkjioppbiaaDoorW.PrintWords Go.Proofs.YtlnhpkjioppbiaaDoorW.PrintLast Go.Proofs.YtlnhpkjioppbiaaDoorW.PrintMore
open Go.Proofs.YtlnhpkjioppbiaaDoorW.PrintWords renaming pw_below_drewN→pN,below_drew1→p1,below_alloc→pA
open Go.Proofs.YtlnhpkjioppbiaaDoorW.PrintWords.Kd renaming R_alloc→kA,R_drewN→kN,R_drew→kD,Q_alloc→qA,Q_drewN→qN,Q_drew→qD,C_alloc→cA,C_drewN→cN,C_drew→cD
open Go.Proofs.YtlnhpkjioppbiaaDoorW.PrintWords.Aside0 renaming mk→aM
open List renaming setIfInBounds_toArray→sI,set_cons_zero→s0,set_cons_succ→sS,map_toArray→mT,length_take→lT,length_drop→lD,map_cons→mC,map_nil→mN
open Option renaming bind_eq_some_iff→oB,bind_some→oS
attribute [local go_sem] max2_int min2_int max_two min_two max_three min_three max_four min_four
set_option maxHeartbeats 8000000
set_option maxRecDepth 100000
set_option linter.unusedVariables false
set_option linter.unusedSimpArgs false
def spec_l1Num.f:Nat→Int→Option (ByteArray)
 | 0,_=>none
 | k+1,a0=>if a0<10 then (some (strOfNums (([(wrap64 (48+a0)) % 256]:List Int)))) else ((spec_l1Num.f k (wrap64 (Int.tdiv a0 10))).bind fun t455=>((some (([(wrap64 (48+(Int.tmod a0 10))) % 256]:List Int):List Int)).bind fun y456=>(if t455.size+(strOfNums y456).size≤9223372036854775807 then (some (t455++(strOfNums y456))) else (none))))
def spec_l1Num.T3:Bool×List (List Nat×List Nat):=(true,[([],[]),([0],[0]),([1],[1]),([],[]),([3],[3]),([4],[4]),([5],[5]),([6],[6]),([7],[7]),([2,8],[2,8]),([9,2,0,1,2,3,4,5,6,7,8,9],[9])])
def spec_l1Num.B3:List Nat:=[0,1,3,0,8,24,56,120,248,511,1023]
theorem spec_l1Num.tab3:rtab .any (opsOf Tryd.f69 3)=spec_l1Num.T3:=by kernel_rfl
theorem spec_l1Num.bits3:waitsOk spec_l1Num.T3.2 spec_l1Num.B3=true:=by kernel_rfl
theorem spec_l1Num.calls (k:Nat):∀ (a0:Int) (r:ByteArray) (w:World) (h:spec_l1Num.f k a0=some r),
  Calls Tryd.prog 69 #[.int .i64 a0] w fun e w'=>e = .returned (.string r)∧Below w.heap.size w w':=by
 induction k using Nat.strongRecOn with
 | _ k ih =>
 intro a0 r w h
 cases k with
 | zero=>exact absurd h (by simp [spec_l1Num.f])
 | succ k =>
 simp only [spec_l1Num.f] at h
 have HB:=aM (Below.refl w.heap.size w)
 have H:(if a0<10 then (some (strOfNums (([(wrap64 (48+a0)) % 256]:List Int)))) else ((spec_l1Num.f k (wrap64 (Int.tdiv a0 10))).bind fun t455=>((some (([(wrap64 (48+(Int.tmod a0 10))) % 256]:List Int):List Int)).bind fun y456=>(if t455.size+(strOfNums y456).size≤9223372036854775807 then (some (t455++(strOfNums y456))) else (none)))))=some r:=h
 clear h
 by_cases c2:a0<10
 ·rw [if_pos c2] at H
  have c2b0:=decide_eq_true c2;clear c2;obtain ⟨y452,hy452⟩:∃ y_:List Int,y_=(([(wrap64 (48+a0)) % 256]:List Int)):=⟨_,rfl⟩;replace H:(some (strOfNums y452))=some r:=q3y_ hy452 H
  have Ny452:=aM hy452;clear hy452;obtain rfl:=Option.some.inj H
  go_enter Tryd.func69,Tryd.ntmps69
  go_wp2_with (first | ((with_reducible refine gate_dst (N:=8) rfl ?_);refine Kd.R_lit (Kd.int .u8) _ 5 ?hg (N:=8) ?hd (xs:=([(wrap64 (48+a0)) % 256]:List Int)) (inner:=[.int .u8 ((wrap64 (48+a0)) % 256)]) (ok:=fun _=>True) (okp:=fun _=>True) ?hr ?hp (fun _ hk=>hk) trivial (Below.refl _ _) (Nat.le_refl _) (by simp) ?_;(case hd=>rfl);(case hg=>rfl);(case hr=>exact zb_);(case hp=>exact (Reps.one (show Kd.M (Kd.int .u8) _ _ _ ((wrap64 (48+a0)) % 256) [.int .u8 ((wrap64 (48+a0)) % 256)] from rfl) (Reps.none _ _)));intro v453 w3 ho4 hb hg_ hnew_;clear hg_ hnew_;(first | rw [← Ny452.out] at ho4 | (simp only [Int.reduceToNat] at ho4;rw [← Ny452.out] at ho4));have n_:=z (Kd.R_lower ho4 (below_size za_))<|z1 (below_step za_ hb);clear HB;obtain ⟨HO454,HB⟩:=n_;clear hb ho4;have hcv5:=own_string (P:=Tryd.prog) Tryd.underlying22 Tryd.underlying5 Tryd.underlying9 (Kd.own_of_R HO454.out)))
  go_ret
  exact ⟨zf_,za_⟩
 ·rw [if_neg c2] at H
  have c2b0:=decide_eq_false c2;clear c2;replace H:=oB.mp H;obtain ⟨t455,A60,H⟩:=H;replace H:((some (([(wrap64 (48+(Int.tmod a0 10))) % 256]:List Int):List Int)).bind fun y456=>(if t455.size+(strOfNums y456).size≤9223372036854775807 then (some (t455++(strOfNums y456))) else (none)))=some r:=H;have A6:=aM A60;clear A60;obtain ⟨y456,hy456⟩:∃ y_:List Int,y_=(([(wrap64 (48+(Int.tmod a0 10))) % 256]:List Int)):=⟨_,rfl⟩;replace H:(if t455.size+(strOfNums y456).size≤9223372036854775807 then (some (t455++(strOfNums y456))) else (none))=some r:=q3y_ hy456 H
  have Ny456:=aM hy456;clear hy456
  by_cases c7:t455.size+(strOfNums y456).size≤9223372036854775807
  ·rw [if_pos c7] at H
   have c7b0:=eq_true c7;have c7b1:=decide_eq_true c7;(try have c7b2:(9223372036854775807<t455.size+(strOfNums y456).size)=False:=eq_false (Nat.not_lt.2 c7));obtain rfl:=Option.some.inj H
   go_enter Tryd.func69,Tryd.ntmps69
   (try go_wp2);have n0_:=aM (p1 HB.out);clear HB;have HB:=n0_;clear n0_
   refine start_ (n:=11) (S:=fun w'=>True) (ds:=[]) #[fi,fi,fi,fi,fi,fi,fi,fi,fi,fi,fi] (by kernel_rfl) rfl rfl trivial (fun hHeld=>?_);refine with_tabW spec_l1Num.tab3 spec_l1Num.bits3 (fun HT_ HW_=>?_)
   generalize w.drew=w8 at HB hHeld ⊢;refine py_ 0 10 HT_.out ?_;refine py_ 1 11 HT_.out ?_;refine py_ 3 13 HT_.out ?_;refine py_ 4 14 HT_.out ?_;refine py_ 5 15 HT_.out ?_;refine py_ 6 16 HT_.out ?_
   refine join_ (σ:=Value) 2 #[ti,ti,ti,ti,ti,ti,ti,ti,ti,fi,fi] (fun s_ => [(12,.string t455),(17,s_),(18,.string (strOfNums y456))]) (fun s_ w'=>(Kd.R (Kd.int .u8) 5 w' w.heap.size (fun _=>True) s_ y456)∧(Below w.heap.size w w')) ?_ ?_
   rotate_left
   ·intro hCont
    refine two_ (i:=2) (j:=7) (Ni:=some 12) (Nj:=some 17) #[ti,ti,ti,ti,ti,ti,ti,fi,fi,fi,fi] #[ti,ti,fi,ti,ti,ti,ti,ti,fi,fi,fi] rfl rfl rfl rfl (two_of HT_.out (by kernel_rfl)) (by decide) (by decide) (fun K hK=>?_) (fun K hK=>?_)
    ·skip
     refine goes_ Tryd.func69 (by kernel_rfl) rfl #[.int .i64 (wrap64 (Int.tdiv a0 10))] (by rfl) rfl rfl zd_ ?_
     with_reducible refine (ih k (by omega) (wrap64 (Int.tdiv a0 10)) t455 _ A6.out).mono ?_
     rintro e w9 ⟨rfl,hb⟩
     refine ⟨_,rfl,?_⟩
     have n0_:=aM (below_step za_ hb);clear HB;have HB:=n0_;clear n0_;(try clear hb);(try clear hb2);(try clear hk);(try clear hi)
     refine hK.out _ _ trivial (fun hHeld=>?_)
     clear hK K
     refine nz_ 12 ?_
     refine one_ (i:=7) (N:=some 17) #[ti,ti,ti,ti,ti,ti,ti,ti,fi,fi,fi] rfl rfl (one_of HT_.out (by kernel_rfl)) (by decide) (fun K hK=>?_)
     refine Kd.R_lit_step (Kd.int .u8) _ 5 ?hg (N:=17) ?hd (xs:=([(wrap64 (48+(Int.tmod a0 10))) % 256]:List Int)) (inner:=[.int .u8 ((wrap64 (48+(Int.tmod a0 10))) % 256)]) (ok:=fun _=>True) (okp:=fun _=>True) ?hr ?hp (fun _ hk=>hk) trivial (Below.refl _ _) (Nat.le_refl _) (by simp) ?_;(case hd=>rfl);(case hg=>rfl);(case hr=>exact zb_);(case hp=>exact (Reps.one (show Kd.M (Kd.int .u8) _ _ _ ((wrap64 (48+(Int.tmod a0 10))) % 256) [.int .u8 ((wrap64 (48+(Int.tmod a0 10))) % 256)] from rfl) (Reps.none _ _)))
     intro v457 w10 ho11 hb hg_ hnew_
     clear hg_ hnew_;(first | rw [← Ny456.out] at ho11 | (simp only [Int.reduceToNat] at ho11;rw [← Ny456.out] at ho11));have n_:=z (Kd.R_lower ho11 (below_size za_))<|z1 (below_step za_ hb)
     clear HB;obtain ⟨HO458,HB⟩:=n_;clear hb ho11
     refine hK.out _ _ trivial (fun hHeld=>?_)
     clear hK K
     refine nz_ 17 ?_
     refine one_ (i:=8) (N:=some 18) #[ti,ti,ti,ti,ti,ti,ti,ti,ti,fi,fi] rfl rfl (one_of HT_.out (by kernel_rfl)) (by decide) (fun K hK=>?_)
     have hcv12:=own_string (P:=Tryd.prog) Tryd.underlying22 Tryd.underlying5 Tryd.underlying9 (Kd.own_of_R HO458.out)
     refine value_ (w1:=?_) (v:=?_) (by rfl) rfl ?_ ?_
     rotate_left 2
     ·go_simp
      constructor
      ·rfl
      ·rfl
     clear hcv12
     refine hK.out _ _ trivial (fun hHeld=>?_)
     clear hK K
     refine nz_ 18 ?_
     exact norm_ (by simp only [putAll,Act.put,sI,s0,sS]) (hCont (v457) _ ⟨(zr HO458.out),za_⟩)
    ·skip
     refine Kd.R_lit_step (Kd.int .u8) _ 5 ?hg (N:=17) ?hd (xs:=([(wrap64 (48+(Int.tmod a0 10))) % 256]:List Int)) (inner:=[.int .u8 ((wrap64 (48+(Int.tmod a0 10))) % 256)]) (ok:=fun _=>True) (okp:=fun _=>True) ?hr ?hp (fun _ hk=>hk) trivial (Below.refl _ _) (Nat.le_refl _) (by simp) ?_;(case hd=>rfl);(case hg=>rfl);(case hr=>exact zb_);(case hp=>exact (Reps.one (show Kd.M (Kd.int .u8) _ _ _ ((wrap64 (48+(Int.tmod a0 10))) % 256) [.int .u8 ((wrap64 (48+(Int.tmod a0 10))) % 256)] from rfl) (Reps.none _ _)))
     intro v457 w9 ho10 hb hg_ hnew_
     clear hg_ hnew_;(first | rw [← Ny456.out] at ho10 | (simp only [Int.reduceToNat] at ho10;rw [← Ny456.out] at ho10));have n_:=z (Kd.R_lower ho10 (below_size za_))<|z1 (below_step za_ hb)
     clear HB;obtain ⟨HO458,HB⟩:=n_;clear hb ho10
     refine hK.out _ _ trivial (fun hHeld=>?_)
     clear hK K
     refine nz_ 17 ?_
     refine two_ (i:=2) (j:=8) (Ni:=some 12) (Nj:=some 18) #[ti,ti,ti,ti,ti,ti,ti,ti,fi,fi,fi] #[ti,ti,fi,ti,ti,ti,ti,ti,ti,fi,fi] rfl rfl rfl rfl (two_of HT_.out (by kernel_rfl)) (by decide) (by decide) (fun K hK=>?_) (fun K hK=>?_)
     ·skip
      refine goes_ Tryd.func69 (by kernel_rfl) rfl #[.int .i64 (wrap64 (Int.tdiv a0 10))] (by rfl) rfl rfl zd_ ?_
      with_reducible refine (ih k (by omega) (wrap64 (Int.tdiv a0 10)) t455 _ A6.out).mono ?_
      rintro e w11 ⟨rfl,hb⟩
      refine ⟨_,rfl,?_⟩
      have n_:=z (Kd.R_below (zr HO458.out) hb)<|z1 (below_step za_ hb)
      clear HO458 HB;obtain ⟨HO458,HB⟩:=n_;(try clear hb);(try clear hb2);(try clear hk);(try clear hi)
      refine hK.out _ _ trivial (fun hHeld=>?_)
      clear hK K
      refine nz_ 12 ?_
      refine one_ (i:=8) (N:=some 18) #[ti,ti,ti,ti,ti,ti,ti,ti,ti,fi,fi] rfl rfl (one_of HT_.out (by kernel_rfl)) (by decide) (fun K hK=>?_)
      have hcv12:=own_string (P:=Tryd.prog) Tryd.underlying22 Tryd.underlying5 Tryd.underlying9 (Kd.own_of_R HO458.out)
      refine value_ (w1:=?_) (v:=?_) (by rfl) rfl ?_ ?_
      rotate_left 2
      ·go_simp
       constructor
       ·rfl
       ·rfl
      clear hcv12
      refine hK.out _ _ trivial (fun hHeld=>?_)
      clear hK K
      refine nz_ 18 ?_
      exact norm_ (by simp only [putAll,Act.put,sI,s0,sS]) (hCont (v457) _ ⟨(zr HO458.out),za_⟩)
     ·skip
      have hcv11:=own_string (P:=Tryd.prog) Tryd.underlying22 Tryd.underlying5 Tryd.underlying9 (Kd.own_of_R HO458.out)
      refine value_ (w1:=?_) (v:=?_) (by rfl) rfl ?_ ?_
      rotate_left 2
      ·go_simp
       constructor
       ·rfl
       ·rfl
      clear hcv11
      refine hK.out _ _ trivial (fun hHeld=>?_)
      clear hK K
      refine nz_ 18 ?_
      refine one_ (i:=2) (N:=some 12) #[ti,ti,ti,ti,ti,ti,ti,ti,ti,fi,fi] rfl rfl (one_of HT_.out (by kernel_rfl)) (by decide) (fun K hK=>?_)
      refine goes_ Tryd.func69 (by kernel_rfl) rfl #[.int .i64 (wrap64 (Int.tdiv a0 10))] (by rfl) rfl rfl zd_ ?_
      with_reducible refine (ih k (by omega) (wrap64 (Int.tdiv a0 10)) t455 _ A6.out).mono ?_
      rintro e w12 ⟨rfl,hb⟩
      refine ⟨_,rfl,?_⟩
      have n_:=z (Kd.R_below (zr HO458.out) hb)<|z1 (below_step za_ hb)
      clear HO458 HB;obtain ⟨HO458,HB⟩:=n_;(try clear hb);(try clear hb2);(try clear hk);(try clear hi)
      refine hK.out _ _ trivial (fun hHeld=>?_)
      clear hK K
      refine nz_ 12 ?_
      exact norm_ (by simp only [putAll,Act.put,sI,s0,sS]) (hCont (v457) _ ⟨(zr HO458.out),za_⟩)
   rintro v457 w13 ⟨h0_,h1_⟩
   have n0_:Aside0 (Kd.R (Kd.int .u8) 5 w13 w.heap.size (fun _=>True) v457 y456):=⟨h0_⟩;have n1_:Aside0 (Below w.heap.size w w13):=⟨h1_⟩;clear HB h0_ h1_;have HO458:=n0_;have HB:=n1_;clear n0_ n1_;have hHeld:=trivial
   refine norm_ (a':=?_) ?_ ?_
   rotate_left
   ·simp only [putAll,Act.put,sI,s0,sS]
    rfl
   refine py_ 9 19 HT_.out ?_;refine py_ 10 2 HT_.out ?_
   refine done_ (done_of HT_.out (by kernel_rfl)) ?_
   (try go_wp2)
   go_ret
   exact ⟨zf_,za_⟩
  ·rw [if_neg c7] at H
   exact q3n_ H
def spec_DiagramText.l0:Nat→ByteArray→List (S70)→Int→Int→Int→List (S70)→Int→Option (ByteArray×Bool)
 | 0,_,_,_,_,_,_,_=>none
 | k+1,x4,x11,x12,x13,x460000,x460001,x460002=>if x13<x12 then (if 0≤x13 then (if x13<(x11.length:Int) then ((spec_l1Num.f k ((rd_T70 x11 x13).f0)).bind fun t463=>(if t463.size+1≤9223372036854775807 then ((spec_l1Num.f k ((rd_T70 x11 x13).f1)).bind fun t464=>(if (t463++(⟨#[32]⟩:ByteArray)).size+t464.size≤9223372036854775807 then (if ((t463++(⟨#[32]⟩:ByteArray))++t464).size+1≤9223372036854775807 then ((spec_l1Num.f k ((rd_T70 x11 x13).f2)).bind fun t465=>(if (((t463++(⟨#[32]⟩:ByteArray))++t464)++(⟨#[32]⟩:ByteArray)).size+t465.size≤9223372036854775807 then (if ((((t463++(⟨#[32]⟩:ByteArray))++t464)++(⟨#[32]⟩:ByteArray))++t465).size+1≤9223372036854775807 then (if x4.size+(((((t463++(⟨#[32]⟩:ByteArray))++t464)++(⟨#[32]⟩:ByteArray))++t465)++(⟨#[10]⟩:ByteArray)).size≤9223372036854775807 then (spec_DiagramText.l0 k (x4++(((((t463++(⟨#[32]⟩:ByteArray))++t464)++(⟨#[32]⟩:ByteArray))++t465)++(⟨#[10]⟩:ByteArray))) x11 x12 (wrap64 (x13+1)) x460000 x460001 x460002) else (none)) else (none)) else (none))) else (none)) else (none))) else (none))) else (none)) else (none)) else ((spec_l1Num.f k x460002).bind fun t466=>(if x4.size+t466.size≤9223372036854775807 then (if (x4++t466).size+1≤9223372036854775807 then (some ((x4++t466)++(⟨#[10]⟩:ByteArray),true)) else (none)) else (none)))
def spec_DiagramText.f (k:Nat) (a0_0:Int) (l0_1:List (S70)) (a0_2:Int):Option (ByteArray×Bool):=(spec_ddGood.f k a0_0 l0_1 a0_2).bind fun t460=>(if t460=true then (spec_DiagramText.l0 k (⟨#[]⟩:ByteArray) l0_1 (l0_1.length:Int) 0 a0_0 l0_1 a0_2) else (some ((⟨#[]⟩:ByteArray),false)))
def spec_DiagramText.T7:Bool×List (List Nat×List Nat):=(true,[([],[]),([],[]),([1],[1]),([2],[2]),([3],[3]),([],[]),([5],[5]),([6,3],[6]),([4,7],[4,7]),([8],[8]),([],[]),([10],[10]),([11,7],[11]),([9,12],[9,12]),([13],[13]),([0,14],[0,14]),([15,12,0,1,2,3,4,5,6,7,8,9,10,11,12,13,14,15],[0,15])])
def spec_DiagramText.B7:List Nat:=[0,0,2,6,14,0,32,110,254,510,0,1024,3310,8190,16382,32767,65535]
theorem spec_DiagramText.tab7:rtab .any (opsOf Tryd.f27 7)=spec_DiagramText.T7:=by kernel_rfl
theorem spec_DiagramText.bits7:waitsOk spec_DiagramText.T7.2 spec_DiagramText.B7=true:=by kernel_rfl
theorem spec_DiagramText.calls (k:Nat) (a0_0:Int) (A0_1:Option Addr) (c0_1:Nat) (l0_1:List (S70)) (a0_2:Int) (r1:ByteArray) (r2:Bool) (w:World) (hr0_1:Kd.C k70 w A0_1 l0_1.length l0_1) (hc0_1:l0_1.length≤c0_1) (h:spec_DiagramText.f k a0_0 l0_1 a0_2=some (r1,r2)) :
  Calls Tryd.prog 27 #[.agg #[.int .i64 a0_0,.slice A0_1 l0_1.length c0_1,.int .i64 a0_2]] w fun e w'=>e = .returned (.tuple #[.string r1,.bool r2])∧Below w.heap.size w w':=by
 have hu30:=Tryd.underlying30
 have hu70:=Tryd.underlying70
 have HR0_1:=aM hr0_1
 have HC0_1:=aM hc0_1
 clear hr0_1 hc0_1
 have HB:=aM (Below.refl w.heap.size w)
 have H:((spec_ddGood.f k a0_0 l0_1 a0_2).bind fun t460=>(if t460=true then (spec_DiagramText.l0 k (⟨#[]⟩:ByteArray) l0_1 (l0_1.length:Int) 0 a0_0 l0_1 a0_2) else (some ((⟨#[]⟩:ByteArray),false))))=some (r1,r2):=h
 clear h
 replace H:=oB.mp H
 obtain ⟨t460,A20,H⟩:=H
 replace H:(if t460=true then (spec_DiagramText.l0 k (⟨#[]⟩:ByteArray) l0_1 (l0_1.length:Int) 0 a0_0 l0_1 a0_2) else (some ((⟨#[]⟩:ByteArray),false)))=some (r1,r2):=H
 have A2:=aM A20
 clear A20
 by_cases c3:t460=true
 ·subst c3
  have H1:(spec_DiagramText.l0 k (⟨#[]⟩:ByteArray) l0_1 (l0_1.length:Int) 0 a0_0 l0_1 a0_2)=some (r1,r2):=by rw [if_pos rfl] at H;exact H
  clear H;have H:=H1;clear H1;have H':=aM H;clear H
  go_enter Tryd.func27,Tryd.ntmps27
  go_wp2_with (first | ((with_reducible refine gate_dst (N:=1) rfl ?_);refine box_event ?hg (N:=1) ?hd (cs:=#[.int .i64 a0_0,.slice A0_1 l0_1.length c0_1,.int .i64 a0_2]) (t:=30) ?hr ?_;(case hd=>rfl);(case hg=>rfl);(case hr=>exact zb_);intro gb459 hg w4 hbox hb;have n_:=z (below_step za_ hb)<|z (hbox)<|z ((by rw [hg];exact (below_size za_):w.heap.size≤gb459))<|z1 ((by rw [hg];exact (below_size za_):w.heap.size≤gb459));clear HB;obtain ⟨HB,BK459,GW459,GE459⟩:=n_;clear hb hbox hg;obtain ⟨hcz5_0,hcz5_1,hcz5_2,hfz5_0,hfz5_1,hfz5_2⟩:=zk3 BK459.out)|((with_reducible refine gate_callee (f:=62) rfl ?_);refine goesL_ (some 8) rfl rfl Tryd.func62 (by kernel_rfl) rfl #[.agg #[.int .i64 a0_0,.slice A0_1 l0_1.length c0_1,.int .i64 a0_2]] rfl zd_ ?_;(with_reducible refine (spec_ddGood.calls k a0_0 _ _ l0_1 a0_2 true _ ?side1 ?side2 A2.out).mono ?_);(case side1=>exact zg_);(case side2=>exact HC0_1.out);rintro e w6 ⟨rfl,hb⟩;refine ⟨_,rfl,?_⟩;have n_:=z (blk_below (zb BK459.out) hb)<|z1 (below_step zej_ hb);clear BK459 HB;obtain ⟨BK459,HB⟩:=n_;clear hb;obtain ⟨hcz7_0,hcz7_1,hcz7_2,hfz7_0,hfz7_1,hfz7_2⟩:=zk3 BK459.out))
  go_loopg [4,13] k (fun kq v4 v13 w' => ∃ (x4_1:ByteArray) (x13_1:Int),v4 = .string x4_1∧v13 = .int .i64 x13_1∧Aside0 (spec_DiagramText.l0 kq x4_1 l0_1 (l0_1.length:Int) x13_1 a0_0 l0_1 a0_2=some (r1,r2))∧Aside0 (kq≤k)∧Aside0 (w'.heap[gb459]?=some (.cells #[.int .i64 a0_0,(.slice A0_1 l0_1.length c0_1),.int .i64 a0_2] 30 (0,0)))∧Aside0 (Below w.heap.size w w'))
  case atStart=>exact ⟨((⟨#[]⟩:ByteArray)),(0),ze_,ze_,H',⟨Nat.le_refl _⟩,⟨zb BK459.out⟩,⟨zej_⟩⟩
  case round =>
   clear H';(try clear hcz5_0);(try clear hcz5_1);(try clear hcz5_2);(try clear hcz7_0);(try clear hcz7_1);(try clear hcz7_2);(try clear hfz5_0);(try clear hfz5_1);(try clear hfz5_2);(try clear hfz7_0);(try clear hfz7_1);(try clear hfz7_2);obtain ⟨x4_1,x13_1,rfl,rfl,HA,HK1,BK459,HB⟩:=hrel
   cases gk with
   | zero=>exact absurd HA.out (by simp [spec_DiagramText.l0])
   | succ k1 =>
    have H:=HA.out;clear HA
    simp only [spec_DiagramText.l0] at H
    by_cases c8:x13_1<(l0_1.length:Int)
    ·rw [if_pos c8] at H
     have c8b0:=decide_eq_true c8;clear c8
     by_cases c9:0≤x13_1
     ·rw [if_pos c9] at H
      have c9b0:=decide_eq_true c9;clear c9
      by_cases c10:x13_1<(l0_1.length:Int)
      ·rw [if_pos c10] at H
       have c10b0:=decide_eq_true c10;clear c10;replace H:=oB.mp H;obtain ⟨t463,A110,H⟩:=H;replace H:(if t463.size+1≤9223372036854775807 then ((spec_l1Num.f k1 ((rd_T70 l0_1 x13_1).f1)).bind fun t464=>(if (t463++(⟨#[32]⟩:ByteArray)).size+t464.size≤9223372036854775807 then (if ((t463++(⟨#[32]⟩:ByteArray))++t464).size+1≤9223372036854775807 then ((spec_l1Num.f k1 ((rd_T70 l0_1 x13_1).f2)).bind fun t465=>(if (((t463++(⟨#[32]⟩:ByteArray))++t464)++(⟨#[32]⟩:ByteArray)).size+t465.size≤9223372036854775807 then (if ((((t463++(⟨#[32]⟩:ByteArray))++t464)++(⟨#[32]⟩:ByteArray))++t465).size+1≤9223372036854775807 then (if x4_1.size+(((((t463++(⟨#[32]⟩:ByteArray))++t464)++(⟨#[32]⟩:ByteArray))++t465)++(⟨#[10]⟩:ByteArray)).size≤9223372036854775807 then (spec_DiagramText.l0 k1 (x4_1++(((((t463++(⟨#[32]⟩:ByteArray))++t464)++(⟨#[32]⟩:ByteArray))++t465)++(⟨#[10]⟩:ByteArray))) l0_1 (l0_1.length:Int) (wrap64 (x13_1+1)) a0_0 l0_1 a0_2) else (none)) else (none)) else (none))) else (none)) else (none))) else (none))=some (r1,r2):=H;have A11:=aM A110;clear A110
       by_cases c12:t463.size+1≤9223372036854775807
       ·rw [if_pos c12] at H
        have c12b0:=eq_true c12;have c12b1:=decide_eq_true c12;(try have c12b2:(9223372036854775807<t463.size+1)=False:=eq_false (Nat.not_lt.2 c12));replace H:=oB.mp H;obtain ⟨t464,A130,H⟩:=H;replace H:(if (t463++(⟨#[32]⟩:ByteArray)).size+t464.size≤9223372036854775807 then (if ((t463++(⟨#[32]⟩:ByteArray))++t464).size+1≤9223372036854775807 then ((spec_l1Num.f k1 ((rd_T70 l0_1 x13_1).f2)).bind fun t465=>(if (((t463++(⟨#[32]⟩:ByteArray))++t464)++(⟨#[32]⟩:ByteArray)).size+t465.size≤9223372036854775807 then (if ((((t463++(⟨#[32]⟩:ByteArray))++t464)++(⟨#[32]⟩:ByteArray))++t465).size+1≤9223372036854775807 then (if x4_1.size+(((((t463++(⟨#[32]⟩:ByteArray))++t464)++(⟨#[32]⟩:ByteArray))++t465)++(⟨#[10]⟩:ByteArray)).size≤9223372036854775807 then (spec_DiagramText.l0 k1 (x4_1++(((((t463++(⟨#[32]⟩:ByteArray))++t464)++(⟨#[32]⟩:ByteArray))++t465)++(⟨#[10]⟩:ByteArray))) l0_1 (l0_1.length:Int) (wrap64 (x13_1+1)) a0_0 l0_1 a0_2) else (none)) else (none)) else (none))) else (none)) else (none))=some (r1,r2):=H;have A13:=aM A130;clear A130
        by_cases c14:(t463++(⟨#[32]⟩:ByteArray)).size+t464.size≤9223372036854775807
        ·rw [if_pos c14] at H
         have c14b0:=eq_true c14;have c14b1:=decide_eq_true c14;(try have c14b3:(t463.size+1+t464.size≤9223372036854775807)=True:=eq_true (by have h_:=c14;(repeat rw [ByteArray.size_append] at h_);exact h_));(try have c14b4:(9223372036854775807<t463.size+1+t464.size)=False:=eq_false (by have h_:=c14;(repeat rw [ByteArray.size_append] at h_);exact Nat.not_lt.2 h_));(try have c14b2:(9223372036854775807<(t463++(⟨#[32]⟩:ByteArray)).size+t464.size)=False:=eq_false (Nat.not_lt.2 c14))
         by_cases c15:((t463++(⟨#[32]⟩:ByteArray))++t464).size+1≤9223372036854775807
         ·rw [if_pos c15] at H
          have c15b0:=eq_true c15;have c15b1:=decide_eq_true c15;(try have c15b3:(t463.size+1+t464.size+1≤9223372036854775807)=True:=eq_true (by have h_:=c15;(repeat rw [ByteArray.size_append] at h_);exact h_));(try have c15b4:(9223372036854775807<t463.size+1+t464.size+1)=False:=eq_false (by have h_:=c15;(repeat rw [ByteArray.size_append] at h_);exact Nat.not_lt.2 h_));(try have c15b2:(9223372036854775807<((t463++(⟨#[32]⟩:ByteArray))++t464).size+1)=False:=eq_false (Nat.not_lt.2 c15));replace H:=oB.mp H;obtain ⟨t465,A160,H⟩:=H;replace H:(if (((t463++(⟨#[32]⟩:ByteArray))++t464)++(⟨#[32]⟩:ByteArray)).size+t465.size≤9223372036854775807 then (if ((((t463++(⟨#[32]⟩:ByteArray))++t464)++(⟨#[32]⟩:ByteArray))++t465).size+1≤9223372036854775807 then (if x4_1.size+(((((t463++(⟨#[32]⟩:ByteArray))++t464)++(⟨#[32]⟩:ByteArray))++t465)++(⟨#[10]⟩:ByteArray)).size≤9223372036854775807 then (spec_DiagramText.l0 k1 (x4_1++(((((t463++(⟨#[32]⟩:ByteArray))++t464)++(⟨#[32]⟩:ByteArray))++t465)++(⟨#[10]⟩:ByteArray))) l0_1 (l0_1.length:Int) (wrap64 (x13_1+1)) a0_0 l0_1 a0_2) else (none)) else (none)) else (none))=some (r1,r2):=H;have A16:=aM A160;clear A160
          by_cases c17:(((t463++(⟨#[32]⟩:ByteArray))++t464)++(⟨#[32]⟩:ByteArray)).size+t465.size≤9223372036854775807
          ·rw [if_pos c17] at H
           have c17b0:=eq_true c17;have c17b1:=decide_eq_true c17;(try have c17b3:(t463.size+1+t464.size+1+t465.size≤9223372036854775807)=True:=eq_true (by have h_:=c17;(repeat rw [ByteArray.size_append] at h_);exact h_));(try have c17b4:(9223372036854775807<t463.size+1+t464.size+1+t465.size)=False:=eq_false (by have h_:=c17;(repeat rw [ByteArray.size_append] at h_);exact Nat.not_lt.2 h_));(try have c17b2:(9223372036854775807<(((t463++(⟨#[32]⟩:ByteArray))++t464)++(⟨#[32]⟩:ByteArray)).size+t465.size)=False:=eq_false (Nat.not_lt.2 c17))
           by_cases c18:((((t463++(⟨#[32]⟩:ByteArray))++t464)++(⟨#[32]⟩:ByteArray))++t465).size+1≤9223372036854775807
           ·rw [if_pos c18] at H
            have c18b0:=eq_true c18;have c18b1:=decide_eq_true c18;(try have c18b3:(t463.size+1+t464.size+1+t465.size+1≤9223372036854775807)=True:=eq_true (by have h_:=c18;(repeat rw [ByteArray.size_append] at h_);exact h_));(try have c18b4:(9223372036854775807<t463.size+1+t464.size+1+t465.size+1)=False:=eq_false (by have h_:=c18;(repeat rw [ByteArray.size_append] at h_);exact Nat.not_lt.2 h_));(try have c18b2:(9223372036854775807<((((t463++(⟨#[32]⟩:ByteArray))++t464)++(⟨#[32]⟩:ByteArray))++t465).size+1)=False:=eq_false (Nat.not_lt.2 c18))
            by_cases c19:x4_1.size+(((((t463++(⟨#[32]⟩:ByteArray))++t464)++(⟨#[32]⟩:ByteArray))++t465)++(⟨#[10]⟩:ByteArray)).size≤9223372036854775807
            ·rw [if_pos c19] at H
             have c19b0:=eq_true c19;have c19b1:=decide_eq_true c19;(try have c19b3:(x4_1.size+(t463.size+1+t464.size+1+t465.size+1)≤9223372036854775807)=True:=eq_true (by have h_:=c19;(repeat rw [ByteArray.size_append] at h_);exact h_));(try have c19b4:(9223372036854775807<x4_1.size+(t463.size+1+t464.size+1+t465.size+1))=False:=eq_false (by have h_:=c19;(repeat rw [ByteArray.size_append] at h_);exact Nat.not_lt.2 h_));(try have c19b2:(9223372036854775807<x4_1.size+(((((t463++(⟨#[32]⟩:ByteArray))++t464)++(⟨#[32]⟩:ByteArray))++t465)++(⟨#[10]⟩:ByteArray)).size)=False:=eq_false (Nat.not_lt.2 c19));have H':=aM H;clear H;have p461:0≤(x13_1:Int):=of_decide_eq_true zc_;have q461:x13_1<(l0_1.length:Int):=of_decide_eq_true zc_;obtain ⟨ad461,e461,hx461_0,hx461_1,hx461_2⟩:=at_T70 HR0_1.out x13_1 p461 q461
             cases e461
             (try (replace hx461_0:=q3h_ HB.out hx461_0));(try (replace hx461_1:=q3h_ HB.out hx461_1));(try (replace hx461_2:=q3h_ HB.out hx461_2));replace p461:=eq_true p461;replace q461:=eq_true q461;(try go_wp2_with (first | ((with_reducible refine gate_dst (N:=6) rfl ?_);refine box_event ?hg (N:=6) ?hd (cs:=#[.int .i64 0,.int .i64 0,.int .i64 0]) (t:=70) ?hr ?_;(case hd=>rfl);(case hg=>rfl);(case hr=>exact zb_);intro gb462 hg w20 hbox hb;have n_:=z (blk_below (zb BK459.out) hb)<|z (below_step zej_ hb)<|z (hbox)<|z ((by rw [hg];exact (below_size zej_):w.heap.size≤gb462))<|z ((by rw [hg];exact (below_size zej_):w.heap.size≤gb462))<|z ((by rw [hg];exact Nat.ne_of_lt (blk_lt (zb BK459.out)):gb459≠gb462))<|z1 ((by rw [hg];exact Nat.ne_of_gt (blk_lt (zb BK459.out)):gb462≠gb459));clear BK459 HB;obtain ⟨BK459,HB,BK462,GW462,GE462,NB459_462,NB462_459⟩:=n_;clear hb hbox hg;have hnb21:=NB462_459.out;have hnc21:=NB459_462.out;obtain ⟨hcz22_0,hcz22_1,hcz22_2,hfz22_0,hfz22_1,hfz22_2⟩:=zk3 BK462.out)));have n0_:Aside0 ((((w20.setCell ⟨gb462,0,none⟩ (.int .i64 ((rd_T70 l0_1 x13_1).f0))).setCell ⟨gb462,1,none⟩ (.int .i64 ((rd_T70 l0_1 x13_1).f1))).setCell ⟨gb462,2,none⟩ (.int .i64 ((rd_T70 l0_1 x13_1).f2))).heap[gb459]?=some (.cells #[.int .i64 a0_0,.slice (some ad461) l0_1.length c0_1,.int .i64 a0_2] 30 (0,0))):=⟨by refine zb ?_;refine blk_far ?_ NB459_462.out _;refine zb ?_;refine blk_far ?_ NB459_462.out _;refine zb ?_;refine blk_far ?_ NB459_462.out _;refine zb ?_;exact BK459.out⟩;have n1_:Aside0 ((((w20.setCell ⟨gb462,0,none⟩ (.int .i64 ((rd_T70 l0_1 x13_1).f0))).setCell ⟨gb462,1,none⟩ (.int .i64 ((rd_T70 l0_1 x13_1).f1))).setCell ⟨gb462,2,none⟩ (.int .i64 ((rd_T70 l0_1 x13_1).f2))).heap[gb462]?=some (.cells #[.int .i64 ((rd_T70 l0_1 x13_1).f0),.int .i64 ((rd_T70 l0_1 x13_1).f1),.int .i64 ((rd_T70 l0_1 x13_1).f2)] 70 (0,0))):=⟨by refine zb ?_;refine blk_put (cs:=#[.int .i64 ((rd_T70 l0_1 x13_1).f0),.int .i64 ((rd_T70 l0_1 x13_1).f1),.int .i64 0]) ?_ 2 _ rfl;refine zb ?_;refine blk_put (cs:=#[.int .i64 ((rd_T70 l0_1 x13_1).f0),.int .i64 0,.int .i64 0]) ?_ 1 _ rfl;refine zb ?_;refine blk_put (cs:=#[.int .i64 0,.int .i64 0,.int .i64 0]) ?_ 0 _ rfl;refine zb ?_;exact BK462.out⟩;have n2_:Aside0 (Below w.heap.size w (((w20.setCell ⟨gb462,0,none⟩ (.int .i64 ((rd_T70 l0_1 x13_1).f0))).setCell ⟨gb462,1,none⟩ (.int .i64 ((rd_T70 l0_1 x13_1).f1))).setCell ⟨gb462,2,none⟩ (.int .i64 ((rd_T70 l0_1 x13_1).f2)))):=⟨zif_⟩;(try clear BK459);(try clear BK462);(try clear HB);generalize (((w20.setCell ⟨gb462,0,none⟩ (.int .i64 ((rd_T70 l0_1 x13_1).f0))).setCell ⟨gb462,1,none⟩ (.int .i64 ((rd_T70 l0_1 x13_1).f1))).setCell ⟨gb462,2,none⟩ (.int .i64 ((rd_T70 l0_1 x13_1).f2)))=w23 at n0_ n1_ n2_ ⊢;have BK459:=n0_;have BK462:=n1_;have HB:=n2_;clear n0_ n1_ n2_;have n_:=z (blk_drew BK459.out)<|z (blk_drew BK462.out)<|z1 (p1 HB.out)
             clear BK459 BK462 HB;obtain ⟨BK459,BK462,HB⟩:=n_
             refine start_ (n:=17) (S:=fun w'=>w'.cell? ⟨gb462,0,none⟩=some (.int .i64 ((rd_T70 l0_1 x13_1).f0))∧w'.cell? ⟨gb462,1,none⟩=some (.int .i64 ((rd_T70 l0_1 x13_1).f1))∧w'.cell? ⟨gb462,2,none⟩=some (.int .i64 ((rd_T70 l0_1 x13_1).f2))) (ds:=[]) #[fi,fi,fi,fi,fi,fi,fi,fi,fi,fi,fi,fi,fi,fi,fi,fi,fi] (by kernel_rfl) rfl rfl ⟨(blk_cell BK462.out 0).trans rfl,(blk_cell BK462.out 1).trans rfl,(blk_cell BK462.out 2).trans rfl⟩ (fun hHeld=>?_);refine with_tabW spec_DiagramText.tab7 spec_DiagramText.bits7 (fun HT_ HW_=>?_)
             generalize w23.drew=w24 at BK459 BK462 HB hHeld ⊢;refine py_ 0 17 HT_.out ?_;refine py_ 1 18 HT_.out ?_;refine py_ 5 22 HT_.out ?_;refine py_ 10 27 HT_.out ?_
             refine tw3_ 2 19 HT_.out HW_.out hHeld ?_
             refine tw3_ 6 23 HT_.out HW_.out hHeld ?_
             refine tw3_ 11 28 HT_.out HW_.out hHeld ?_
             refine one_ (i:=3) (N:=some 20) #[ti,ti,ti,ti,fi,ti,ti,fi,fi,fi,ti,ti,fi,fi,fi,fi,fi] rfl rfl (one_of HT_.out (by kernel_rfl)) (by decide) (fun K hK=>?_)
             refine goes_ Tryd.func69 (by kernel_rfl) rfl #[.int .i64 ((rd_T70 l0_1 x13_1).f0)] (by rfl) rfl rfl zd_ ?_
             with_reducible refine (spec_l1Num.calls k1 ((rd_T70 l0_1 x13_1).f0) t463 _ A11.out).mono ?_
             rintro e w25 ⟨rfl,hb⟩
             refine ⟨_,rfl,?_⟩
             have n_:=z (blk_below (zb BK459.out) hb)<|z (blk_below (g:=gb462) (o := .cells #[.int .i64 ((rd_T70 l0_1 x13_1).f0),.int .i64 ((rd_T70 l0_1 x13_1).f1),.int .i64 ((rd_T70 l0_1 x13_1).f2)] 70 (0,0)) (zb BK462.out) hb)<|z1 (below_step zif_ hb)
             clear BK459 BK462 HB;obtain ⟨BK459,BK462,HB⟩:=n_;(try clear hb);(try clear hb2);(try clear hk);(try clear hi)
             refine hK.out _ _ ⟨(blk_cell BK462.out 0).trans rfl,(blk_cell BK462.out 1).trans rfl,(blk_cell BK462.out 2).trans rfl⟩ (fun hHeld=>?_)
             clear hK K
             refine nz_ 20 ?_
             refine py_ 4 21 HT_.out ?_
             refine one_ (i:=7) (N:=some 24) #[ti,ti,ti,ti,ti,ti,ti,ti,fi,fi,ti,ti,fi,fi,fi,fi,fi] rfl rfl (one_of HT_.out (by kernel_rfl)) (by decide) (fun K hK=>?_)
             refine goes_ Tryd.func69 (by kernel_rfl) rfl #[.int .i64 ((rd_T70 l0_1 x13_1).f1)] (by rfl) rfl rfl zd_ ?_
             with_reducible refine (spec_l1Num.calls k1 ((rd_T70 l0_1 x13_1).f1) t464 _ A13.out).mono ?_
             rintro e w26 ⟨rfl,hb⟩
             refine ⟨_,rfl,?_⟩
             have n_:=z (blk_below (zb BK459.out) hb)<|z (blk_below (g:=gb462) (o := .cells #[.int .i64 ((rd_T70 l0_1 x13_1).f0),.int .i64 ((rd_T70 l0_1 x13_1).f1),.int .i64 ((rd_T70 l0_1 x13_1).f2)] 70 (0,0)) (zb BK462.out) hb)<|z1 (below_step zif_ hb)
             clear BK459 BK462 HB;obtain ⟨BK459,BK462,HB⟩:=n_;(try clear hb);(try clear hb2);(try clear hk);(try clear hi)
             refine hK.out _ _ ⟨(blk_cell BK462.out 0).trans rfl,(blk_cell BK462.out 1).trans rfl,(blk_cell BK462.out 2).trans rfl⟩ (fun hHeld=>?_)
             clear hK K
             refine nz_ 24 ?_
             refine py_ 8 25 HT_.out ?_;refine py_ 9 26 HT_.out ?_
             refine one_ (i:=12) (N:=some 29) #[ti,ti,ti,ti,ti,ti,ti,ti,ti,ti,ti,ti,ti,fi,fi,fi,fi] rfl rfl (one_of HT_.out (by kernel_rfl)) (by decide) (fun K hK=>?_)
             refine goes_ Tryd.func69 (by kernel_rfl) rfl #[.int .i64 ((rd_T70 l0_1 x13_1).f2)] (by rfl) rfl rfl zd_ ?_
             with_reducible refine (spec_l1Num.calls k1 ((rd_T70 l0_1 x13_1).f2) t465 _ A16.out).mono ?_
             rintro e w27 ⟨rfl,hb⟩
             refine ⟨_,rfl,?_⟩
             have n_:=z (blk_below (zb BK459.out) hb)<|z (blk_below (g:=gb462) (o := .cells #[.int .i64 ((rd_T70 l0_1 x13_1).f0),.int .i64 ((rd_T70 l0_1 x13_1).f1),.int .i64 ((rd_T70 l0_1 x13_1).f2)] 70 (0,0)) (zb BK462.out) hb)<|z1 (below_step zif_ hb)
             clear BK459 BK462 HB;obtain ⟨BK459,BK462,HB⟩:=n_;(try clear hb);(try clear hb2);(try clear hk);(try clear hi)
             refine hK.out _ _ ⟨(blk_cell BK462.out 0).trans rfl,(blk_cell BK462.out 1).trans rfl,(blk_cell BK462.out 2).trans rfl⟩ (fun hHeld=>?_)
             clear hK K
             refine nz_ 29 ?_
             refine py_ 13 30 HT_.out ?_;refine py_ 14 31 HT_.out ?_;refine py_ 15 32 HT_.out ?_;refine py_ 16 4 HT_.out ?_
             refine done_ (done_of HT_.out (by kernel_rfl)) ?_
             (try go_wp2)
             go_roundg k1
             case measure=>have:=HK1.out;omega
             case rel=>exact ⟨(x4_1++(((((t463++(⟨#[32]⟩:ByteArray))++t464)++(⟨#[32]⟩:ByteArray))++t465)++(⟨#[10]⟩:ByteArray))),(wrap64 (x13_1+1)),ze_,ze_,H',⟨zbd_⟩,⟨zb BK459.out⟩,⟨zif_⟩⟩
            ·rw [if_neg c19] at H
             exact q3n_ H
           ·rw [if_neg c18] at H
            exact q3n_ H
          ·rw [if_neg c17] at H
           exact q3n_ H
         ·rw [if_neg c15] at H
          exact q3n_ H
        ·rw [if_neg c14] at H
         exact q3n_ H
       ·rw [if_neg c12] at H
        exact q3n_ H
      ·rw [if_neg c10] at H
       exact q3n_ H
     ·rw [if_neg c9] at H
      exact q3n_ H
    ·rw [if_neg c8] at H
     have c8b0:=decide_eq_false c8;clear c8;replace H:=oB.mp H;obtain ⟨t466,A280,H⟩:=H;replace H:(if x4_1.size+t466.size≤9223372036854775807 then (if (x4_1++t466).size+1≤9223372036854775807 then (some ((x4_1++t466)++(⟨#[10]⟩:ByteArray),true)) else (none)) else (none))=some (r1,r2):=H;have A28:=aM A280;clear A280
     by_cases c29:x4_1.size+t466.size≤9223372036854775807
     ·rw [if_pos c29] at H
      have c29b0:=eq_true c29;have c29b1:=decide_eq_true c29;(try have c29b2:(9223372036854775807<x4_1.size+t466.size)=False:=eq_false (Nat.not_lt.2 c29))
      by_cases c30:(x4_1++t466).size+1≤9223372036854775807
      ·rw [if_pos c30] at H
       have c30b0:=eq_true c30;have c30b1:=decide_eq_true c30;(try have c30b3:(x4_1.size+t466.size+1≤9223372036854775807)=True:=eq_true (by have h_:=c30;(repeat rw [ByteArray.size_append] at h_);exact h_));(try have c30b4:(9223372036854775807<x4_1.size+t466.size+1)=False:=eq_false (by have h_:=c30;(repeat rw [ByteArray.size_append] at h_);exact Nat.not_lt.2 h_));(try have c30b2:(9223372036854775807<(x4_1++t466).size+1)=False:=eq_false (Nat.not_lt.2 c30))
       simp only [Option.some.injEq,Prod.mk.injEq] at H
       obtain ⟨rfl,rfl⟩:=H;obtain ⟨hcz31_0,hcz31_1,hcz31_2,hfz31_0,hfz31_1,hfz31_2⟩:=zk3 BK459.out
       go_wp2_with (first | ((with_reducible refine gate_callee (f:=69) rfl ?_);refine goesL_ (some 37) rfl rfl Tryd.func69 (by kernel_rfl) rfl #[.int .i64 a0_2] rfl zd_ ?_;(with_reducible refine (spec_l1Num.calls k1 a0_2 t466 _ A28.out).mono ?_);rintro e w32 ⟨rfl,hb⟩;refine ⟨_,rfl,?_⟩;have n_:=z (blk_below (zb BK459.out) hb)<|z1 (below_step zej_ hb);clear BK459 HB;obtain ⟨BK459,HB⟩:=n_;clear hb))
       go_ret2
       exact ⟨zf_,zej_⟩
      ·rw [if_neg c30] at H
       exact q3n_ H
     ·rw [if_neg c29] at H
      exact q3n_ H
 ·replace c3:=Bool.eq_false_iff.mpr c3
  subst c3;have H1:(some ((⟨#[]⟩:ByteArray),false))=some (r1,r2):=by rw [if_neg (show ¬ (false=true) by decide)] at H;exact H
  clear H;have H:=H1;clear H1
  simp only [Option.some.injEq,Prod.mk.injEq] at H
  obtain ⟨rfl,rfl⟩:=H
  go_enter Tryd.func27,Tryd.ntmps27
  go_wp2_with (first | ((with_reducible refine gate_dst (N:=1) rfl ?_);refine box_event ?hg (N:=1) ?hd (cs:=#[.int .i64 a0_0,.slice A0_1 l0_1.length c0_1,.int .i64 a0_2]) (t:=30) ?hr ?_;(case hd=>rfl);(case hg=>rfl);(case hr=>exact zb_);intro gb459 hg w33 hbox hb;have n_:=z (below_step za_ hb)<|z (hbox)<|z ((by rw [hg];exact (below_size za_):w.heap.size≤gb459))<|z1 ((by rw [hg];exact (below_size za_):w.heap.size≤gb459));clear HB;obtain ⟨HB,BK459,GW459,GE459⟩:=n_;clear hb hbox hg;obtain ⟨hcz34_0,hcz34_1,hcz34_2,hfz34_0,hfz34_1,hfz34_2⟩:=zk3 BK459.out)|((with_reducible refine gate_callee (f:=62) rfl ?_);refine goesL_ (some 8) rfl rfl Tryd.func62 (by kernel_rfl) rfl #[.agg #[.int .i64 a0_0,.slice A0_1 l0_1.length c0_1,.int .i64 a0_2]] rfl zd_ ?_;(with_reducible refine (spec_ddGood.calls k a0_0 _ _ l0_1 a0_2 false _ ?side1 ?side2 A2.out).mono ?_);(case side1=>exact zg_);(case side2=>exact HC0_1.out);rintro e w35 ⟨rfl,hb⟩;refine ⟨_,rfl,?_⟩;have n_:=z (blk_below (zb BK459.out) hb)<|z1 (below_step zej_ hb);clear BK459 HB;obtain ⟨BK459,HB⟩:=n_;clear hb))
  go_ret2
  exact ⟨zf_,zej_⟩
def spec_DrawTruePaths.f (k:Nat) (l0:List Int):Option (Int×(List (S70))×Int):=(spec_DrawTableOf.f k l0).bind fun bt468=>(some (bt468.1,bt468.2.1,bt468.2.2))
theorem spec_DrawTruePaths.calls (k:Nat) (A0:Option Addr) (c0:Nat) (l0:List Int) (r1:Int) (r2:List (S70)) (r3:Int) (w:World) (hr0:Kd.C (Kd.int .u8) w A0 l0.length l0) (hc0:l0.length≤c0) (h:spec_DrawTruePaths.f k l0=some (r1,r2,r3)) :
  Calls Tryd.prog 28 #[.slice A0 l0.length c0] w fun e w' => ∃ v1_:Value,e = .returned (.agg #[.int .i64 r1,v1_,.int .i64 r3])∧Kd.R k70 70 w' w.heap.size (fun _=>True) v1_ r2∧Below w.heap.size w w':=by
 have hu30:=Tryd.underlying30
 have HR0:=aM hr0
 have HC0:=aM hc0
 clear hr0 hc0
 have HB:=aM (Below.refl w.heap.size w)
 have H:((spec_DrawTableOf.f k l0).bind fun bt468=>(some (bt468.1,bt468.2.1,bt468.2.2)))=some (r1,r2,r3):=h
 clear h
 replace H:=oB.mp H
 obtain ⟨⟨t468,t469,t472⟩,A20,H⟩:=H
 replace H:(some (t468,t469,t472))=some (r1,r2,r3):=H
 have A2:=aM A20
 clear A20
 simp only [Option.some.injEq,Prod.mk.injEq] at H
 obtain ⟨rfl,rfl,rfl⟩:=H
 go_enter Tryd.func28,Tryd.ntmps28
 go_wp2_with (first | ((with_reducible refine gate_dst (N:=2) rfl ?_);refine box_event ?hg (N:=2) ?hd (cs:=#[.int .i64 0,.slice none 0 0,.int .i64 0]) (t:=30) ?hr ?_;(case hd=>rfl);(case hg=>rfl);(case hr=>exact zb_);intro gb467 hg w3 hbox hb;have n_:=z (below_step za_ hb)<|z (hbox)<|z ((by rw [hg];exact (below_size za_):w.heap.size≤gb467))<|z1 ((by rw [hg];exact (below_size za_):w.heap.size≤gb467));clear HB;obtain ⟨HB,BK467,GW467,GE467⟩:=n_;clear hb hbox hg)|((with_reducible refine gate_callee (f:=66) rfl ?_);refine goesL_ (some 4) rfl rfl Tryd.func66 (by kernel_rfl) rfl #[.slice A0 l0.length c0] rfl zd_ ?_;(with_reducible refine (spec_DrawTableOf.calls k _ _ l0 t468 t469 t472 _ ?side1 ?side2 A2.out).mono ?_);(case side1=>repeat (first | exact (Kd.C_below HR0.out HB.out)|(with_reducible refine cA ?_ _)|(with_reducible refine cN ?_ _)|(with_reducible refine cD ?_)));(case side2=>exact HC0.out);rintro e w4 ⟨v470,rfl,ho0,hb⟩;refine ⟨_,rfl,?_⟩;have n_:=z (Kd.R_lower ho0 (below_size zbcd_))<|z (blk_below (zb BK467.out) hb)<|z1 (below_step zbcd_ hb);clear BK467 HB;obtain ⟨HO471,BK467,HB⟩:=n_;clear hb;(try clear ho0);obtain ⟨hcz5_0,hcz5_1,hcz5_2,hfz5_0,hfz5_1,hfz5_2⟩:=zk3 BK467.out;obtain ⟨Ao6,co6,eo6⟩:=Kd.R_slice HO471.out;subst eo6))
 refine bodyPost_ret (results_cell_row rfl _ _ gb467 30 #[.int .i64 t468,.slice Ao6 t469.length co6,.int .i64 t472] (0,0) _ rfl (by refine zb ?_;refine blk_put (cs:=#[.int .i64 t468,.slice Ao6 t469.length co6,.int .i64 0]) ?_ 2 _ rfl;refine zb ?_;refine blk_put (cs:=#[.int .i64 t468,.slice none 0 0,.int .i64 0]) ?_ 1 _ rfl;refine zb ?_;refine blk_put (cs:=#[.int .i64 0,.slice none 0 0,.int .i64 0]) ?_ 0 _ rfl;refine zb ?_;exact BK467.out) Tryd.underlying30 rfl (by kernel_rfl)) rfl ?_
 exact ⟨_,zf_,by refine zr ?_;exact Kd.R_mono (Kd.R_far (p:=⟨gb467,2,none⟩) (Kd.R_far (p:=⟨gb467,1,none⟩) (Kd.R_far (p:=⟨gb467,0,none⟩) (Kd.R_types HO471.out BK467.out (by decide)) (fun _ hk=>hk.2) (.int .i64 t468)) (fun _ hk=>hk.2) (.slice Ao6 t469.length co6)) (fun _ hk=>hk.2) (.int .i64 t472)) (fun _ hk=>trivial),zbcd_⟩
def spec_TruePaths.l0:Nat→List Int→List (S70)→Int→Int→Int→List (S70)→Int→Option (Int×Bool)
 | 0,_,_,_,_,_,_,_=>none
 | k+1,x4,x12,x13,x14,x474000,x474001,x474002=>if x14<x13 then (if 0≤x14 then (if x14<(x12.length:Int) then (if 0≤((rd_T70 x12 x14).f1) then (if ((rd_T70 x12 x14).f1)<(x4.length:Int) then (if 0≤((rd_T70 x12 x14).f2) then (if ((rd_T70 x12 x14).f2)<(x4.length:Int) then (if x4.length<17592186044416 then (spec_TruePaths.l0 k (x4 ++ [wrap64 ((rd x4 ((rd_T70 x12 x14).f1))+(rd x4 ((rd_T70 x12 x14).f2)))]) x12 x13 (wrap64 (x14+1)) x474000 x474001 x474002) else (none)) else (none)) else (none)) else (none)) else (none)) else (none)) else (none)) else (if 0≤x474002 then (if x474002<(x4.length:Int) then (some (rd x4 x474002,true)) else (none)) else (none))
def spec_TruePaths.f (k:Nat) (a0_0:Int) (l0_1:List (S70)) (a0_2:Int):Option (Int×Bool):=(spec_ddGood.f k a0_0 l0_1 a0_2).bind fun t474=>(if t474=true then (spec_TruePaths.l0 k (([0,1]:List Int)) l0_1 (l0_1.length:Int) 0 a0_0 l0_1 a0_2) else (some (0,false)))
def spec_TruePaths.T7:Bool×List (List Nat×List Nat):=(true,[([],[]),([],[]),([],[]),([2],[2]),([1,3],[1,3]),([4],[4]),([],[]),([],[]),([7],[7]),([6,8],[6,8]),([9],[9]),([5,10],[5,10]),([11],[11]),([0,12],[0,12]),([13,13,0,1,2,3,4,5,6,7,8,9,10,11,12,13],[0,1,6,13])])
def spec_TruePaths.B7:List Nat:=[0,0,0,4,14,30,0,0,128,448,960,2046,4094,8191,16383]
theorem spec_TruePaths.tab7:rtab .any (opsOf Tryd.f29 7)=spec_TruePaths.T7:=by kernel_rfl
theorem spec_TruePaths.bits7:waitsOk spec_TruePaths.T7.2 spec_TruePaths.B7=true:=by kernel_rfl
theorem spec_TruePaths.calls (k:Nat) (a0_0:Int) (A0_1:Option Addr) (c0_1:Nat) (l0_1:List (S70)) (a0_2:Int) (r1:Int) (r2:Bool) (w:World) (hr0_1:Kd.C k70 w A0_1 l0_1.length l0_1) (hc0_1:l0_1.length≤c0_1) (h:spec_TruePaths.f k a0_0 l0_1 a0_2=some (r1,r2)) :
  Calls Tryd.prog 29 #[.agg #[.int .i64 a0_0,.slice A0_1 l0_1.length c0_1,.int .i64 a0_2]] w fun e w'=>e = .returned (.tuple #[.int .i64 r1,.bool r2])∧Below w.heap.size w w':=by
 have hu30:=Tryd.underlying30
 have hu70:=Tryd.underlying70
 have HR0_1:=aM hr0_1
 have HC0_1:=aM hc0_1
 clear hr0_1 hc0_1
 have HB:=aM (Below.refl w.heap.size w)
 have H:((spec_ddGood.f k a0_0 l0_1 a0_2).bind fun t474=>(if t474=true then (spec_TruePaths.l0 k (([0,1]:List Int)) l0_1 (l0_1.length:Int) 0 a0_0 l0_1 a0_2) else (some (0,false))))=some (r1,r2):=h
 clear h
 replace H:=oB.mp H
 obtain ⟨t474,A20,H⟩:=H
 replace H:(if t474=true then (spec_TruePaths.l0 k (([0,1]:List Int)) l0_1 (l0_1.length:Int) 0 a0_0 l0_1 a0_2) else (some (0,false)))=some (r1,r2):=H
 have A2:=aM A20
 clear A20
 by_cases c3:t474=true
 ·subst c3
  have H1:(spec_TruePaths.l0 k (([0,1]:List Int)) l0_1 (l0_1.length:Int) 0 a0_0 l0_1 a0_2)=some (r1,r2):=by rw [if_pos rfl] at H;exact H
  clear H;have H:=H1;clear H1;obtain ⟨y475,hy475⟩:∃ y_:List Int,y_=(([0,1]:List Int)):=⟨_,rfl⟩;replace H:(spec_TruePaths.l0 k y475 l0_1 (l0_1.length:Int) 0 a0_0 l0_1 a0_2)=some (r1,r2):=q3y_ hy475 H
  have Ny475:=aM hy475;clear hy475;have H':=aM H;clear H
  go_enter Tryd.func29,Tryd.ntmps29
  go_wp2_with (first | ((with_reducible refine gate_dst (N:=1) rfl ?_);refine box_event ?hg (N:=1) ?hd (cs:=#[.int .i64 a0_0,.slice A0_1 l0_1.length c0_1,.int .i64 a0_2]) (t:=30) ?hr ?_;(case hd=>rfl);(case hg=>rfl);(case hr=>exact zb_);intro gb473 hg w4 hbox hb;have n_:=z (below_step za_ hb)<|z (hbox)<|z ((by rw [hg];exact (below_size za_):w.heap.size≤gb473))<|z1 ((by rw [hg];exact (below_size za_):w.heap.size≤gb473));clear HB;obtain ⟨HB,BK473,GW473,GE473⟩:=n_;clear hb hbox hg;obtain ⟨hcz5_0,hcz5_1,hcz5_2,hfz5_0,hfz5_1,hfz5_2⟩:=zk3 BK473.out)|((with_reducible refine gate_callee (f:=62) rfl ?_);refine goesL_ (some 8) rfl rfl Tryd.func62 (by kernel_rfl) rfl #[.agg #[.int .i64 a0_0,.slice A0_1 l0_1.length c0_1,.int .i64 a0_2]] rfl zd_ ?_;(with_reducible refine (spec_ddGood.calls k a0_0 _ _ l0_1 a0_2 true _ ?side1 ?side2 A2.out).mono ?_);(case side1=>exact zg_);(case side2=>exact HC0_1.out);rintro e w6 ⟨rfl,hb⟩;refine ⟨_,rfl,?_⟩;have n_:=z (blk_below (zb BK473.out) hb)<|z1 (below_step zed_ hb);clear BK473 HB;obtain ⟨BK473,HB⟩:=n_;clear hb)|((with_reducible refine gate_dst (N:=10) rfl ?_);refine Kd.R_lit (Kd.int .i64) _ 3 ?hg (N:=10) ?hd (xs:=([0,1]:List Int)) (inner:=[.int .i64 0,.int .i64 1]) (ok:=fun _=>True) (okp:=fun _=>True) ?hr ?hp (fun _ hk=>hk) trivial (Below.refl _ _) (Nat.le_refl _) (by simp) ?_;(case hd=>rfl);(case hg=>rfl);(case hr=>exact zb_);(case hp=>exact (Reps.one (show Kd.M (Kd.int .i64) _ _ _ 0 [.int .i64 0] from rfl) (Reps.one (show Kd.M (Kd.int .i64) _ _ _ 1 [.int .i64 1] from rfl) (Reps.none _ _))));intro v476 w7 ho8 hb hg_ hnew_;clear hg_ hnew_;(first | rw [← Ny475.out] at ho8 | (simp only [Int.reduceToNat] at ho8;rw [← Ny475.out] at ho8));have n_:=z (Kd.R_lower ho8 (below_size zed_))<|z (blk_below (zb BK473.out) hb)<|z1 (below_step zed_ hb);clear BK473 HB;obtain ⟨HO477,BK473,HB⟩:=n_;clear hb ho8;obtain ⟨hcz9_0,hcz9_1,hcz9_2,hfz9_0,hfz9_1,hfz9_2⟩:=zk3 BK473.out))
  go_loopg [4,14] k (fun kq v4 v14 w' => ∃ (x4_1:List Int) (x14_1:Int),v14 = .int .i64 x14_1∧Aside0 (spec_TruePaths.l0 kq x4_1 l0_1 (l0_1.length:Int) x14_1 a0_0 l0_1 a0_2=some (r1,r2))∧Aside0 (kq≤k)∧Aside0 (Kd.R (Kd.int .i64) 3 w' w.heap.size (fun _=>True) v4 x4_1)∧Aside0 (w'.heap[gb473]?=some (.cells #[.int .i64 a0_0,(.slice A0_1 l0_1.length c0_1),.int .i64 a0_2] 30 (0,0)))∧Aside0 (Below w.heap.size w w'))
  case atStart=>exact ⟨(y475),(0),ze_,H',⟨Nat.le_refl _⟩,⟨zr HO477.out⟩,⟨zb BK473.out⟩,⟨zed_⟩⟩
  case round =>
   clear H';(try clear hcz5_0);(try clear hcz5_1);(try clear hcz5_2);(try clear hcz9_0);(try clear hcz9_1);(try clear hcz9_2);(try clear hfz5_0);(try clear hfz5_1);(try clear hfz5_2);(try clear hfz9_0);(try clear hfz9_1);(try clear hfz9_2);obtain ⟨x4_1,x14_1,rfl,HA,HK1,HO_4,BK473,HB⟩:=hrel
   cases gk with
   | zero=>exact absurd HA.out (by simp [spec_TruePaths.l0])
   | succ k1 =>
    have H:=HA.out;clear HA
    simp only [spec_TruePaths.l0] at H
    by_cases c10:x14_1<(l0_1.length:Int)
    ·rw [if_pos c10] at H
     have c10b0:=decide_eq_true c10;clear c10
     by_cases c11:0≤x14_1
     ·rw [if_pos c11] at H
      have c11b0:=decide_eq_true c11;clear c11
      by_cases c12:x14_1<(l0_1.length:Int)
      ·rw [if_pos c12] at H
       have c12b0:=decide_eq_true c12;clear c12
       by_cases c13:0≤((rd_T70 l0_1 x14_1).f1)
       ·rw [if_pos c13] at H
        have c13b0:=decide_eq_true c13;clear c13
        by_cases c14:((rd_T70 l0_1 x14_1).f1)<(x4_1.length:Int)
        ·rw [if_pos c14] at H
         have c14b0:=decide_eq_true c14;clear c14
         by_cases c15:0≤((rd_T70 l0_1 x14_1).f2)
         ·rw [if_pos c15] at H
          have c15b0:=decide_eq_true c15;clear c15
          by_cases c16:((rd_T70 l0_1 x14_1).f2)<(x4_1.length:Int)
          ·rw [if_pos c16] at H
           have c16b0:=decide_eq_true c16;clear c16
           by_cases c17:x4_1.length<17592186044416
           ·rw [if_pos c17] at H
            have LMc17:=aM c17;clear c17;obtain ⟨y482,hy482⟩:∃ y_:List Int,y_=(x4_1 ++ [wrap64 ((rd x4_1 ((rd_T70 l0_1 x14_1).f1))+(rd x4_1 ((rd_T70 l0_1 x14_1).f2)))]):=⟨_,rfl⟩;replace H:(spec_TruePaths.l0 k1 y482 l0_1 (l0_1.length:Int) (wrap64 (x14_1+1)) a0_0 l0_1 a0_2)=some (r1,r2):=q3y_ hy482 H
            have Ny482:=aM hy482;clear hy482;have H':=aM H;clear H;have p478:0≤(x14_1:Int):=of_decide_eq_true zc_;have q478:x14_1<(l0_1.length:Int):=of_decide_eq_true zc_;obtain ⟨ad478,e478,hx478_0,hx478_1,hx478_2⟩:=at_T70 HR0_1.out x14_1 p478 q478
            cases e478
            (try (replace hx478_0:=q3h_ HB.out hx478_0));(try (replace hx478_1:=q3h_ HB.out hx478_1));(try (replace hx478_2:=q3h_ HB.out hx478_2));replace p478:=eq_true p478;replace q478:=eq_true q478;(try go_wp2_with (first | ((with_reducible refine gate_dst (N:=6) rfl ?_);refine box_event ?hg (N:=6) ?hd (cs:=#[.int .i64 0,.int .i64 0,.int .i64 0]) (t:=70) ?hr ?_;(case hd=>rfl);(case hg=>rfl);(case hr=>exact zb_);intro gb479 hg w18 hbox hb;have n_:=z (Kd.R_below (zr HO_4.out) hb)<|z (blk_below (zb BK473.out) hb)<|z (below_step zed_ hb)<|z (hbox)<|z ((by rw [hg];exact (below_size zed_):w.heap.size≤gb479))<|z ((by rw [hg];exact (below_size zed_):w.heap.size≤gb479))<|z ((by rw [hg];exact Nat.ne_of_lt (blk_lt (zb BK473.out)):gb473≠gb479))<|z1 ((by rw [hg];exact Nat.ne_of_gt (blk_lt (zb BK473.out)):gb479≠gb473));clear HO_4 BK473 HB;obtain ⟨HO_4,BK473,HB,BK479,GW479,GE479,NB473_479,NB479_473⟩:=n_;clear hb hbox hg;have hnb19:=NB479_473.out;have hnc19:=NB473_479.out;obtain ⟨hcz20_0,hcz20_1,hcz20_2,hfz20_0,hfz20_1,hfz20_2⟩:=zk3 BK479.out)));have n0_:Aside0 (Kd.R (Kd.int .i64) 3 (((w18.setCell ⟨gb479,0,none⟩ (.int .i64 ((rd_T70 l0_1 x14_1).f0))).setCell ⟨gb479,1,none⟩ (.int .i64 ((rd_T70 l0_1 x14_1).f1))).setCell ⟨gb479,2,none⟩ (.int .i64 ((rd_T70 l0_1 x14_1).f2))) w.heap.size (fun _=>True) u4 x4_1):=⟨by refine zr ?_;exact Kd.R_mono (Kd.R_far (p:=⟨gb479,2,none⟩) (Kd.R_far (p:=⟨gb479,1,none⟩) (Kd.R_far (p:=⟨gb479,0,none⟩) (Kd.R_types HO_4.out BK479.out (by decide)) (fun _ hk=>hk.2) (.int .i64 ((rd_T70 l0_1 x14_1).f0))) (fun _ hk=>hk.2) (.int .i64 ((rd_T70 l0_1 x14_1).f1))) (fun _ hk=>hk.2) (.int .i64 ((rd_T70 l0_1 x14_1).f2))) (fun _ hk=>trivial)⟩;have n1_:Aside0 ((((w18.setCell ⟨gb479,0,none⟩ (.int .i64 ((rd_T70 l0_1 x14_1).f0))).setCell ⟨gb479,1,none⟩ (.int .i64 ((rd_T70 l0_1 x14_1).f1))).setCell ⟨gb479,2,none⟩ (.int .i64 ((rd_T70 l0_1 x14_1).f2))).heap[gb473]?=some (.cells #[.int .i64 a0_0,.slice (some ad478) l0_1.length c0_1,.int .i64 a0_2] 30 (0,0))):=⟨by refine zb ?_;refine blk_far ?_ NB473_479.out _;refine zb ?_;refine blk_far ?_ NB473_479.out _;refine zb ?_;refine blk_far ?_ NB473_479.out _;refine zb ?_;exact BK473.out⟩;have n2_:Aside0 ((((w18.setCell ⟨gb479,0,none⟩ (.int .i64 ((rd_T70 l0_1 x14_1).f0))).setCell ⟨gb479,1,none⟩ (.int .i64 ((rd_T70 l0_1 x14_1).f1))).setCell ⟨gb479,2,none⟩ (.int .i64 ((rd_T70 l0_1 x14_1).f2))).heap[gb479]?=some (.cells #[.int .i64 ((rd_T70 l0_1 x14_1).f0),.int .i64 ((rd_T70 l0_1 x14_1).f1),.int .i64 ((rd_T70 l0_1 x14_1).f2)] 70 (0,0))):=⟨by refine zb ?_;refine blk_put (cs:=#[.int .i64 ((rd_T70 l0_1 x14_1).f0),.int .i64 ((rd_T70 l0_1 x14_1).f1),.int .i64 0]) ?_ 2 _ rfl;refine zb ?_;refine blk_put (cs:=#[.int .i64 ((rd_T70 l0_1 x14_1).f0),.int .i64 0,.int .i64 0]) ?_ 1 _ rfl;refine zb ?_;refine blk_put (cs:=#[.int .i64 0,.int .i64 0,.int .i64 0]) ?_ 0 _ rfl;refine zb ?_;exact BK479.out⟩;have n3_:Aside0 (Below w.heap.size w (((w18.setCell ⟨gb479,0,none⟩ (.int .i64 ((rd_T70 l0_1 x14_1).f0))).setCell ⟨gb479,1,none⟩ (.int .i64 ((rd_T70 l0_1 x14_1).f1))).setCell ⟨gb479,2,none⟩ (.int .i64 ((rd_T70 l0_1 x14_1).f2)))):=⟨zbab_⟩;(try clear HO_4);(try clear BK473);(try clear BK479);(try clear HB);generalize (((w18.setCell ⟨gb479,0,none⟩ (.int .i64 ((rd_T70 l0_1 x14_1).f0))).setCell ⟨gb479,1,none⟩ (.int .i64 ((rd_T70 l0_1 x14_1).f1))).setCell ⟨gb479,2,none⟩ (.int .i64 ((rd_T70 l0_1 x14_1).f2)))=w21 at n0_ n1_ n2_ n3_ ⊢;have HO_4:=n0_;have BK473:=n1_;have BK479:=n2_;have HB:=n3_;clear n0_ n1_ n2_ n3_;have n_:=z (kD HO_4.out)<|z (blk_drew BK473.out)<|z (blk_drew BK479.out)<|z1 (p1 HB.out)
            clear HO_4 BK473 BK479 HB;obtain ⟨HO_4,BK473,BK479,HB⟩:=n_;obtain ⟨Ao23,co23,eo23⟩:=Kd.R_slice HO_4.out;(first | subst eo23 | (injection eo23 with f1_ f2_ f3_;have f4_:=f1_.symm;have f5_:=f3_.symm;clear f1_ f2_ f3_;subst f4_;subst f5_));have p480:0≤(((rd_T70 l0_1 x14_1).f1):Int):=of_decide_eq_true zc_;have q480:((rd_T70 l0_1 x14_1).f1)<(x4_1.length:Int):=of_decide_eq_true zc_;obtain ⟨ad480,e480,hx480_0⟩:=Kd.at_int (Kd.R_reads' HO_4.out).2.2 ((rd_T70 l0_1 x14_1).f1) p480 q480
            cases e480
            replace p480:=eq_true p480;replace q480:=eq_true q480;have p481:0≤(((rd_T70 l0_1 x14_1).f2):Int):=of_decide_eq_true zc_;have q481:((rd_T70 l0_1 x14_1).f2)<(x4_1.length:Int):=of_decide_eq_true zc_;obtain ⟨ad481,e481,hx481_0⟩:=Kd.at_int (Kd.R_reads' HO_4.out).2.2 ((rd_T70 l0_1 x14_1).f2) p481 q481;obtain rfl:ad480=ad481:=(by injection e481);replace p481:=eq_true p481;replace q481:=eq_true q481
            refine start_ (n:=15) (S:=fun w'=>w'.cell? ⟨gb479,0,none⟩=some (.int .i64 ((rd_T70 l0_1 x14_1).f0))∧w'.cell? ⟨gb479,1,none⟩=some (.int .i64 ((rd_T70 l0_1 x14_1).f1))∧w'.cell? ⟨gb479,2,none⟩=some (.int .i64 ((rd_T70 l0_1 x14_1).f2))∧w'.cell? (ad480.add (((rd_T70 l0_1 x14_1).f1)).toNat)=some (.int .i64 (rd x4_1 ((rd_T70 l0_1 x14_1).f1)))∧w'.cell? (ad480.add (((rd_T70 l0_1 x14_1).f2)).toNat)=some (.int .i64 (rd x4_1 ((rd_T70 l0_1 x14_1).f2)))) (ds:=[12,13]) #[fi,fi,fi,fi,fi,fi,fi,fi,fi,fi,fi,fi,fi,fi,fi] (by kernel_rfl) rfl rfl ⟨(blk_cell BK479.out 0).trans rfl,(blk_cell BK479.out 1).trans rfl,(blk_cell BK479.out 2).trans rfl,hx480_0,hx481_0⟩ (fun hHeld=>?_);refine with_tabW spec_TruePaths.tab7 spec_TruePaths.bits7 (fun HT_ HW_=>?_)
            generalize w21.drew=w22 at HO_4 BK473 BK479 HB hx480_0 hx481_0 hHeld ⊢;refine py_ 0 18 HT_.out ?_;refine py_ 1 19 HT_.out ?_;refine py_ 2 20 HT_.out ?_;refine py_ 6 24 HT_.out ?_;refine py_ 7 25 HT_.out ?_
            refine tw5_ 3 21 HT_.out HW_.out hHeld ?_
            refine py_ 4 22 HT_.out ?_
            refine tw5_ 5 23 HT_.out HW_.out hHeld ?_
            refine tw5_ 8 26 HT_.out HW_.out hHeld ?_
            refine py_ 9 27 HT_.out ?_
            refine tw5_ 10 28 HT_.out HW_.out hHeld ?_
            refine py_ 11 29 HT_.out ?_
            refine last_ (i:=12) (N:=some 30) #[ti,ti,ti,ti,ti,ti,ti,ti,ti,ti,ti,ti,ti,fi,fi] rfl rfl (one_of HT_.out (by kernel_rfl)) (by decide) (fun K hK=>?_)
            refine value_ (w1:=?_) (v:=?_) (by rfl) rfl ?_ ?_
            rotate_left 2
            ·go_simp
             constructor
             ·rfl
             ·rfl
            refine hK.out _ _ ?_
            clear hK K
            refine nz_ 30 ?_
            refine last_ (i:=13) (N:=some 31) #[ti,ti,ti,ti,ti,ti,ti,ti,ti,ti,ti,ti,ti,ti,fi] rfl rfl (one_of HT_.out (by kernel_rfl)) (by decide) (fun K hK=>?_)
            refine Kd.R_append_step (Kd.int .i64) (w0:=w) w.heap.size (by rfl) (.tmp 18) (.tmp 30) 24 3 (.int .i64 0) 8 rfl Tryd.underlying24 info3 rfl (by decide) (by omega) (.slice (some ad480) x4_1.length co23) x4_1 (wrap64 ((rd x4_1 ((rd_T70 l0_1 x14_1).f1))+(rd x4_1 ((rd_T70 l0_1 x14_1).f2)))) [.int .i64 (wrap64 ((rd x4_1 ((rd_T70 l0_1 x14_1).f1))+(rd x4_1 ((rd_T70 l0_1 x14_1).f2))))] (fun _=>True) (fun _=>False) rfl rfl ?aP (fun _ hk=>hk.elim) ?aF ?aO ?aB ?aS ?aL ?_
            (case aP=>exact rfl)
            (case aB=>exact zbab_)
            (case aF=>exact zdf_)
            (case aO=>exact (zr HO_4.out))
            (case aS=>exact (below_size zbab_))
            (case aL=>have:=LMc17.out;omega)
            intro v483 w24 ho hb hg hat
            rw [← Ny482.out] at ho;have n_:=z (blk_grown (g:=gb473) (o := .cells #[.int .i64 a0_0,.slice (some ad478) l0_1.length c0_1,.int .i64 a0_2] 30 (0,0)) (zb BK473.out) hg (Kd.R_ne HO_4.out BK473.out (by decide)))<|z (blk_grown (g:=gb479) (o := .cells #[.int .i64 ((rd_T70 l0_1 x14_1).f0),.int .i64 ((rd_T70 l0_1 x14_1).f1),.int .i64 ((rd_T70 l0_1 x14_1).f2)] 70 (0,0)) (zb BK479.out) hg (Kd.R_ne HO_4.out BK479.out (by decide)))<|z (hb)<|z1 (ho)
            clear BK473 BK479 HB HO_4;obtain ⟨BK473,BK479,HB,HO484⟩:=n_;clear ho hb hg hat
            refine hK.out _ _ ?_
            clear hK K
            refine nz_ 31 ?_
            refine py_ 14 4 HT_.out ?_
            refine done_ (done_of HT_.out (by kernel_rfl)) ?_
            (try go_wp2)
            go_roundg k1
            case measure=>have:=HK1.out;omega
            case rel=>exact ⟨(y482),(wrap64 (x14_1+1)),ze_,H',⟨zbd_⟩,⟨zr HO484.out⟩,⟨zb BK473.out⟩,⟨zbab_⟩⟩
           ·rw [if_neg c17] at H
            exact q3n_ H
          ·rw [if_neg c16] at H
           exact q3n_ H
         ·rw [if_neg c15] at H
          exact q3n_ H
        ·rw [if_neg c14] at H
         exact q3n_ H
       ·rw [if_neg c13] at H
        exact q3n_ H
      ·rw [if_neg c12] at H
       exact q3n_ H
     ·rw [if_neg c11] at H
      exact q3n_ H
    ·rw [if_neg c10] at H
     have c10b0:=decide_eq_false c10;clear c10
     by_cases c25:0≤a0_2
     ·rw [if_pos c25] at H
      have c25b0:=decide_eq_true c25;clear c25
      by_cases c26:a0_2<(x4_1.length:Int)
      ·rw [if_pos c26] at H
       have c26b0:=decide_eq_true c26;clear c26
       simp only [Option.some.injEq,Prod.mk.injEq] at H
       obtain ⟨rfl,rfl⟩:=H;obtain ⟨hcz27_0,hcz27_1,hcz27_2,hfz27_0,hfz27_1,hfz27_2⟩:=zk3 BK473.out;obtain ⟨Ao28,co28,eo28⟩:=Kd.R_slice HO_4.out;subst eo28;have p485:0≤(a0_2:Int):=of_decide_eq_true zc_;have q485:a0_2<(x4_1.length:Int):=of_decide_eq_true zc_;obtain ⟨ad485,e485,hx485_0⟩:=Kd.at_int (Kd.R_reads' HO_4.out).2.2 a0_2 p485 q485
       cases e485
       replace p485:=eq_true p485;replace q485:=eq_true q485
       go_wp2
       go_ret2
       exact ⟨zf_,zed_⟩
      ·rw [if_neg c26] at H
       exact q3n_ H
     ·rw [if_neg c25] at H
      exact q3n_ H
 ·replace c3:=Bool.eq_false_iff.mpr c3
  subst c3;have H1:(some (0,false))=some (r1,r2):=by rw [if_neg (show ¬ (false=true) by decide)] at H;exact H
  clear H;have H:=H1;clear H1
  simp only [Option.some.injEq,Prod.mk.injEq] at H
  obtain ⟨rfl,rfl⟩:=H
  go_enter Tryd.func29,Tryd.ntmps29
  go_wp2_with (first | ((with_reducible refine gate_dst (N:=1) rfl ?_);refine box_event ?hg (N:=1) ?hd (cs:=#[.int .i64 a0_0,.slice A0_1 l0_1.length c0_1,.int .i64 a0_2]) (t:=30) ?hr ?_;(case hd=>rfl);(case hg=>rfl);(case hr=>exact zb_);intro gb473 hg w29 hbox hb;have n_:=z (below_step za_ hb)<|z (hbox)<|z ((by rw [hg];exact (below_size za_):w.heap.size≤gb473))<|z1 ((by rw [hg];exact (below_size za_):w.heap.size≤gb473));clear HB;obtain ⟨HB,BK473,GW473,GE473⟩:=n_;clear hb hbox hg;obtain ⟨hcz30_0,hcz30_1,hcz30_2,hfz30_0,hfz30_1,hfz30_2⟩:=zk3 BK473.out)|((with_reducible refine gate_callee (f:=62) rfl ?_);refine goesL_ (some 8) rfl rfl Tryd.func62 (by kernel_rfl) rfl #[.agg #[.int .i64 a0_0,.slice A0_1 l0_1.length c0_1,.int .i64 a0_2]] rfl zd_ ?_;(with_reducible refine (spec_ddGood.calls k a0_0 _ _ l0_1 a0_2 false _ ?side1 ?side2 A2.out).mono ?_);(case side1=>exact zg_);(case side2=>exact HC0_1.out);rintro e w31 ⟨rfl,hb⟩;refine ⟨_,rfl,?_⟩;have n_:=z (blk_below (zb BK473.out) hb)<|z1 (below_step zed_ hb);clear BK473 HB;obtain ⟨BK473,HB⟩:=n_;clear hb))
  go_ret2
  exact ⟨zf_,zed_⟩
end Go.Proofs.YtlnhpkjioppbiaaDoor.QFnDiagrams
