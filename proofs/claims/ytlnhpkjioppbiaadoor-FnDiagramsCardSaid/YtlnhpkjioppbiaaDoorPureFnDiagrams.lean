/- The pure part of the law FnDiagrams: what the program and the reference compute is the same, for all arguments. Conditions: the numbers are of Go's int, the lengths of slices are. -/
import Derived.Test.YtlnhpkjioppbiaaDoorSFnDiagramsx19
import Derived.Test.YtlnhpkjioppbiaaDoorVDiKit
set_option linter.unusedVariables false
set_option linter.unusedSimpArgs false
namespace Go.Proofs.YtlnhpkjioppbiaaDoor.Pure
open Go.RowKit Go.Proofs.YtlnhpkjioppbiaaDoor.QFnDiagrams Go.Proofs.YtlnhpkjioppbiaaDoorW.PrintWords Go.Proofs.YtlnhpkjioppbiaaDoorW.PrintLast Go.Proofs.YtlnhpkjioppbiaaDoor.Open Go.Proofs.YtlnhpkjioppbiaaDoor.Kit
def ndVisit (ns:List S70):Nat→Int→List Int→List Int
 | 0,_,out=>out
 | F+1,r,out=>if r<2∨r - 2∈out then out else ndVisit ns F (ns.getD (r - 2).toNat z70).f2 (ndVisit ns F (ns.getD (r - 2).toNat z70).f1 out) ++ [r - 2]
def ndVal (ns:List S70) (idx:Nat):Nat→Int→Int
 | 0,r=>r
 | F+1,r=>if r<2 then r else ndVal ns idx F (if (idx >>> (ns.getD (r - 2).toNat z70).f0.toNat) % 2=1 then (ns.getD (r - 2).toNat z70).f2 else (ns.getD (r - 2).toNat z70).f1)
def ndIota (n:Nat):List Int:=(List.range n).map (fun (i:Nat)=>(i:Int))
theorem zz3 (n:Nat):(ndIota n).length=n:=by simp [ndIota]
theorem ndIota_mem {n:Nat} {x:Int}:x∈ndIota n↔0≤x∧x<(n:Int):=by
 unfold ndIota;constructor
 ·intro h
  obtain ⟨i,hi,rfl⟩:=List.mem_map.1 h
  have:=List.mem_range.1 hi
  omega
 ·intro ⟨h0,h1⟩
  exact List.mem_map.2 ⟨x.toNat,List.mem_range.2 (by omega),by omega⟩
theorem zz5 (n:Nat):ndIota (n+1)=ndIota n ++ [(n:Int)]:=by
 unfold ndIota;rw [List.range_succ,List.map_append,List.map_singleton]
theorem zz6 {m:Nat}:∀ {n:Nat} {l:List Int},l <+: ndIota n→l.length=m→l=ndIota m:=by
 intro n l h hl;have h1:=List.prefix_iff_eq_take.1 h
 have h2:m≤n:=by
  have:=h.length_le
  rw [zz3] at this;omega
 rw [hl] at h1;rw [h1];unfold ndIota;rw [← List.map_take,List.take_range,Nat.min_eq_left h2]
structure NdB (n:Nat) (ns:List S70):Prop where
 inp:∀ i,i<ns.length→0≤(ns.getD i z70).f0∧(ns.getD i z70).f0<(n:Int)
 low:∀ i,i<ns.length→0≤(ns.getD i z70).f1∧(ns.getD i z70).f1<2+(i:Int)
 high:∀ i,i<ns.length→0≤(ns.getD i z70).f2∧(ns.getD i z70).f2<2+(i:Int)
def ndRef (ns:List S70) (i:Nat) (inp r:Int):Prop:=0≤r∧r<2+(i:Int)∧(2≤r→inp<(ns.getD (r - 2).toNat z70).f0)
structure NdOk (n:Nat) (ns:List S70):Prop where
 inp:∀ i,i<ns.length→0≤(ns.getD i z70).f0∧(ns.getD i z70).f0<(n:Int)
 ne:∀ i,i<ns.length→(ns.getD i z70).f1≠(ns.getD i z70).f2
 low:∀ i,i<ns.length→ndRef ns i (ns.getD i z70).f0 (ns.getD i z70).f1
 high:∀ i,i<ns.length→ndRef ns i (ns.getD i z70).f0 (ns.getD i z70).f2
 one:∀ i j,i<j→j<ns.length→ns.getD i z70≠ns.getD j z70
theorem NdOk.b {n:Nat} {ns:List S70} (h:NdOk n ns):NdB n ns:=⟨h.inp,fun i hi=>⟨(h.low i hi).1,(h.low i hi).2.1⟩,fun i hi=>⟨(h.high i hi).1,(h.high i hi).2.1⟩⟩
theorem zz8 (ns:List S70):∀ (F:Nat) (r:Int) (out:List Int),out <+: ndVisit ns F r out:=by
 intro F;induction F with
 | zero=>intro r out;exact List.prefix_refl _
 | succ F ih =>
  intro r out;rw [ndVisit];split
  ·exact List.prefix_refl _
  ·exact ((ih _ _).trans (ih _ _)).trans (List.prefix_append _ _)
theorem zz9 (ns:List S70) (F:Nat) (r:Int) (m:Nat) (h:r<2+(m:Int)):ndVisit ns F r (ndIota m)=ndIota m:=by
 cases F with
 | zero=>rfl
 | succ F =>
  rw [ndVisit];by_cases h2:r<2
  ·rw [if_pos (Or.inl h2)]
  ·rw [if_pos (Or.inr (ndIota_mem.2 (by omega)))]
theorem ndAt_get (x:S70):∀ (ns:List S70),ndAt x ns<ns.length→ns.getD (ndAt x ns) z70=x:=by
 intro ns;induction ns with
 | nil=>intro h;simp at h
 | cons y r ih =>
  intro h;rw [ndAt] at h ⊢
  split
  ·rename_i e;simpa using e
  ·rename_i e
   rw [if_neg e] at h;simpa using ih (by simpa using h)
theorem ndAt_lt (x:S70):∀ (ns:List S70) (i:Nat),i<ns.length→ns.getD i z70=x→ndAt x ns≤i:=by
 intro ns;induction ns with
 | nil=>intro i h;simp at h
 | cons y r ih =>
  intro i h e;rw [ndAt];cases i with
  | zero=>rw [if_pos (by simpa using e)];exact Nat.le_refl _
  | succ i =>
   split
   ·omega
   ·have:=ih i (by simpa using h) (by simpa using e)
    omega
theorem zz12 (ns:List S70) (m i:Nat) (h:i<m):(ns.take m).getD i z70=ns.getD i z70:=by
 rw [List.getD_eq_getElem?_getD,List.getD_eq_getElem?_getD,List.getElem?_take_of_lt h]
theorem zz13 {ns ms:List S70} (h:ns <+: ms) (i:Nat) (hi:i<ns.length):ms.getD i z70=ns.getD i z70:=by
 obtain ⟨t,rfl⟩:=h
 rw [List.getD_eq_getElem?_getD,List.getD_eq_getElem?_getD,List.getElem?_append_left hi]
theorem zz14 {n:Nat} {ns:List S70} (h:NdOk n ns) {m i:Nat} (hm:m≤ns.length) (hi:i<m):ndAt (ns.getD i z70) (ns.take m)=i:=by
 have hl:(ns.take m).length=m:=by rw [List.length_take];omega
 have h1:=ndAt_lt (ns.getD i z70) (ns.take m) i (by omega) (zz12 ns m i hi)
 have h2:=ndAt_get (ns.getD i z70) (ns.take m) (by omega)
 rw [zz12 ns m _ (by omega)] at h2
 by_cases e:ndAt (ns.getD i z70) (ns.take m)=i
 ·exact e
 ·exact absurd h2 (h.one _ _ (by omega) (by omega))
theorem ndAt_not {n:Nat} {ns:List S70} (h:NdOk n ns) {m i:Nat} (hi:i<ns.length) (hm:m≤i):¬ ndAt (ns.getD i z70) (ns.take m)<(ns.take m).length:=by
 intro hlt;have h2:=ndAt_get (ns.getD i z70) (ns.take m) hlt
 have hl:(ns.take m).length=m:=by rw [List.length_take];omega
 rw [zz12 ns m _ (by omega)] at h2
 exact h.one _ _ (by omega) hi h2
theorem zz16 (ns:List S70) (m:Nat) (h:m<ns.length):ns.take m ++ [ns.getD m z70]=ns.take (m+1):=by
 rw [List.take_succ_eq_append_getElem h,List.getD_eq_getElem?_getD,List.getElem?_eq_getElem h];rfl
theorem zz17 {n:Nat} {ns:List S70} (h:NdB n ns) (idx:Nat):∀ (F G:Nat) (r:Int),r<2+(ns.length:Int)→r<(F:Int)+2→r<(G:Int)+2→ndVal ns idx F r=ndVal ns idx G r:=by
 intro F;induction F with
 | zero =>
  intro G r _ hF _;cases G with
  | zero=>rfl
  | succ G=>rw [ndVal,ndVal,if_pos (by omega)]
 | succ F ih =>
  intro G r hr hF hG;by_cases h2:r<2
  ·cases G with
   | zero=>simp [ndVal,h2]
   | succ G=>simp [ndVal,h2]
  ·cases G with
   | zero=>omega
   | succ G =>
    rw [ndVal,if_neg h2,ndVal,if_neg h2];have h3:=h.low (r - 2).toNat (by omega)
    have h4:=h.high (r - 2).toNat (by omega)
    have h5:=h3.2
    have h6:=h4.2
    refine ih G _ ?_ ?_ ?_ <;> split <;> omega
theorem zz18 {n:Nat} {ns:List S70} (h:NdB n ns) (idx:Nat):∀ (F:Nat) (r:Int),0≤r→r<2+(ns.length:Int)→r<(F:Int)+2→0≤ndVal ns idx F r∧ndVal ns idx F r≤1:=by
 intro F;induction F with
 | zero=>intro r h0 _ h1;rw [ndVal];omega
 | succ F ih =>
  intro r h0 hr hF;rw [ndVal];by_cases h2:r<2
  ·rw [if_pos h2];omega
  ·rw [if_neg h2]
   have h3:=h.low (r - 2).toNat (by omega)
   have h4:=h.high (r - 2).toNat (by omega)
   have h5:=h3.2
   have h6:=h4.2
   have h7:=h3.1
   have h8:=h4.1
   refine ih _ ?_ ?_ ?_ <;> split <;> omega
theorem nd_bit0 {n d idx:Nat} (hd:d+1≤n) (hi:idx<2 ^ (n - (d+1))) (j:Nat):((idx+2 ^ (n - d) * j) >>> (n - (d+1))) % 2=0:=by
 rw [Nat.shiftRight_eq_div_pow,show n - d=n - (d+1)+1 by omega,Nat.pow_succ,Nat.mul_assoc,Nat.add_comm,Nat.mul_add_div (Nat.two_pow_pos _),Nat.div_eq_of_lt hi]
 omega
theorem nd_bit1 {n d idx:Nat} (hd:d+1≤n) (hi:idx<2 ^ (n - (d+1))) (j:Nat):((idx+2 ^ (n - (d+1))+2 ^ (n - d) * j) >>> (n - (d+1))) % 2=1:=by
 rw [Nat.shiftRight_eq_div_pow,show n - d=n - (d+1)+1 by omega,Nat.pow_succ,Nat.mul_assoc,show idx+2 ^ (n - (d+1))+2 ^ (n - (d+1)) * (2 * j)=2 ^ (n - (d+1)) * (2 * j+1)+idx by rw [Nat.mul_add];omega,Nat.mul_add_div (Nat.two_pow_pos _),Nat.div_eq_of_lt hi]
 omega
theorem nd_pow {n d:Nat} (hd:d+1≤n):2 ^ (n - d)=2 ^ (n - (d+1))+2 ^ (n - (d+1)):=by
 rw [show n - d=n - (d+1)+1 by omega,Nat.pow_succ]
 omega
theorem zz22 {n:Nat} {ns:List S70} (h:NdB n ns):∀ (F G:Nat) (r:Int) (out:List Int),r<2+(ns.length:Int)→r<(F:Int)+2→r<(G:Int)+2→ndVisit ns F r out=ndVisit ns G r out:=by
 intro F;induction F with
 | zero =>
  intro G r out _ hF _;cases G with
  | zero=>rfl
  | succ G=>rw [ndVisit,ndVisit,if_pos (Or.inl (by omega))]
 | succ F ih =>
  intro G r out hr hF hG;by_cases h2:r<2
  ·cases G with
   | zero=>simp [ndVisit,h2]
   | succ G=>simp [ndVisit,h2]
  ·cases G with
   | zero=>omega
   | succ G =>
    rw [ndVisit,ndVisit];split
    ·rfl
    ·have h3:=(h.low (r - 2).toNat (by omega)).2
     have h4:=(h.high (r - 2).toNat (by omega)).2
     rw [ih G _ out (by omega) (by omega) (by omega),ih G _ _ (by omega) (by omega) (by omega)]
theorem zz23 {n:Nat} {ns:List S70} (h:NdB n ns) {F:Nat} (hF:ns.length≤F) {q:Nat} (hq:q<ns.length) (out:List Int) (ho:(q:Int)∉out) :
  ndVisit ns F (2+(q:Int)) out=ndVisit ns F (ns.getD q z70).f2 (ndVisit ns F (ns.getD q z70).f1 out) ++ [(q:Int)]:=by
 obtain ⟨F,rfl⟩:∃ G,F=G+1:=⟨F - 1,by omega⟩
 have h3:=(h.low q hq).2
 have h4:=(h.high q hq).2
 rw [zz22 h (F+1) F (ns.getD q z70).f1 _ (by omega) (by omega) (by omega),zz22 h (F+1) F (ns.getD q z70).f2 _ (by omega) (by omega) (by omega)]
 have e:2+(q:Int) - 2=(q:Int):=by omega
 rw [ndVisit,e,Int.toNat_natCast,if_neg (fun hh=>hh.elim (fun hh=>by omega) ho)]
theorem zz24 {n:Nat} {ns:List S70} (h:NdB n ns) {F:Nat} (hF:ns.length≤F) {q:Nat} (hq:q<ns.length) (idx:Nat) :
  ndVal ns idx F (2+(q:Int))=ndVal ns idx F (if (idx >>> (ns.getD q z70).f0.toNat) % 2=1 then (ns.getD q z70).f2 else (ns.getD q z70).f1):=by
 obtain ⟨F,rfl⟩:∃ G,F=G+1:=⟨F - 1,by omega⟩
 have h3:=(h.low q hq).2
 have h4:=(h.high q hq).2
 have e:2+(q:Int) - 2=(q:Int):=by omega
 rw [zz17 h idx (F+1) F (if (idx >>> (ns.getD q z70).f0.toNat) % 2=1 then (ns.getD q z70).f2 else (ns.getD q z70).f1) (by split <;> omega) (by split <;> omega) (by split <;> omega),ndVal,e,Int.toNat_natCast,if_neg (by omega)]
theorem zz25 {n:Nat} {ns:List S70} (h:NdOk n ns) (vs:List Int) (F:Nat) (hF:ns.length≤F):∀ (d:Nat) (idx:Nat) (r:Int) (m m':Nat),d≤n→idx<2 ^ (n - d)→0≤r→r<2+(ns.length:Int)→(2≤r→((n - d:Nat):Int)≤(ns.getD (r - 2).toNat z70).f0)→m≤ns.length→m'≤ns.length →
  ndVisit ns F r (ndIota m)=ndIota m'→(∀ j,j<2 ^ d→rd vs ((idx+2 ^ (n - d) * j:Nat):Int)=ndVal ns (idx+2 ^ (n - d) * j) F r)→ndBuild vs n d idx (ns.take m)=(ns.take m',r):=by
 intro d;induction d with
 | zero =>
  intro idx r m m' _ hidx h0 hr hin hm hm' hv hvs
  have hr2:r<2:=by
   by_cases h2:r<2
   ·exact h2
   ·have:=hin (by omega)
    have:=(h.inp (r - 2).toNat (by omega)).2
    omega
  rw [zz9 _ _ _ _ (by omega)] at hv
  have e2:m=m':=by rw [← zz3 m,hv,zz3]
  subst e2;rw [ndBuild];have e3:=hvs 0 (by simp)
  rw [Nat.mul_zero,Nat.add_zero] at e3;rw [e3];cases F with
  | zero=>rfl
  | succ F=>rw [ndVal,if_pos hr2]
 | succ d ih =>
  intro idx r m m' hd hidx h0 hr hin hm hm' hv hvs
  have hpw:=nd_pow hd
  have hx1:idx<2 ^ (n - d):=by omega
  have hx2:idx+2 ^ (n - (d+1))<2 ^ (n - d):=by omega
  have hpd:2 ^ (d+1)=2 ^ d+2 ^ d:=by rw [Nat.pow_succ];omega
  have hj0:∀ j,idx+2 ^ (n - d) * j=idx+2 ^ (n - (d+1)) * (2 * j):=fun j=>by rw [← Nat.mul_assoc,Nat.mul_comm _ 2,hpw,show 2 * 2 ^ (n - (d+1))=2 ^ (n - (d+1))+2 ^ (n - (d+1)) by omega]
  have hj1:∀ j,idx+2 ^ (n - (d+1))+2 ^ (n - d) * j=idx+2 ^ (n - (d+1)) * (2 * j+1):=fun j=>by rw [Nat.mul_add,Nat.mul_one];have:=hj0 j;omega
  have hmm:m≤m':=by
   have:=(zz8 ns F r (ndIota m)).length_le
   rw [hv,zz3,zz3] at this;exact this
  by_cases hat:2≤r∧(ns.getD (r - 2).toNat z70).f0=((n - (d+1):Nat):Int)
  ·obtain ⟨h2,hat⟩:=hat
   obtain ⟨q,rfl⟩:∃ q:Nat,r=2+(q:Int):=⟨(r - 2).toNat,by omega⟩
   have hqn:(2+(q:Int) - 2).toNat=q:=by omega
   rw [hqn] at hat;have hql:q<ns.length:=by omega
   obtain ⟨l0,l1,l2⟩:=h.low q hql
   obtain ⟨g0,g1,g2⟩:=h.high q hql
   obtain ⟨m1,m2,hm1,hm2,hv1,hv2,hend⟩:∃ m1 m2,m1≤ns.length∧m2≤ns.length∧ndVisit ns F (ns.getD q z70).f1 (ndIota m)=ndIota m1∧ndVisit ns F (ns.getD q z70).f2 (ndIota m1)=ndIota m2∧((q<m2∧m'=m2)∨(m2=q∧m'=q+1)):=by
    by_cases hs:q<m
    ·have e:=hv
     rw [zz9 _ _ _ _ (by omega)] at e
     have e2:m=m':=by rw [← zz3 m,e,zz3]
     exact ⟨m,m,hm,hm,zz9 _ _ _ _ (by omega),zz9 _ _ _ _ (by omega),Or.inl ⟨hs,e2.symm⟩⟩
    ·have e0:=hv
     rw [zz23 h.b hF hql _ (by rw [ndIota_mem];omega)] at e0
     have hm'0:m'≠0:=by
      rintro rfl
      have:=congrArg List.length e0
      rw [zz3] at this;simp at this
     obtain ⟨p,rfl⟩:∃ p,m'=p+1:=⟨m' - 1,by omega⟩
     rw [zz5] at e0;have e1:=List.append_inj' e0 rfl
     have e2:(q:Int)=(p:Int):=by simpa using e1.2
     have e3:q=p:=by omega
     subst e3;have e4:=e1.1
     have hp2:=zz8 ns F (ns.getD q z70).f2 (ndVisit ns F (ns.getD q z70).f1 (ndIota m))
     rw [e4] at hp2;have e5:=zz6 hp2 rfl
     have hl5:=hp2.length_le
     rw [zz3] at hl5;exact ⟨_,q,by omega,by omega,e5,by rw [← e5];exact e4,Or.inr ⟨rfl,rfl⟩⟩
   have i1:=ih idx (ns.getD q z70).f1 m m1 (by omega) hx1 l0 (by omega) (fun hh=>by have:=l2 hh;rw [hat] at this;omega) hm hm1 hv1 (fun j hj=>by
    rw [hj0 j,hvs (2 * j) (by omega),← hj0 j,zz24 h.b hF hql,hat,Int.toNat_natCast,nd_bit0 hd hidx j,if_neg (by decide)])
   have i2:=ih (idx+2 ^ (n - (d+1))) (ns.getD q z70).f2 m1 m2 (by omega) hx2 g0 (by omega) (fun hh=>by have:=g2 hh;rw [hat] at this;omega) hm1 hm2 hv2 (fun j hj=>by
    rw [hj1 j,hvs (2 * j+1) (by omega),← hj1 j,zz24 h.b hF hql,hat,Int.toNat_natCast,nd_bit1 hd hidx j,if_pos rfl])
   rw [ndBuild,i1];dsimp only;rw [i2];dsimp only;have e6:(⟨((n - (d+1):Nat):Int),(ns.getD q z70).f1,(ns.getD q z70).f2⟩:S70)=ns.getD q z70:=by rw [← hat]
   rw [e6];unfold ndNode;rw [if_neg (h.ne q hql)];rcases hend with ⟨hq2,rfl⟩ | ⟨rfl,rfl⟩
   ·rw [zz14 h hm2 hq2,if_pos (by rw [List.length_take];omega)]
   ·rw [if_neg (ndAt_not h hql (Nat.le_refl _)),zz16 ns m2 hql]
    simp
    omega
  ·have hin':2≤r→((n - d:Nat):Int)≤(ns.getD (r - 2).toNat z70).f0:=fun hh=>by
    have:=hin hh
    have:(ns.getD (r - 2).toNat z70).f0≠((n - (d+1):Nat):Int):=fun e=>hat ⟨hh,e⟩
    omega
   have hv2:ndVisit ns F r (ndIota m')=ndIota m':=by
    refine zz9 _ _ _ _ ?_
    by_cases h2:r<2
    ·omega
    ·obtain ⟨q,rfl⟩:∃ q:Nat,r=2+(q:Int):=⟨(r - 2).toNat,by omega⟩
     by_cases hs:q<m
     ·omega
     ·rw [zz23 h.b hF (by omega) _ (by rw [ndIota_mem];omega)] at hv
      have:(q:Int)∈ndIota m':=by rw [← hv];simp
      rw [ndIota_mem] at this;omega
   have i1:=ih idx r m m' (by omega) hx1 h0 hr hin' hm hm' hv (fun j hj=>by rw [hj0 j];exact hvs (2 * j) (by omega))
   have i2:=ih (idx+2 ^ (n - (d+1))) r m' m' (by omega) hx2 h0 hr hin' hm' hm' hv2 (fun j hj=>by rw [hj1 j];exact hvs (2 * j+1) (by omega))
   rw [ndBuild,i1];dsimp only;rw [i2];unfold ndNode;rw [if_pos rfl]
theorem zz26 {n:Nat} {ns:List S70} (h:NdOk n ns) (vs:List Int) (F:Nat) (hF:ns.length≤F) (root:Int) (h0:0≤root) (h1:root<2+(ns.length:Int)) (hv:ndVisit ns F root []=ndIota ns.length) (hvs:∀ j,j<2 ^ n→rd vs ((j:Nat):Int)=ndVal ns j F root):ndBuild vs n n 0 []=(ns,root):=by
 have:=zz25 h vs F hF n 0 root 0 ns.length (Nat.le_refl _) (by simp) h0 h1 (fun hh=>by
  have:=(h.inp (root - 2).toNat (by omega)).1
  simpa using this) (Nat.zero_le _) (Nat.le_refl _) hv (fun j hj=>by simpa using hvs j hj)
 simpa using this
theorem NdOk.snoc {n:Nat} {ns:List S70} (h:NdOk n ns) (x:S70) (hi:0≤x.f0∧x.f0<(n:Int)) (hne:x.f1≠x.f2) (hl:ndRef ns ns.length x.f0 x.f1) (hh:ndRef ns ns.length x.f0 x.f2) (hx:∀ i,i<ns.length→ns.getD i z70≠x):NdOk n (ns ++ [x]):=by
 have g1:∀ i,i<ns.length→(ns ++ [x]).getD i z70=ns.getD i z70:=fun i hi=>zz13 (List.prefix_append _ _) i hi
 have g2:(ns ++ [x]).getD ns.length z70=x:=by simp
 have gr:∀ (i:Nat) (a r:Int),i≤ns.length→ndRef ns i a r→ndRef (ns ++ [x]) i a r:=fun i a r hi ⟨h0,h1,h2⟩=>⟨h0,h1,fun hh=>by rw [g1 _ (by omega)];exact h2 hh⟩
 refine ⟨fun i hi'=>?_,fun i hi'=>?_,fun i hi'=>?_,fun i hi'=>?_,fun i j hij hj=>?_⟩
 ·rw [List.length_append,List.length_singleton] at hi'
  by_cases e:i=ns.length
  ·subst e;rw [g2];exact hi
  ·rw [g1 i (by omega)];exact h.inp i (by omega)
 ·rw [List.length_append,List.length_singleton] at hi'
  by_cases e:i=ns.length
  ·subst e;rw [g2];exact hne
  ·rw [g1 i (by omega)];exact h.ne i (by omega)
 ·rw [List.length_append,List.length_singleton] at hi'
  by_cases e:i=ns.length
  ·subst e;rw [g2];exact gr _ _ _ (Nat.le_refl _) hl
  ·rw [g1 i (by omega)];exact gr _ _ _ (by omega) (h.low i (by omega))
 ·rw [List.length_append,List.length_singleton] at hi'
  by_cases e:i=ns.length
  ·subst e;rw [g2];exact gr _ _ _ (Nat.le_refl _) hh
  ·rw [g1 i (by omega)];exact gr _ _ _ (by omega) (h.high i (by omega))
 ·rw [List.length_append,List.length_singleton] at hj
  by_cases e:j=ns.length
  ·subst e;rw [g2,g1 i (by omega)];exact hx i (by omega)
  ·rw [g1 i (by omega),g1 j (by omega)];exact h.one i j hij (by omega)
structure NdMade (n d:Nat) (vs:List Int) (idx:Nat) (ns:List S70) (p:List S70×Int):Prop where
 pre:ns <+: p.1
 len:p.1.length+1≤ns.length+2 ^ d
 ok:NdOk n p.1
 r0:0≤p.2
 r1:p.2<2+(p.1.length:Int)
 inp:2≤p.2→((n - d:Nat):Int)≤(p.1.getD (p.2 - 2).toNat z70).f0
 new:∀ i,ns.length≤i→i<p.1.length→((n - d:Nat):Int)≤(p.1.getD i z70).f0
 visit:∀ ms F,p.1 <+: ms→NdOk n ms→ms.length≤F→ndVisit ms F p.2 (ndIota ns.length)=ndIota p.1.length
 val:∀ ms F,p.1 <+: ms→NdOk n ms→ms.length≤F→∀ j,j<2 ^ d→ndVal ms (idx+2 ^ (n - d) * j) F p.2=rd vs ((idx+2 ^ (n - d) * j:Nat):Int)
theorem zz27 {n:Nat} (vs:List Int) (hvs:∀ i,0≤rd vs ((i:Nat):Int)∧rd vs ((i:Nat):Int)≤1):∀ (d:Nat) (idx:Nat) (ns:List S70),d≤n→idx<2 ^ (n - d)→NdOk n ns→NdMade n d vs idx ns (ndBuild vs n d idx ns):=by
 intro d;induction d with
 | zero =>
  intro idx ns _ _ h;have hb:=hvs idx
  rw [ndBuild];refine ⟨List.prefix_refl _,by simp,h,hb.1,by show rd vs ((idx:Nat):Int)<_;omega,fun hh=>by have:2≤rd vs ((idx:Nat):Int):=hh;omega,fun i h1 h2=>by have:i<ns.length:=h2;omega,fun ms F _ _ _=>zz9 _ _ _ _ (by show rd vs ((idx:Nat):Int)<_;omega),fun ms F _ _ _ j hj=>?_⟩
  obtain rfl:j=0:=by simpa using hj
  rw [Nat.mul_zero,Nat.add_zero];cases F with
  | zero=>rfl
  | succ F=>rw [ndVal,if_pos (by show rd vs ((idx:Nat):Int)<_;omega)]
 | succ d ih =>
  intro idx ns hd hidx h;have hpw:=nd_pow hd
  have hx1:idx<2 ^ (n - d):=by omega
  have hx2:idx+2 ^ (n - (d+1))<2 ^ (n - d):=by omega
  have hpd:2 ^ (d+1)=2 ^ d+2 ^ d:=by rw [Nat.pow_succ];omega
  have hp0:0<2 ^ d:=Nat.two_pow_pos d
  have hj0:∀ j,idx+2 ^ (n - d) * j=idx+2 ^ (n - (d+1)) * (2 * j):=fun j=>by rw [← Nat.mul_assoc,Nat.mul_comm _ 2,hpw,show 2 * 2 ^ (n - (d+1))=2 ^ (n - (d+1))+2 ^ (n - (d+1)) by omega]
  have hj1:∀ j,idx+2 ^ (n - (d+1))+2 ^ (n - d) * j=idx+2 ^ (n - (d+1)) * (2 * j+1):=fun j=>by rw [Nat.mul_add,Nat.mul_one];have:=hj0 j;omega
  have A:=ih idx ns (by omega) hx1 h
  rw [ndBuild];generalize ndBuild vs n d idx ns=a at A ⊢
  obtain ⟨n1,lo⟩:=a
  have B:=ih (idx+2 ^ (n - (d+1))) n1 (by omega) hx2 A.ok
  dsimp only;generalize ndBuild vs n d (idx+2 ^ (n - (d+1))) n1=b at B ⊢
  obtain ⟨n2,hi⟩:=b
  dsimp only;obtain ⟨apre,alen,aok,ar0,ar1,ainp,anew,avis,aval⟩:=A
  obtain ⟨bpre,blen,bok,br0,br1,binp,bnew,bvis,bval⟩:=B
  dsimp only at *
  have hl1:=apre.length_le
  have hl2:=bpre.length_le
  have hsame:∀ i,i<n1.length→n2.getD i z70=n1.getD i z70:=fun i hi=>zz13 bpre i hi
  have hnew2:∀ i,ns.length≤i→i<n2.length→((n - d:Nat):Int)≤(n2.getD i z70).f0:=fun i h1 h2=>by
   by_cases e:i<n1.length
   ·rw [hsame i e];exact anew i h1 e
   ·exact bnew i (by omega) h2
  unfold ndNode;dsimp only;by_cases heq:lo=hi
  ·subst heq
   rw [if_pos rfl];have hvis:∀ ms F,n2 <+: ms→NdOk n ms→ms.length≤F→ndVisit ms F lo (ndIota ns.length)=ndIota n2.length:=fun ms F hp hk hF=>by
    have e1:=avis ms F (bpre.trans hp) hk hF
    have e2:=bvis ms F hp hk hF
    rw [zz9 _ _ _ _ ar1] at e2;rw [e1,e2]
   refine ⟨apre.trans bpre,by show n2.length+1≤_;omega,bok,br0,br1,fun hh=>?_,fun i h1 h2=>?_,hvis,fun ms F hp hk hF j hj=>?_⟩
   ·have:=binp hh;dsimp only;omega
   ·have:=hnew2 i h1 h2;dsimp only;omega
   ·rcases Nat.mod_two_eq_zero_or_one j with e | e
    ·obtain ⟨i,rfl⟩:∃ i,j=2 * i:=⟨j / 2,by omega⟩
     rw [← hj0 i];exact aval ms F (bpre.trans hp) hk hF i (by omega)
    ·obtain ⟨i,rfl⟩:∃ i,j=2 * i+1:=⟨j / 2,by omega⟩
     rw [← hj1 i];exact bval ms F hp hk hF i (by omega)
  rw [if_neg heq];have hvalx:∀ (q:Nat) ms F,n2 <+: ms→NdOk n ms→ms.length≤F→q<ms.length→ms.getD q z70=⟨((n - (d+1):Nat):Int),lo,hi⟩→∀ j,j<2 ^ (d+1)→ndVal ms (idx+2 ^ (n - (d+1)) * j) F (2+(q:Int))=vs.getD (idx+2 ^ (n - (d+1)) * j) 0:=fun q ms F hp hk hF hq hx j hj=>by
   rw [zz24 hk.b hF hq,hx];dsimp only;rw [Int.toNat_natCast];rcases Nat.mod_two_eq_zero_or_one j with e | e
   ·obtain ⟨i,rfl⟩:∃ i,j=2 * i:=⟨j / 2,by omega⟩
    rw [← hj0 i,nd_bit0 hd hidx,if_neg (by decide)]
    exact aval ms F (bpre.trans hp) hk hF i (by omega)
   ·obtain ⟨i,rfl⟩:∃ i,j=2 * i+1:=⟨j / 2,by omega⟩
    rw [← hj1 i,nd_bit1 hd hidx,if_pos rfl];exact bval ms F hp hk hF i (by omega)
  by_cases hin:ndAt (⟨((n - (d+1):Nat):Int),lo,hi⟩:S70) n2<n2.length
  ·rw [if_pos hin]
   have hx:=ndAt_get _ _ hin
   generalize ndAt (⟨((n - (d+1):Nat):Int),lo,hi⟩:S70) n2=q at hin hx ⊢
   have hold:q<ns.length:=by
    by_cases e:q<ns.length
    ·exact e
    ·have:=hnew2 q (by omega) hin
     rw [hx] at this;dsimp only at this
     omega
   have hrl:=(bok.low q hin).2.1
   have hrh:=(bok.high q hin).2.1
   rw [hx] at hrl hrh;dsimp only at hrl hrh
   have e1:=avis n2 n2.length bpre bok (Nat.le_refl _)
   rw [zz9 _ _ _ _ (by omega)] at e1
   have f1:ns.length=n1.length:=by rw [← zz3 ns.length,e1,zz3]
   have e2:=bvis n2 n2.length (List.prefix_refl _) bok (Nat.le_refl _)
   rw [zz9 _ _ _ _ (by omega)] at e2
   have f2:n1.length=n2.length:=by rw [← zz3 n1.length,e2,zz3]
   refine ⟨apre.trans bpre,by show n2.length+1≤_;omega,bok,by show 0≤2+(q:Int);omega,by dsimp only;omega,fun _=>?_,fun i h1 h2=>?_,fun ms F hp hk hF=>?_,fun ms F hp hk hF j hj=>?_⟩
   ·show ((n - (d+1):Nat):Int)≤(n2.getD (2+(q:Int) - 2).toNat z70).f0
    rw [show (2+(q:Int) - 2).toNat=q by omega,hx]
    exact Int.le_refl _
   ·have:=hnew2 i h1 h2;dsimp only;omega
   ·show ndVisit ms F (2+(q:Int)) _=ndIota n2.length
    rw [zz9 _ _ _ _ (by omega),show ns.length=n2.length by omega]
   ·have hpl:n2.length≤ms.length:=hp.length_le
    exact hvalx q ms F hp hk hF (by omega) (by rw [zz13 hp q hin];exact hx) j hj
  ·rw [if_neg hin]
   have hrow:∀ i,i<n2.length→n2.getD i z70≠⟨((n - (d+1):Nat):Int),lo,hi⟩:=fun i h1 h2=>hin (Nat.lt_of_le_of_lt (ndAt_lt _ _ i h1 h2) h1)
   have hrefl:ndRef n2 n2.length ((n - (d+1):Nat):Int) lo:=⟨ar0,by omega,fun hh=>by
    have:=ainp hh
    rw [hsame _ (by omega)]
    omega⟩
   have hrefh:ndRef n2 n2.length ((n - (d+1):Nat):Int) hi:=⟨br0,by omega,fun hh=>by
    have:=binp hh
    omega⟩
   have hok:NdOk n (n2 ++ [⟨((n - (d+1):Nat):Int),lo,hi⟩]):=bok.snoc _ ⟨by show 0≤((n - (d+1):Nat):Int);omega,by show ((n - (d+1):Nat):Int)<_;omega⟩ heq hrefl hrefh hrow
   have hpre:n2 <+: n2 ++ [(⟨((n - (d+1):Nat):Int),lo,hi⟩:S70)]:=List.prefix_append _ _
   have hlast:(n2 ++ [(⟨((n - (d+1):Nat):Int),lo,hi⟩:S70)]).getD n2.length z70=⟨((n - (d+1):Nat):Int),lo,hi⟩:=by simp
   have hlen:(n2 ++ [(⟨((n - (d+1):Nat):Int),lo,hi⟩:S70)]).length=n2.length+1:=by simp
   refine ⟨(apre.trans bpre).trans hpre,by show (n2 ++ [_]).length+1≤_;rw [hlen];omega,hok,by show 0≤2+(n2.length:Int);omega,by show 2+(n2.length:Int)<2+((n2 ++ [_]).length:Int);rw [hlen];omega,fun _=>?_,fun i h1 h2=>?_,fun ms F hp hk hF=>?_,fun ms F hp hk hF j hj=>?_⟩
   ·show ((n - (d+1):Nat):Int)≤((n2 ++ [_]).getD (2+(n2.length:Int) - 2).toNat z70).f0
    rw [show (2+(n2.length:Int) - 2).toNat=n2.length by omega,hlast]
    exact Int.le_refl _
   ·show ((n - (d+1):Nat):Int)≤((n2 ++ [_]).getD i z70).f0
    have h2':i<(n2 ++ [(⟨((n - (d+1):Nat):Int),lo,hi⟩:S70)]).length:=h2
    rw [hlen] at h2'
    by_cases e:i=n2.length
    ·subst e;rw [hlast];exact Int.le_refl _
    ·rw [zz13 hpre i (by omega)]
     have:=hnew2 i h1 (by omega)
     omega
   ·show ndVisit ms F (2+(n2.length:Int)) _=ndIota (n2 ++ [_]).length
    have hpl:=hp.length_le
    have hpl':n2.length+1≤ms.length:=by rw [← hlen];exact hpl
    have hx:ms.getD n2.length z70=⟨((n - (d+1):Nat):Int),lo,hi⟩:=by rw [zz13 hp _ (by rw [hlen];omega),hlast]
    rw [hlen,zz23 hk.b hF (by omega) _ (by rw [ndIota_mem];omega),hx]
    dsimp only;rw [avis ms F ((bpre.trans hpre).trans hp) hk hF,bvis ms F (hpre.trans hp) hk hF,zz5]
   ·have hpl:=hp.length_le
    have hpl':n2.length+1≤ms.length:=by rw [← hlen];exact hpl
    have hx:ms.getD n2.length z70=⟨((n - (d+1):Nat):Int),lo,hi⟩:=by rw [zz13 hp _ (by rw [hlen];omega),hlast]
    exact hvalx n2.length ms F (hpre.trans hp) hk hF (by omega) hx j hj
theorem NdOk.nil (n:Nat):NdOk n []:=⟨fun i h=>by simp at h,fun i h=>by simp at h,fun i h=>by simp at h,fun i h=>by simp at h,fun i j _ h=>by simp at h⟩
theorem bit_and1 (a n:Nat) (ha:a<2 ^ 62) (hn:n≤62):Go.bits .and .i64 (shr .i64 (a:Int) (n:Int)) 1=(((a >>> n) % 2:Nat):Int):=by
 rw [shrN a n hn];have h:a >>> n≤a:=Nat.shiftRight_le a n
 have:=andN (a >>> n) 1 (by omega) (by omega)
 rw [Nat.and_one_is_mod] at this;exact this
theorem zz29 (a n:Nat) (ha:a<2 ^ 62) (hn:n≤62):spec_ttBit.f (a:Int) (n:Int)=some (((a >>> n) % 2:Nat):Int):=by
 unfold spec_ttBit.f;rw [u64w (by omega) (by omega),if_pos (by omega),bit_and1 a n ha hn]
theorem rdNd (ns:List S70) (q:Nat):rd_T70 ns (q:Int)=ns.getD q z70:=rfl
theorem zz31 (ns:List S70) (idx F:Nat) (r:Int) (h:r<2):ndVal ns idx F r=r:=by
 cases F with
 | zero=>rfl
 | succ F=>rw [ndVal,if_pos h]
theorem ndVal_at (ns:List S70) (idx F q:Nat):ndVal ns idx (F+1) (2+(q:Int))=ndVal ns idx F (if (idx >>> (ns.getD q z70).f0.toNat) % 2=1 then (ns.getD q z70).f2 else (ns.getD q z70).f1):=by
 have e:2+(q:Int) - 2=(q:Int):=by omega
 rw [ndVal,if_neg (by omega),e,Int.toNat_natCast]
theorem zz33 {n:Nat} {ns:List S70} (h:NdB n ns) (hn:n≤4) (hl:ns.length≤1000) (idx:Nat) (hi:idx<65536) (root:Int):∀ (F:Nat) (r:Int),0≤r→r<2+(ns.length:Int)→r<(F:Int)+2 →
  Ev (fun k=>spec_ddValue.l0 k idx r n ns root) (ndVal ns idx F r):=by
 intro F;induction F with
 | zero =>
  intro r h0 h1 h2;apply ev_up;simp only [spec_ddValue.l0];exact ev_n (by omega) (ev_eq (Ev.now _) rfl)
 | succ F ih =>
  intro r h0 h1 h2;by_cases hr:r<2
  ·rw [zz31 ns idx _ r hr]
   apply ev_up;simp only [spec_ddValue.l0];exact ev_n (by omega) (Ev.now _)
  obtain ⟨q,rfl⟩:∃ q:Nat,r=2+(q:Int):=⟨(r - 2).toNat,by omega⟩
  have hq:q<ns.length:=by omega
  obtain ⟨i0,i1⟩:=h.inp q hq
  obtain ⟨l0,l1⟩:=h.low q hq
  obtain ⟨g0,g1⟩:=h.high q hq
  apply ev_up;simp only [spec_ddValue.l0];rw [wN (m:=q) (by omega) (by omega)]
  refine ev_p (by omega) (ev_p (by omega) (ev_p (by omega) ?_))
  rw [rdNd,ndVal_at];obtain ⟨m,hm⟩:=nat_of i0
  rw [hm,Int.toNat_natCast];refine Ev.bind (ev_c (zz29 idx m (by omega) (by omega))) (ev_ite (fun c=>?_) (fun c=>?_))
  ·rw [if_neg (by omega)]
   exact ih _ l0 (by omega) (by omega)
  ·rw [if_pos (by omega)]
   exact ih _ g0 (by omega) (by omega)
def ndTab (n:Nat) (ns:List S70) (root:Int):List Int:=rmap (2 ^ n) (fun j=>ndVal ns j ns.length root)
theorem zz35 (n:Nat) (ns:List S70) (root:Int):(ndTab n ns root).length=2 ^ n:=rmap_length _ _
theorem ndTab_rd {n:Nat} {ns:List S70} {root:Int} {j:Nat} (h:j<2 ^ n):rd (ndTab n ns root) (j:Int)=ndVal ns j ns.length root:=rmap_get h 0
theorem pow4 {n:Nat} (h:n≤4):2 ^ n≤16:=Nat.pow_le_pow_right (by decide:0<2) h
theorem zz38 {n:Nat} {ns:List S70} (h:NdB n ns) (hn:n≤4) (hl:ns.length≤1000) (root:Int) (h0:0≤root) (h1:root<2+(ns.length:Int)):∀ (d i:Nat),i+d=2 ^ n →
  Ev (fun k=>spec_ddTable.l0 k i n ns root n (rmap i (fun j=>ndVal ns j ns.length root))) ((n:Int),ndTab n ns root):=by
 have hp:=pow4 hn
 intro d;induction d with
 | zero =>
  intro i hi;apply ev_up;simp only [spec_ddTable.l0];rw [u64w (by omega) (by omega),shl1 n (by omega)]
  refine ev_p (by omega) (ev_n (by omega) (ev_eq (Ev.now _) ?_))
  rw [show i=2 ^ n by omega]
  rfl
 | succ d ih =>
  intro i hi;apply ev_up;simp only [spec_ddTable.l0];rw [u64w (by omega) (by omega),shl1 n (by omega)]
  refine ev_p (by omega) (ev_p (by omega) (Ev.bind (zz33 h hn hl i (by omega) root ns.length root h0 h1 (by omega)) (ev_p (by rw [rmap_length];omega) ?_)))
  rw [wN (m:=i+1) (by omega) (by omega),← rmap_succ]
  exact ih (i+1) (by omega)
theorem zz39 {n:Nat} {ns:List S70} (h:NdB n ns) (hn:n≤4) (hl:ns.length≤1000) (root:Int) (h0:0≤root) (h1:root<2+(ns.length:Int)):Ev (fun k=>spec_ddTable.f k n ns root) ((n:Int),ndTab n ns root):=by
 unfold spec_ddTable.f;exact zz38 h hn hl root h0 h1 (2 ^ n) 0 (by omega)
theorem zz40 {n:Nat} {ns:List S70} (h:NdB n ns) (root:Int) (h0:0≤root) (h1:root<2+(ns.length:Int)):∀ x∈ndTab n ns root,0≤x∧x≤1:=by
 intro x hx;unfold ndTab rmap at hx;obtain ⟨j,_,rfl⟩:=List.mem_map.1 hx
 exact zz18 h j ns.length root h0 h1 (by omega)
theorem rd_bits {l:List Int} (h:∀ x∈l,0≤x∧x≤1) (i:Nat):0≤rd l ((i:Nat):Int)∧rd l ((i:Nat):Int)≤1:=by
 show 0≤l.getD i 0∧l.getD i 0≤1
 rw [List.getD_eq_getElem?_getD];cases hq:l[i]? with
 | none=>simp
 | some x=>exact h x (List.mem_of_getElem? hq)
def diagM (a:Int) (ns:List S70) (root:Int):Prop:=0≤a∧a≤4∧ns.length≤40∧0≤root∧root<2+(ns.length:Int)∧NdB a.toNat ns∧ndBuild (ndTab a.toNat ns root) a.toNat a.toNat 0 []=(ns,root)
theorem zz43 (n:Nat) (hn:n≤4) (vs:List Int) (hv:vs.length=2 ^ n):Ev (fun k=>spec_ddMake.f k n vs) ((n:Int),(ndBuild vs n n 0 []).1,(ndBuild vs n n 0 []).2):=by
 unfold spec_ddMake.f;refine ev_p ⟨by omega,by omega,hv⟩ ?_
 rw [Int.toNat_natCast];exact Ev.now _
theorem zz44 (n:Nat) (hn:n≤4) (vs:List Int) (hv:vs.length=2 ^ n):Ev (fun k=>impl_diagramOf.f k n vs) ((n:Int),(ndBuild vs n n 0 []).1,(ndBuild vs n n 0 []).2):=by
 unfold impl_diagramOf.f;refine ev_p ⟨by omega,by omega,hv⟩ ?_
 rw [Int.toNat_natCast];exact Ev.now _
theorem l1In_eqD (a lo hi:Int):spec_l1In.f a lo hi=some (decide (lo≤a∧a≤hi)):=by
 unfold spec_l1In.f;by_cases h:a≥lo
 ·rw [if_pos h]
  by_cases h2:a≤hi
  ·simp [h,h2]
  ·simp [h,h2]
 ·rw [if_neg h]
  simp [h]
theorem zz46 (n root m root2:Int) (r:List S70):∀ (s p:List S70) (i:Int),i=p.length→r.length=s.length→p.length+r.length≤1000 →
  Ev (fun k=>spec_ddSame.l0 k (p++r) ((p++r).length:Int) i m (p++s) root2) (decide (r=s)):=by
 induction r with
 | nil =>
  intro s p i hi hl hb;obtain rfl:s=[]:=List.length_eq_zero_iff.1 hl.symm
  apply ev_up;simp only [spec_ddSame.l0];refine ev_n (by simp;omega) (ev_eq (Ev.now _) (by simp))
 | cons x r ih =>
  intro s p i hi hl hb;match s,hl with
  | y :: s,hl =>
   simp only [List.length_cons] at hl hb;apply ev_up;simp only [spec_ddSame.l0];refine ev_p (by simp;omega) (ev_p (by omega) (ev_p (by simp;omega) (ev_p (by simp;omega) ?_)))
   have e1:rd_T70 (p++x :: r) i=x:=getDA hi
   have e2:rd_T70 (p++y :: s) i=y:=getDA hi
   rw [e1,e2];by_cases hxy:x=y
   ·subst hxy
    refine ev_n (by simp) ?_
    rw [w64 (by omega) (by omega)]
    have:=ih s (p ++ [x]) (i+1) (by simp;omega) (by omega) (by simp;omega)
    simp only [List.append_assoc,List.singleton_append] at this;refine ev_eq this ?_
    by_cases h2:r=s
    ·rw [decide_eq_true h2,decide_eq_true (by rw [h2])]
    ·rw [decide_eq_false h2,decide_eq_false (fun e=>h2 (by injection e))]
   ·rw [decide_eq_false (fun e=>hxy (by injection e))]
    refine ev_p ?_ (Ev.now _)
    have hne:¬ (x.f0=y.f0∧x.f1=y.f1∧x.f2=y.f2):=fun e=>hxy (by cases x;cases y;simp at e ⊢;exact e)
    by_cases a:x.f0=y.f0
    ·by_cases b:x.f1=y.f1
     ·have c:¬ x.f2=y.f2:=fun c=>hne ⟨a,b,c⟩
      simp [a,b,c]
     ·simp [a,b]
    ·simp [a]
theorem zz47 (n root:Int) (ns:List S70) (root2:Int) (ms:List S70) (hb:ns.length≤1000) (hb2:ms.length≤1000):Ev (fun k=>spec_ddSame.f k n ns root n ms root2) (decide ((ms,root2)=(ns,root))):=by
 unfold spec_ddSame.f;refine ev_p (by simp) (ev_ite (fun hr=>?_) (fun hr=>?_))
 ·by_cases hl:ns.length=ms.length
  ·apply ev_up
   simp only [spec_ddSame.j0];refine ev_n (by rw [hl];simp) ?_
   have:=zz46 n root n root2 ns ms [] 0 rfl hl (by simpa using hb)
   refine ev_eq this ?_
   by_cases h:ns=ms
   ·rw [decide_eq_true h,decide_eq_true (by rw [h,hr])]
   ·rw [decide_eq_false h,decide_eq_false (fun e=>h (by injection e with e1 e2;exact e1.symm))]
  ·apply ev_up
   simp only [spec_ddSame.j0];refine ev_p (by simp;omega) (ev_eq (Ev.now _) ?_)
   rw [decide_eq_false];intro e;injection e with e1 e2
   exact hl (by rw [e1])
 ·apply ev_up
  simp only [spec_ddSame.j0];refine ev_p (by simp) (ev_eq (Ev.now _) ?_)
  rw [decide_eq_false];intro e;injection e with e1 e2
  exact hr e2.symm
theorem l1In_eq (a b c:Int):spec_l1In.f a b c=some (decide (b≤a∧a≤c)):=by
 unfold spec_l1In.f;by_cases h:b≤a
 ·rw [if_pos h];simp [h]
 ·rw [if_neg h];simp [h]
def inB (a b:Int) (x:Int):Bool:=decide (a≤x∧x≤b)
theorem l1All_l0 (l:List Int) (a b:Int) (hl:l.length≤9223372036854775807) (r:List Int):∀ (p:List Int) (i:Int),i=p.length→l=p++r →
  Ev (fun k=>spec_l1All.l0 k a b l l.length i) (r.all (inB a b)):=by
 induction r with
 | nil =>
  intro p i hi e;have hlen:l.length=p.length:=by rw [e];simp
  apply ev_up;simp only [spec_l1All.l0];exact ev_n (by omega) (Ev.now _)
 | cons x r ih =>
  intro p i hi e;have hlen:l.length=p.length+r.length+1:=by rw [e];simp;omega
  have hx:rd l i=x:=by rw [e];exact rdA hi
  have ih':=ih (p ++ [x]) (i+1) (by simp;omega) (by rw [e];simp)
  apply ev_up;simp only [spec_l1All.l0];refine ev_p (by omega) (ev_p (by omega) (ev_p (by omega) ?_))
  rw [hx,l1In_eq];refine Ev.bind (ev_c rfl) ?_
  refine ev_ite (fun h=>?_) (fun h=>?_)
  ·rw [w64 (by omega) (by omega)]
   refine ev_eq ih' ?_
   rw [List.all_cons,show inB a b x=true from h,Bool.true_and]
  ·refine ev_eq (Ev.now _) ?_
   rw [List.all_cons,show inB a b x=false from decide_eq_false (fun hh=>h (decide_eq_true hh)),Bool.false_and]
theorem l1All_ev (l:List Int) (a b:Int) (hl:l.length≤9223372036854775807):Ev (fun k=>spec_l1All.f k l a b) (l.all (inB a b)):=by
 unfold spec_l1All.f;exact l1All_l0 l a b hl l [] 0 rfl rfl
theorem zz52 (a:Int):spec_ttInputs.f a=some (decide (0≤a∧a≤4)):=by
 unfold spec_ttInputs.f;rw [l1In_eq,Option.bind_some]
def tableM (n:Int) (l:List Int):Bool:=decide (0≤n∧n≤4∧l.length=2 ^ n.toNat) && l.all (inB 0 1)
theorem zz54 {n:Int} {l:List Int} (h:tableM n l=true):∃ a:Nat,n=a∧a≤4∧l.length=2 ^ a∧l.length≤16∧∀ x∈l,0≤x∧x≤1:=by
 unfold tableM at h;rw [Bool.and_eq_true,List.all_eq_true] at h;obtain ⟨h1,h2,h3⟩:=of_decide_eq_true h.1
 obtain ⟨a,rfl⟩:=nat_of h1
 simp only [Int.toNat_natCast] at h3;have h8:2 ^ a≤2 ^ 4:=Nat.pow_le_pow_right (by decide) (by omega)
 exact ⟨a,rfl,by omega,h3,by omega,fun x hx=>of_decide_eq_true (h.2 x hx)⟩
theorem zz55 (l:List Int) (hl:l.length≤9223372036854775807) (r:List Int):∀ (p:List Int) (i:Int),i=p.length→l=p++r →
  Ev (fun k=>impl_areBits.l0 k l l.length i) (r.all (inB 0 1)):=by
 induction r with
 | nil =>
  intro p i hi e;have hlen:l.length=p.length:=by rw [e];simp
  apply ev_up;simp only [impl_areBits.l0];exact ev_n (by omega) (Ev.now _)
 | cons x r ih =>
  intro p i hi e;have hlen:l.length=p.length+r.length+1:=by rw [e];simp;omega
  have hx:rd l i=x:=by rw [e];exact rdA hi
  have ih':=ih (p ++ [x]) (i+1) (by simp;omega) (by rw [e];simp)
  apply ev_up;simp only [impl_areBits.l0];refine ev_p (by omega) (ev_p (by omega) (ev_p (by omega) ?_))
  rw [hx,w64 (n:=i+1) (by omega) (by omega)]
  refine ev_ite (fun h=>?_) (fun h=>ev_ite (fun h2=>?_) (fun h2=>?_))
  ·rw [List.all_cons,show inB 0 1 x=true from decide_eq_true (by omega),Bool.true_and]
   exact ih'
  ·rw [List.all_cons,show inB 0 1 x=true from decide_eq_true (by omega),Bool.true_and]
   exact ih'
  ·rw [List.all_cons,show inB 0 1 x=false from decide_eq_false (by omega),Bool.false_and]
   exact Ev.now _
theorem zz56 (l:List Int) (hl:l.length≤9223372036854775807):Ev (fun k=>impl_areBits.f k l) (l.all (inB 0 1)):=by
 unfold impl_areBits.f;exact zz55 l hl l [] 0 rfl rfl
theorem zz57 (n:Int) (l:List Int) (hl:l.length≤9223372036854775807):Ev (fun k=>impl_IsTable.f k n l) (tableM n l):=by
 unfold impl_IsTable.f tableM;refine ev_ite (fun h1=>ev_ite (fun h2=>?_) (fun h2=>?_)) (fun h1=>?_)
 ·obtain ⟨a,rfl⟩:=nat_of h1
  rw [shl1 a (by omega)]
  refine ev_p (by omega) (ev_ite (fun h3=>?_) (fun h3=>?_))
  ·have h4:l.length=2 ^ a:=by exact_mod_cast h3
   rw [decide_eq_true ⟨h1,h2,by simpa using h4⟩,Bool.true_and]
   exact Ev.bind (zz56 l hl) (Ev.now _)
  ·rw [decide_eq_false (fun hh=>h3 (by have:=hh.2.2;simp only [Int.toNat_natCast] at this;exact_mod_cast this)),Bool.false_and]
   exact Ev.now _
 ·rw [decide_eq_false (fun hh=>h2 hh.2.1),Bool.false_and]
  exact Ev.now _
 ·rw [decide_eq_false (fun hh=>h1 hh.1),Bool.false_and]
  exact Ev.now _
theorem zz58 (n:Int) (l:List Int) (hl:l.length≤9223372036854775807):Ev (fun k=>spec_ttGood.f k n l) (tableM n l):=by
 unfold spec_ttGood.f tableM;rw [zz52];refine Ev.bind (ev_c rfl) (ev_ite (fun h=>?_) (fun h=>?_))
 ·have h':=of_decide_eq_true h
  obtain ⟨a,rfl⟩:=nat_of h'.1
  rw [u64w (by omega) (by omega),shl1 a (by omega)]
  refine ev_p (by omega) (ev_ite (fun h2=>?_) (fun h2=>?_))
  ·have h3:l.length=2 ^ a:=by exact_mod_cast h2
   rw [decide_eq_true ⟨h'.1,h'.2,by simpa using h3⟩,Bool.true_and]
   exact Ev.bind (l1All_ev l 0 1 hl) (Ev.now _)
  ·rw [decide_eq_false (fun hh=>h2 (by have:=hh.2.2;simp only [Int.toNat_natCast] at this;exact_mod_cast this)),Bool.false_and]
   exact Ev.now _
 ·rw [decide_eq_false (fun hh=>h (decide_eq_true ⟨hh.1,hh.2.1⟩)),Bool.false_and]
  exact Ev.now _
def bitsL (x n:Nat):List Int:=rmap n (fun i=>(((x >>> i) % 2:Nat):Int))
theorem zz60 (x n:Nat):(bitsL x n).length=n:=rmap_length _ _
theorem zz61 (x n:Nat):∀ b∈bitsL x n,b=0∨b=1:=by
 intro b hb;unfold bitsL rmap at hb;obtain ⟨i,_,rfl⟩:=List.mem_map.1 hb
 omega
def idxOf:List Int→Nat
 | []=>0
 | b :: r=>b.toNat+2 * idxOf r
theorem idxOf_lt (l:List Int) (h:∀ b∈l,0≤b∧b≤1):idxOf l<2 ^ l.length:=by
 induction l with
 | nil=>simp [idxOf]
 | cons b r ih =>
  have h1:=ih (fun x hx=>h x (by simp [hx]))
  have h2:=h b (by simp)
  rw [idxOf,List.length_cons,Nat.pow_succ];omega
theorem zz64 (l:List Int) (h:∀ b∈l,0≤b∧b≤1):bitsL (idxOf l) l.length=l:=by
 induction l with
 | nil=>rfl
 | cons b r ih =>
  have h1:=ih (fun x hx=>h x (by simp [hx]))
  have h2:=h b (by simp)
  have e:bitsL (idxOf (b :: r)) (b :: r).length=((((idxOf (b :: r)) >>> 0) % 2:Nat):Int) :: bitsL (idxOf r) r.length:=by
   unfold bitsL rmap;rw [List.length_cons,List.range_succ_eq_map,List.map_cons,List.map_map];congr 1
   apply List.map_congr_left
   intro i _;simp only [Function.comp,Nat.succ_eq_add_one];have:idxOf (b :: r) >>> (i+1)=idxOf r >>> i:=by
    rw [Nat.add_comm i 1,Nat.shiftRight_add];congr 1
    rw [Nat.shiftRight_eq_div_pow,idxOf];omega
   rw [this]
  rw [e,h1];congr 1
  rw [idxOf,Nat.shiftRight_zero];omega
theorem zz65 (x n:Nat) (hn:n≤4) (hx:x<65536) (d:Nat):∀ (i:Nat),i+d=n →
  Ev (fun k=>impl_bitList.l0 k x (rmap n (fun j=>if j<i then (((x >>> j) % 2:Nat):Int) else 0)) n i) (bitsL x n):=by
 induction d with
 | zero =>
  intro i hi;apply ev_up;simp only [impl_bitList.l0];refine ev_n (by omega) (ev_eq (Ev.now _) ?_)
  exact rmap_congr (fun k hk=>by rw [if_pos (by omega)])
 | succ d ih =>
  intro i hi;apply ev_up;simp only [impl_bitList.l0];refine ev_p (by omega) (ev_p (by omega) (ev_p (by rw [rmap_length];omega) ?_))
  rw [bit_and1 x i (by omega) (by omega),Int.toNat_natCast,rmap_set (show i<n by omega),wN (n:=(i:Int)+1) (m:=i+1) (by omega) (by omega)]
  have e:rmap n (fun j=>if j=i then (((x >>> i) % 2:Nat):Int) else if j<i then (((x >>> j) % 2:Nat):Int) else 0)=rmap n (fun j=>if j<i+1 then (((x >>> j) % 2:Nat):Int) else 0):=by
   apply rmap_congr
   intro j _;by_cases h:j=i
   ·rw [if_pos h,if_pos (show j<i+1 by omega),h]
   ·by_cases h2:j<i
    ·rw [if_neg h,if_pos h2,if_pos (show j<i+1 by omega)]
    ·rw [if_neg h,if_neg h2,if_neg (show ¬ j<i+1 by omega)]
  rw [e];exact ih (i+1) (by omega)
theorem zz66 (x n:Nat) (hn:n≤4) (hx:x<65536):Ev (fun k=>impl_bitList.f k x n) (bitsL x n):=by
 unfold impl_bitList.f;refine ev_p (by omega) (ev_p (by omega) (Ev.bind (ev_c rfl) ?_))
 rw [Int.toNat_natCast,rmap_const,rmap_length];have:=zz65 x n hn hx n 0 (by omega)
 have e:rmap n (fun j=>if j<0 then (((x >>> j) % 2:Nat):Int) else 0)=rmap n (fun _=>(0:Int)):=rmap_congr (fun j _=>by rw [if_neg (by omega)])
 rw [e] at this;exact this
theorem zz67 {n:Nat} {ns:List S70} (h:NdB n ns) (hn:n≤4) (hl:ns.length≤1000) (idx:Nat) (root:Int):∀ (F:Nat) (r:Int),0≤r→r<2+(ns.length:Int)→r<(F:Int)+2 →
  Ev (fun k=>impl_diagramValue.l0 k (bitsL idx n) r n ns root) (ndVal ns idx F r):=by
 intro F;induction F with
 | zero =>
  intro r h0 h1 h2;apply ev_up;simp only [impl_diagramValue.l0];exact ev_n (by omega) (ev_eq (Ev.now _) rfl)
 | succ F ih =>
  intro r h0 h1 h2;by_cases hr:r<2
  ·rw [zz31 ns idx _ r hr]
   apply ev_up;simp only [impl_diagramValue.l0];exact ev_n (by omega) (Ev.now _)
  obtain ⟨q,rfl⟩:∃ q:Nat,r=2+(q:Int):=⟨(r - 2).toNat,by omega⟩
  have hq:q<ns.length:=by omega
  obtain ⟨i0,i1⟩:=h.inp q hq
  obtain ⟨l0,l1⟩:=h.low q hq
  obtain ⟨g0,g1⟩:=h.high q hq
  apply ev_up;simp only [impl_diagramValue.l0];rw [wN (m:=q) (by omega) (by omega),rdNd,ndVal_at]
  obtain ⟨m,hm⟩:=nat_of i0
  rw [hm,Int.toNat_natCast];have hb:rd (bitsL idx n) (m:Int)=(((idx >>> m) % 2:Nat):Int):=rmap_get (by omega) 0
  rw [hb];refine ev_p (by omega) (ev_p (by omega) (ev_p (by omega) (ev_p (by omega) (ev_p (by rw [zz60];omega) (ev_ite (fun c=>?_) (fun c=>?_))))))
  ·rw [if_pos (by omega)]
   exact ih _ g0 (by omega) (by omega)
  ·rw [if_neg (by omega)]
   exact ih _ l0 (by omega) (by omega)
theorem zz68 {n:Nat} {ns:List S70} (h:NdB n ns) (hn:n≤4) (hl:ns.length≤1000) (idx:Nat) (root:Int) (h0:0≤root) (h1:root<2+(ns.length:Int)):Ev (fun k=>impl_diagramValue.f k n ns root (bitsL idx n)) (ndVal ns idx ns.length root):=by
 unfold impl_diagramValue.f;exact zz67 h hn hl idx root ns.length root h0 h1 (by omega)
theorem zz69 {n:Nat} {ns:List S70} (h:NdB n ns) (hn:n≤4) (hl:ns.length≤1000) (root:Int) (h0:0≤root) (h1:root<2+(ns.length:Int)):∀ (d i:Nat),i+d=2 ^ n →
  Ev (fun k=>impl_tableOfDiagram.l0 k ((2 ^ n:Nat):Int) i n ns root n (rmap (2 ^ n) (fun j=>if j<i then ndVal ns j ns.length root else 0))) ((n:Int),ndTab n ns root):=by
 have hp:=pow4 hn
 intro d;induction d with
 | zero =>
  intro i hi;apply ev_up;simp only [impl_tableOfDiagram.l0];refine ev_n (by omega) (ev_eq (Ev.now _) ?_)
  unfold ndTab;rw [rmap_congr (fun j hj=>by rw [if_pos (by omega)])]
 | succ d ih =>
  intro i hi;apply ev_up;simp only [impl_tableOfDiagram.l0];refine ev_p (by omega) (Ev.bind (zz66 i n hn (by omega)) (Ev.bind (zz68 h hn hl i root h0 h1) (ev_p (by omega) (ev_p (by rw [rmap_length];omega) ?_))))
  rw [wN (m:=i+1) (by omega) (by omega),Int.toNat_natCast,rmap_set (by omega)]
  have e:rmap (2 ^ n) (fun j=>if j=i then ndVal ns i ns.length root else if j<i then ndVal ns j ns.length root else 0)=rmap (2 ^ n) (fun j=>if j<i+1 then ndVal ns j ns.length root else 0):=rmap_congr (fun j _=>by
   by_cases e:j=i
   ·subst e;rw [if_pos rfl,if_pos (by omega)]
   ·rw [if_neg e]
    by_cases e2:j<i
    ·rw [if_pos e2,if_pos (by omega)]
    ·rw [if_neg e2,if_neg (by omega)])
  rw [e];exact ih (i+1) (by omega)
theorem zz70 {n:Nat} {ns:List S70} (h:NdB n ns) (hn:n≤4) (hl:ns.length≤1000) (root:Int) (h0:0≤root) (h1:root<2+(ns.length:Int)):Ev (fun k=>impl_tableOfDiagram.f k n ns root) ((n:Int),ndTab n ns root):=by
 have hp:=pow4 hn
 unfold impl_tableOfDiagram.f;rw [shl1 n (by omega)]
 refine ev_p (by omega) (ev_p (Int.natCast_nonneg _) (ev_p (by rw [Int.toNat_natCast];omega) (Ev.bind (ev_c rfl) ?_)))
 rw [Int.toNat_natCast,rmap_const,rmap_length];have:=zz69 h hn hl root h0 h1 (2 ^ n) 0 (by omega)
 rw [rmap_congr (fun j hj=>by rw [if_neg (by omega)]:∀ j,j<2 ^ n→(if j<0 then ndVal ns j ns.length root else (0:Int))=0)] at this
 exact this
theorem zz71 (sn:List Bool) (q:Nat) (i:Int) (h0:0≤i) (h:i≠(q:Int)) (v:Bool):rdOf false (sn.set q v) i=rdOf false sn i:=by
 unfold rdOf;rw [List.getD_eq_getElem?_getD,List.getD_eq_getElem?_getD,List.getElem?_set_ne (by omega)]
theorem zz72 (sn:List Bool) (q:Nat) (h:q<sn.length) (v:Bool):rdOf false (sn.set q v) (q:Int)=v:=by
 unfold rdOf;rw [List.getD_eq_getElem?_getD,Int.toNat_natCast,List.getElem?_set_self h];rfl
theorem zz73 {ns:List S70} (hd:ndDown ns):∀ (F:Nat) (r:Int) (sn:List Bool) (out:List Int) (B:Nat),r<2+(B:Int)→B≤ns.length→sn.length=ns.length→(∀ i:Nat,i<B→(rdOf false sn (i:Int)=true↔(i:Int)∈out)) →
  (ndVisitS ns F r (sn,out)).2=ndVisit ns F r out∧(∀ i:Nat,i<B→(rdOf false (ndVisitS ns F r (sn,out)).1 (i:Int)=true↔(i:Int)∈ndVisit ns F r out))∧(∀ i:Nat,B≤i→rdOf false (ndVisitS ns F r (sn,out)).1 (i:Int)=rdOf false sn (i:Int))∧(∀ x∈ndVisit ns F r out,x∈out∨(0≤x∧x<(B:Int)))∧(ndVisitS ns F r (sn,out)).1.length=ns.length:=by
 intro F;induction F with
 | zero =>
  intro r sn out B _ _ hl hi;exact ⟨rfl,hi,fun _ _=>rfl,fun x hx => .inl hx,hl⟩
 | succ F ih =>
  intro r sn out B hr hB hl hi;rw [ndVisitS,ndVisit];by_cases h2:r<2
  ·rw [if_pos (Or.inl h2),if_pos (Or.inl h2)]
   exact ⟨rfl,hi,fun _ _=>rfl,fun x hx => .inl hx,hl⟩
  obtain ⟨q,hq⟩:∃ q:Nat,r - 2=(q:Int):=⟨(r - 2).toNat,by omega⟩
  have hqB:q<B:=by omega
  rw [hq];by_cases hs:(q:Int)∈out
  ·rw [if_pos (Or.inr ((hi q hqB).2 hs)),if_pos (Or.inr hs)]
   exact ⟨rfl,hi,fun _ _=>rfl,fun x hx => .inl hx,hl⟩
  have hsn:¬ rdOf false sn (q:Int)=true:=fun e=>hs ((hi q hqB).1 e)
  rw [if_neg (fun e=>e.elim h2 hsn),if_neg (fun e=>e.elim h2 hs)]
  obtain ⟨d1,d2⟩:=hd q (by omega)
  dsimp only;rw [Int.toNat_natCast];show _∧_
  have e0:rd_T70 ns (q:Int)=ns.getD q z70:=rfl
  rw [e0] at d1 d2 ⊢
  have hl1:(sn.set q true).length=ns.length:=by rw [List.length_set];exact hl
  obtain ⟨a1,a2,a3,a4,a5⟩:=ih (ns.getD q z70).f1 (sn.set q true) out q d1 (by omega) hl1 (fun i h=>by rw [zz71 sn q i (by omega) (by omega)];exact hi i (by omega))
  generalize hA:ndVisitS ns F (ns.getD q z70).f1 (sn.set q true,out)=st1 at a1 a2 a3 a5 ⊢
  obtain ⟨sn1,out1⟩:=st1
  dsimp only at a1 a2 a3 a5
  rw [← a1] at a2 a4 ⊢
  obtain ⟨b1,b2,b3,b4,b5⟩:=ih (ns.getD q z70).f2 sn1 out1 q d2 (by omega) a5 a2
  generalize hB2:ndVisitS ns F (ns.getD q z70).f2 (sn1,out1)=st2 at b1 b2 b3 b5 ⊢
  obtain ⟨sn2,out2⟩:=st2
  dsimp only at b1 b2 b3 b5 ⊢
  rw [← b1] at b2 b4 ⊢
  refine ⟨rfl,fun i h=>?_,fun i h=>?_,fun x hx=>?_,b5⟩
  ·by_cases hiq:i<q
   ·rw [b2 i hiq]
    simp only [List.mem_append,List.mem_singleton];exact ⟨fun e => .inl e,fun e=>e.elim id (fun e=>by omega)⟩
   ·by_cases hie:i=q
    ·subst hie
     rw [b3 i (Nat.le_refl _),a3 i (Nat.le_refl _),zz72 sn i (by omega)]
     simp
    ·rw [b3 i (by omega),a3 i (by omega),zz71 sn q i (by omega) (by omega),hi i h]
     simp only [List.mem_append,List.mem_singleton];constructor
     ·intro e
      have h1:=(zz8 ns F (ns.getD q z70).f1 out).subset e
      rw [← a1] at h1;have h3:=(zz8 ns F (ns.getD q z70).f2 out1).subset h1
      rw [← b1] at h3;exact .inl h3
     ·rintro (e | e)
      ·rcases b4 _ e with e | e
       ·rcases a4 _ e with e | e
        ·exact e
        ·omega
       ·omega
      ·omega
  ·rw [b3 i (by omega),a3 i (by omega),zz71 sn q i (by omega) (by omega)]
  ·rcases List.mem_append.1 hx with e | e
   ·rcases b4 _ e with e | e
    ·rcases a4 _ e with e | e
     ·exact .inl e
     ·exact .inr (by omega)
    ·exact .inr (by omega)
   ·rw [List.mem_singleton] at e
    exact .inr (by omega)
theorem zz74 {n:Nat} {ns:List S70} (h:NdB n ns) (a root:Int) (hl:ns.length≤40) (h1:root<2+(ns.length:Int)):Ev (fun k=>impl_visitOrder.f k a ns root) (ndVisit ns ns.length root []):=by
 have hd:ndDown ns:=fun i hi=>⟨(h.low i hi).2,(h.high i hi).2⟩
 unfold impl_visitOrder.f;refine ev_p ⟨hl,h1,hd⟩ (ev_eq (Ev.now _) ?_)
 refine (zz73 hd ns.length root _ [] ns.length h1 (Nat.le_refl _) (List.length_replicate ..) (fun i hi=>?_)).1
 simp [rdOf,List.getD_eq_getElem?_getD,hi]
open Classical in
noncomputable def diagB (a:Int) (ns:List S70) (root:Int):Bool:=decide (diagM a ns root)
open Classical in
theorem zz76 (a:Int) (ns:List S70) (root:Int):diagB a ns root=true↔diagM a ns root:=by
 unfold diagB;exact decide_eq_true_iff
theorem ev_diagB {a:Int} {ns:List S70} {root:Int} {f:Nat→Option Bool} {b:Bool} (h:Ev f b) (e:b=true↔diagM a ns root):Ev f (diagB a ns root):=by
 refine ev_eq h ?_
 rw [Bool.eq_iff_iff,zz76];exact e
theorem zz78 {ns:List S70} (a root:Int) (i:Nat) (r:Int) (hi:i<ns.length) (hl:ns.length≤1000):∃ b:Bool,impl_goodReference.f a ns root (i:Int) r=some b∧(b=true↔ndRef ns i (ns.getD i z70).f0 r):=by
 unfold impl_goodReference.f ndRef;rw [w64 (n:=2+(i:Int)) (by omega) (by omega)]
 by_cases h1:r<0
 ·rw [if_pos h1]
  exact ⟨_,rfl,by simp only [Bool.false_eq_true,false_iff];omega⟩
 rw [if_neg h1];by_cases h2:r≥2+(i:Int)
 ·rw [if_pos h2]
  exact ⟨_,rfl,by simp only [Bool.false_eq_true,false_iff];omega⟩
 rw [if_neg h2];by_cases h3:r<2
 ·rw [if_pos h3]
  exact ⟨_,rfl,by simp only [true_iff];exact ⟨by omega,by omega,fun h=>absurd h (by omega)⟩⟩
 obtain ⟨q,rfl⟩:∃ q:Nat,r=2+(q:Int):=⟨(r - 2).toNat,by omega⟩
 rw [if_neg h3,if_pos (by omega),if_pos (by omega),wN (m:=q) (by omega) (by omega),if_pos (by omega),if_pos (by omega)]
 refine ⟨_,rfl,?_⟩
 rw [decide_eq_true_iff,show (2+(q:Int) - 2).toNat=q by omega]
 exact ⟨fun h=>⟨by omega,by omega,fun _=>h⟩,fun h=>h.2.2 (by omega)⟩
theorem nd_eqb2 (x y:S70):(x.f0 == y.f0 && (x.f1 == y.f1 && (x.f2 == y.f2)))=true↔x=y:=by
 constructor
 ·intro h
  simp only [Bool.and_eq_true,beq_iff_eq] at h;cases x;cases y;simp_all
 ·rintro rfl;simp
theorem zz80 {ns:List S70} (a root:Int) (i:Nat) (hi:i<ns.length) (hl:ns.length≤1000) (x:S70):∀ (d j:Nat),j+d=i →
  ((∀ q,j≤q→q<i→ns.getD q z70≠x)→∀ (R:Bool),Ev (fun k=>impl_IsDiagram.l0 k ns (ns.length:Int) (((i+1:Nat)):Int) a ns root) R→Ev (fun k=>impl_IsDiagram.l1 k i j ns (ns.length:Int) i a ns root x.f0 x.f1 x.f2) R) ∧
  ((∃ q,j≤q∧q<i∧ns.getD q z70=x)→Ev (fun k=>impl_IsDiagram.l1 k i j ns (ns.length:Int) i a ns root x.f0 x.f1 x.f2) false):=by
 intro d;induction d with
 | zero =>
  intro j hj;refine ⟨fun _ R hR=>?_,fun ⟨q,h1,h2,_⟩=>by omega⟩
  apply ev_up;simp only [impl_IsDiagram.l1];rw [wN (n:=(i:Int)+1) (m:=i+1) (by omega) (by omega)]
  exact ev_n (by omega) hR
 | succ d ih =>
  intro j hj;obtain ⟨ih1,ih2⟩:=ih (j+1) (by omega)
  have hstep:∀ R:Bool,ns.getD j z70≠x→Ev (fun k=>impl_IsDiagram.l1 k i ((j+1:Nat):Int) ns (ns.length:Int) i a ns root x.f0 x.f1 x.f2) R→Ev (fun k=>impl_IsDiagram.l1 k i j ns (ns.length:Int) i a ns root x.f0 x.f1 x.f2) R:=fun R hne hR=>by
   apply ev_up;simp only [impl_IsDiagram.l1];refine ev_p (by omega) (ev_p (by omega) (ev_p (by omega) (ev_n ?_ ?_)))
   ·show ¬ ((rd_T70 ns (j:Int)).f0 == x.f0 && ((rd_T70 ns (j:Int)).f1 == x.f1 && ((rd_T70 ns (j:Int)).f2 == x.f2)))=true
    rw [nd_eqb2];exact hne
   ·rw [wN (m:=j+1) (by omega) (by omega)]
    exact hR
  refine ⟨fun h R hR=>hstep R (h j (by omega) (by omega)) (ih1 (fun q h1 h2=>h q (by omega) h2) R hR),fun ⟨q,h1,h2,h3⟩=>?_⟩
  by_cases e:ns.getD j z70=x
  ·apply ev_up
   simp only [impl_IsDiagram.l1];refine ev_p (by omega) (ev_p (by omega) (ev_p (by omega) (ev_p ?_ (Ev.now _))))
   show ((rd_T70 ns (j:Int)).f0 == x.f0 && ((rd_T70 ns (j:Int)).f1 == x.f1 && ((rd_T70 ns (j:Int)).f2 == x.f2)))=true
   rw [nd_eqb2];exact e
  ·exact hstep false e (ih2 ⟨q,Nat.lt_of_le_of_ne h1 (fun hq=>e (by rw [hq];exact h3)),h2,h3⟩)
theorem zz81 (l:List Int) (hl:l.length≤1000):∀ (d i:Nat),i+d=l.length→(∀ q,q<i→rd l (q:Int)=(q:Int))→∃ b:Bool,Ev (fun k=>impl_IsDiagram.l2 k l (l.length:Int) i) b∧(b=true↔∀ q,q<l.length→rd l (q:Int)=(q:Int)):=by
 intro d;induction d with
 | zero =>
  intro i hi hq;refine ⟨true,?_,by simp only [true_iff];exact fun q h=>hq q (by omega)⟩
  apply ev_up;simp only [impl_IsDiagram.l2];exact ev_n (by omega) (Ev.now _)
 | succ d ih =>
  intro i hi hq;by_cases e:(i:Int)=rd l (i:Int)
  ·obtain ⟨b,hb,hbi⟩:=ih (i+1) (by omega) (fun q h=>by
    by_cases hqi:q=i
    ·subst hqi;exact e.symm
    ·exact hq q (by omega))
   refine ⟨b,?_,hbi⟩
   apply ev_up;simp only [impl_IsDiagram.l2];refine ev_p (by omega) (ev_p (by omega) (ev_p (by omega) (ev_p e ?_)))
   rw [wN (m:=i+1) (by omega) (by omega)]
   exact hb
  ·refine ⟨false,?_,by simp only [Bool.false_eq_true,false_iff];exact fun h=>e (h i (by omega)).symm⟩
   apply ev_up;simp only [impl_IsDiagram.l2];exact ev_p (by omega) (ev_p (by omega) (ev_p (by omega) (ev_n e (Ev.now _))))
theorem iota_of {l:List Int} {n:Nat} (hl:l.length=n):(∀ q,q<l.length→rd l (q:Int)=(q:Int))↔l=ndIota n:=by
 subst hl;constructor
 ·intro h
  apply List.ext_getElem?
  intro i;by_cases hi:i<l.length
  ·have h1:=h i hi
   rw [rdN hi] at h1;unfold ndIota;rw [List.getElem?_eq_getElem hi,h1];simp [hi]
  ·rw [List.getElem?_eq_none (by omega),List.getElem?_eq_none (by rw [zz3];omega)]
 ·intro h q hq
  have h2:l[q]?=(ndIota l.length)[q]?:=by rw [← h]
  rw [rdN hq];unfold ndIota at h2;rw [List.getElem?_eq_getElem hq] at h2;simp [hq] at h2
  exact h2
theorem zz83 {n:Nat} {ns:List S70} (hn:n≤4) (hl:ns.length≤40) (root:Int) (h0:0≤root) (h1:root<2+(ns.length:Int)):∀ (d i:Nat),i+d=ns.length →
  (∀ q,q<i→(0≤(ns.getD q z70).f0∧(ns.getD q z70).f0<(n:Int))∧(ns.getD q z70).f1≠(ns.getD q z70).f2∧ndRef ns q (ns.getD q z70).f0 (ns.getD q z70).f1∧ndRef ns q (ns.getD q z70).f0 (ns.getD q z70).f2∧∀ j,j<q→ns.getD j z70≠ns.getD q z70) →
  ∃ b:Bool,Ev (fun k=>impl_IsDiagram.l0 k ns (ns.length:Int) i n ns root) b∧(b=true↔NdB n ns∧ndBuild (ndTab n ns root) n n 0 []=(ns,root)):=by
 have made:NdB n ns∧ndBuild (ndTab n ns root) n n 0 []=(ns,root)→NdOk n ns∧ndVisit ns ns.length root []=ndIota ns.length:=fun ⟨hb,hm⟩=>by
  have h:=zz27 (n:=n) (ndTab n ns root) (rd_bits (zz40 hb root h0 h1)) n 0 [] (Nat.le_refl _) (by simp) (NdOk.nil n)
  rw [hm] at h;exact ⟨h.ok,h.visit ns ns.length (List.prefix_refl _) h.ok (Nat.le_refl _)⟩
 have hno:∀ {f:Nat→Option Bool},Ev f false→¬ NdOk n ns→∃ b:Bool,Ev f b∧(b=true↔NdB n ns∧ndBuild (ndTab n ns root) n n 0 []=(ns,root)):=fun hf hk=>⟨false,hf,by simp only [Bool.false_eq_true,false_iff];exact fun h=>hk (made h).1⟩
 intro d;induction d with
 | zero =>
  intro i hi hq;obtain rfl:i=ns.length:=by omega
  have hk:NdOk n ns:=⟨fun q h=>(hq q h).1,fun q h=>(hq q h).2.1,fun q h=>(hq q h).2.2.1,fun q h=>(hq q h).2.2.2.1,fun p q hpq h=>(hq q h).2.2.2.2 p hpq⟩
  have hv:=zz74 hk.b (n:Int) root hl h1
  have hiff:(NdB n ns∧ndBuild (ndTab n ns root) n n 0 []=(ns,root))↔ndVisit ns ns.length root []=ndIota ns.length:=by
   constructor
   ·exact fun h=>(made h).2
   ·exact fun h=>⟨hk.b,zz26 hk _ ns.length (Nat.le_refl _) root h0 h1 h (fun j hj=>ndTab_rd hj)⟩
  rw [hiff];by_cases hlen:(ndVisit ns ns.length root []).length=ns.length
  ·obtain ⟨b,hb,hbi⟩:=zz81 (ndVisit ns ns.length root []) (by omega) _ 0 (Nat.zero_add _) (fun q h=>by omega)
   refine ⟨b,?_,by rw [hbi];exact iota_of hlen⟩
   apply ev_up;simp only [impl_IsDiagram.l0];exact ev_n (by omega) (Ev.bind hv (ev_p (by omega) hb))
  ·refine ⟨false,?_,by simp only [Bool.false_eq_true,false_iff];exact fun h=>hlen (by rw [h,zz3])⟩
   apply ev_up;simp only [impl_IsDiagram.l0];exact ev_n (by omega) (Ev.bind hv (ev_n (by omega) (Ev.now _)))
 | succ d ih =>
  intro i hi hq;have hin:i<ns.length:=by omega
  have hj2:∀ (f0 f1 f2:Int),Ev (fun k=>impl_IsDiagram.j2 k i ns (ns.length:Int) i true n ns root f0 f1 f2) false:=fun f0 f1 f2=>by
   apply ev_up;simp only [impl_IsDiagram.j2];exact ev_p (by simp) (Ev.now _)
  obtain ⟨b1,e1,hb1⟩:=zz78 (n:Int) root i (ns.getD i z70).f1 hin (by omega)
  obtain ⟨b2,e2,hb2⟩:=zz78 (n:Int) root i (ns.getD i z70).f2 hin (by omega)
  have hgo:∀ R:Bool,(∀ (b:Bool),Ev (fun k=>if (ns.getD i z70).f0<0 then (impl_IsDiagram.j2 k i ns (ns.length:Int) i true n ns root (ns.getD i z70).f0 (ns.getD i z70).f1 (ns.getD i z70).f2) else (if (ns.getD i z70).f0≥(n:Int) then (impl_IsDiagram.j2 k i ns (ns.length:Int) i true n ns root (ns.getD i z70).f0 (ns.getD i z70).f1 (ns.getD i z70).f2) else (if (ns.getD i z70).f1=(ns.getD i z70).f2 then (impl_IsDiagram.j2 k i ns (ns.length:Int) i true n ns root (ns.getD i z70).f0 (ns.getD i z70).f1 (ns.getD i z70).f2) else ((impl_goodReference.f n ns root i (ns.getD i z70).f1).bind fun t228=>(if t228=true then ((impl_goodReference.f n ns root i (ns.getD i z70).f2).bind fun t229=>(impl_IsDiagram.j2 k i ns (ns.length:Int) i (!t229) n ns root (ns.getD i z70).f0 (ns.getD i z70).f1 (ns.getD i z70).f2)) else (impl_IsDiagram.j2 k i ns (ns.length:Int) i true n ns root (ns.getD i z70).f0 (ns.getD i z70).f1 (ns.getD i z70).f2)))))) b→b=R→Ev (fun k=>impl_IsDiagram.l0 k ns (ns.length:Int) i n ns root) R):=fun R b h hb=>by
   subst hb;apply ev_up;simp only [impl_IsDiagram.l0];exact ev_p (by omega) (ev_p (by omega) (ev_p (by omega) h))
  by_cases c1:(ns.getD i z70).f0<0
  ·exact hno (hgo false false (ev_p c1 (hj2 _ _ _)) rfl) (fun h=>by have:=(h.inp i hin).1;omega)
  by_cases c2:(ns.getD i z70).f0≥(n:Int)
  ·exact hno (hgo false false (ev_n c1 (ev_p c2 (hj2 _ _ _))) rfl) (fun h=>by have:=(h.inp i hin).2;omega)
  by_cases c3:(ns.getD i z70).f1=(ns.getD i z70).f2
  ·exact hno (hgo false false (ev_n c1 (ev_n c2 (ev_p c3 (hj2 _ _ _)))) rfl) (fun h=>h.ne i hin c3)
  cases b1 with
  | false=>exact hno (hgo false false (ev_n c1 (ev_n c2 (ev_n c3 (Ev.bind (ev_c e1) (ev_n (by simp) (hj2 _ _ _)))))) rfl) (fun h=>absurd (hb1.2 (h.low i hin)) (by simp))
  | true =>
   cases b2 with
   | false=>exact hno (hgo false false (ev_n c1 (ev_n c2 (ev_n c3 (Ev.bind (ev_c e1) (ev_p rfl (Ev.bind (ev_c e2) (hj2 _ _ _))))))) rfl) (fun h=>absurd (hb2.2 (h.high i hin)) (by simp))
   | true =>
    obtain ⟨hyes,hsame⟩:=zz80 (n:Int) root i hin (by omega) (ns.getD i z70) i 0 (by omega)
    have hstep:∀ R:Bool,Ev (fun k=>impl_IsDiagram.l1 k i ((0:Nat):Int) ns (ns.length:Int) i n ns root (ns.getD i z70).f0 (ns.getD i z70).f1 (ns.getD i z70).f2) R→Ev (fun k=>impl_IsDiagram.l0 k ns (ns.length:Int) i n ns root) R:=fun R hR=>by
     refine hgo R R (ev_n c1 (ev_n c2 (ev_n c3 (Ev.bind (ev_c e1) (ev_p rfl (Ev.bind (ev_c e2) ?_)))))) rfl
     apply ev_up;simp only [impl_IsDiagram.j2];exact ev_n (by simp) hR
    by_cases hex:∃ q,0≤q∧q<i∧ns.getD q z70=ns.getD i z70
    ·obtain ⟨q,_,hq2,hq3⟩:=hex
     exact hno (hstep false (hsame ⟨q,Nat.zero_le _,hq2,hq3⟩)) (fun h=>h.one q i hq2 hin hq3)
    ·obtain ⟨b,hb,hbi⟩:=ih (i+1) (by omega) (fun q h=>by
      by_cases e:q=i
      ·subst e
       exact ⟨⟨by omega,by omega⟩,c3,hb1.1 rfl,hb2.1 rfl,fun j hj hje=>hex ⟨j,Nat.zero_le _,hj,hje⟩⟩
      ·exact hq q (by omega))
     exact ⟨b,hstep b (hyes (fun q _ h2 h3=>hex ⟨q,Nat.zero_le _,h2,h3⟩) b hb),hbi⟩
theorem zz84 (a:Int) (ns:List S70) (root:Int) (hl:ns.length≤9223372036854775806):Ev (fun k=>impl_IsDiagram.f k a ns root) (diagB a ns root):=by
 have hj:¬ diagM a ns root→Ev (fun k=>impl_IsDiagram.j0 k true a ns root) (diagB a ns root):=fun h=>by
  apply ev_up;simp only [impl_IsDiagram.j0];exact ev_p (by simp) (ev_diagB (Ev.now false) (by simp only [Bool.false_eq_true,false_iff];exact h))
 unfold impl_IsDiagram.f;refine ev_ite (fun c=>hj (fun hd=>by have:=hd.1;omega)) (fun c1=>ev_ite (fun c=>hj (fun hd=>by have:=hd.2.1;omega)) (fun c2=>ev_ite (fun c=>hj (fun hd=>by have:=hd.2.2.1;omega)) (fun c3=>ev_ite (fun c=>hj (fun hd=>by have:=hd.2.2.2.1;omega)) (fun c4=>?_))))
 obtain ⟨n,rfl⟩:=nat_of (show 0≤a by omega)
 rw [w64 (by omega) (by omega)]
 by_cases c5:root>1+(ns.length:Int)
 ·rw [decide_eq_true c5]
  exact hj (fun hd=>by have:=hd.2.2.2.2.1;omega)
 ·rw [decide_eq_false c5]
  obtain ⟨b,hb,hbi⟩:=zz83 (n:=n) (ns:=ns) (by omega) (by omega) root (by omega) (by omega) ns.length 0 (by omega) (fun q h=>by omega)
  apply ev_up;simp only [impl_IsDiagram.j0];refine ev_diagB (ev_n (by simp) hb) ?_
  rw [hbi];unfold diagM;rw [Int.toNat_natCast];exact ⟨fun h=>⟨by omega,by omega,by omega,by omega,by omega,h.1,h.2⟩,fun h=>⟨h.2.2.2.2.2.1,h.2.2.2.2.2.2⟩⟩
theorem zz85 {n:Nat} {ns:List S70} (hn:n≤4) (hl:ns.length≤40) (root:Int) (h0:0≤root) (h1:root<2+(ns.length:Int)):∀ (d i:Nat),i+d=ns.length →
  (∀ q,q<i→(0≤(ns.getD q z70).f0∧(ns.getD q z70).f0<(n:Int))∧(0≤(ns.getD q z70).f1∧(ns.getD q z70).f1<2+(q:Int))∧(0≤(ns.getD q z70).f2∧(ns.getD q z70).f2<2+(q:Int))) →
  ∃ b:Bool,Ev (fun k=>spec_ddGood.l0 k ns (ns.length:Int) i n ns root) b∧(b=true↔NdB n ns∧ndBuild (ndTab n ns root) n n 0 []=(ns,root)):=by
 intro d;induction d with
 | zero =>
  intro i hi hq;obtain rfl:i=ns.length:=by omega
  have hb:NdB n ns:=⟨fun q h=>(hq q h).1,fun q h=>(hq q h).2.1,fun q h=>(hq q h).2.2⟩
  have hm:=zz27 (n:=n) (ndTab n ns root) (rd_bits (zz40 hb root h0 h1)) n 0 [] (Nat.le_refl _) (by simp) (NdOk.nil n)
  have hlen:=hm.len
  have hp:=pow4 hn
  simp only [List.length_nil] at hlen;refine ⟨decide (ndBuild (ndTab n ns root) n n 0 []=(ns,root)),?_,by rw [decide_eq_true_iff];exact ⟨fun h=>⟨hb,h⟩,fun h=>h.2⟩⟩
  apply ev_up;simp only [spec_ddGood.l0];refine ev_n (by omega) (Ev.bind (zz39 hb hn (by omega) root h0 h1) (Ev.bind (zz43 n hn _ (zz35 _ _ _)) (Ev.bind (zz47 n root ns _ _ (by omega) (by dsimp only;omega)) (Ev.now _))))
 | succ d ih =>
  intro i hi hq;by_cases hok:(0≤(ns.getD i z70).f0∧(ns.getD i z70).f0<(n:Int))∧(0≤(ns.getD i z70).f1∧(ns.getD i z70).f1<2+(i:Int))∧(0≤(ns.getD i z70).f2∧(ns.getD i z70).f2<2+(i:Int))
  ·obtain ⟨b,hb,hbi⟩:=ih (i+1) (by omega) (fun q h=>by
    by_cases e:q=i
    ·subst e;exact hok
    ·exact hq q (by omega))
   refine ⟨b,?_,hbi⟩
   apply ev_up;simp only [spec_ddGood.l0];refine ev_p (by omega) (ev_p (by omega) (ev_p (by omega) ?_))
   rw [rdNd,l1In_eqD,l1In_eqD,l1In_eqD,w64 (n:=(n:Int) - 1) (by omega) (by omega),wN (m:=i+1) (by omega) (by omega)]
   obtain ⟨⟨a0,a1⟩,⟨b0,b1⟩,⟨c0,c1⟩⟩:=hok
   refine Ev.bind (ev_c rfl) (ev_p (decide_eq_true ⟨a0,by omega⟩) (Ev.bind (ev_c rfl) (ev_p (decide_eq_true ⟨b0,by omega⟩) (Ev.bind (ev_c rfl) (ev_p (decide_eq_true ⟨c0,by omega⟩) ?_)))))
   exact hb
  ·refine ⟨false,?_,by
    simp only [Bool.false_eq_true,false_iff];rintro ⟨hb,_⟩
    exact hok ⟨hb.inp i (by omega),hb.low i (by omega),hb.high i (by omega)⟩⟩
   apply ev_up;simp only [spec_ddGood.l0];refine ev_p (by omega) (ev_p (by omega) (ev_p (by omega) ?_))
   rw [rdNd,l1In_eqD,l1In_eqD,l1In_eqD,w64 (n:=(n:Int) - 1) (by omega) (by omega),wN (m:=i+1) (by omega) (by omega)]
   refine Ev.bind (ev_c rfl) (ev_ite (fun ha=>Ev.bind (ev_c rfl) (ev_ite (fun hb=>Ev.bind (ev_c rfl) (ev_ite (fun hc=>?_) (fun _=>Ev.now _))) (fun _=>Ev.now _))) (fun _=>Ev.now _))
   have ha:=of_decide_eq_true ha
   have hb:=of_decide_eq_true hb
   have hc:=of_decide_eq_true hc
   exact absurd ⟨⟨ha.1,by omega⟩,⟨hb.1,by omega⟩,⟨hc.1,by omega⟩⟩ hok
theorem zz86 (a:Int) (ns:List S70) (root:Int) (hl:ns.length≤9223372036854775806):Ev (fun k=>spec_ddGood.f k a ns root) (diagB a ns root):=by
 have hno:¬ diagM a ns root→Ev (fun _=>some false) (diagB a ns root):=fun h=>ev_diagB (Ev.now false) (by simp only [Bool.false_eq_true,false_iff];exact h)
 have hj:¬ diagM a ns root→Ev (fun k=>spec_ddGood.j0 k true a ns root) (diagB a ns root):=fun h=>by
  apply ev_up;simp only [spec_ddGood.j0];exact hno h
 unfold spec_ddGood.f;rw [zz52];refine Ev.bind (ev_c rfl) (ev_ite (fun h=>?_) (fun h=>?_))
 ·have h':=of_decide_eq_true h
  obtain ⟨n,rfl⟩:=nat_of h'.1
  refine ev_ite (fun h2=>hj (fun hd=>by have:=hd.2.2.1;omega)) (fun h2=>?_)
  rw [l1In_eqD,w64 (by omega) (by omega)]
  refine Ev.bind (ev_c rfl) ?_
  by_cases hr:0≤root∧root≤(ns.length:Int)+1
  ·rw [decide_eq_true hr]
   obtain ⟨b,hb,hbi⟩:=zz85 (n:=n) (ns:=ns) (by omega) (by omega) root hr.1 (by omega) ns.length 0 (by omega) (fun q h=>by omega)
   apply ev_up;simp only [spec_ddGood.j0];refine ev_diagB (ev_n (by decide) hb) ?_
   rw [hbi];unfold diagM;rw [Int.toNat_natCast];exact ⟨fun h=>⟨by omega,by omega,by omega,by omega,by omega,h.1,h.2⟩,fun h=>⟨h.2.2.2.2.2.1,h.2.2.2.2.2.2⟩⟩
  ·rw [decide_eq_false hr]
   exact hj (fun hd=>hr ⟨hd.2.2.2.1,by have:=hd.2.2.2.2.1;omega⟩)
 ·exact hj (fun hd=>h (decide_eq_true ⟨hd.1,hd.2.1⟩))
theorem zz87 {n:Nat} {ns:List S70} {root:Int} (hn:n≤4) (h:NdB n ns) (h0:0≤root) (h1:root<2+(ns.length:Int)):tableM (n:Int) (ndTab n ns root)=true:=by
 unfold tableM;rw [Bool.and_eq_true,decide_eq_true_iff,List.all_eq_true];exact ⟨⟨by omega,by omega,by rw [Int.toNat_natCast];exact zz35 _ _ _⟩,fun x hx=>decide_eq_true (zz40 h root h0 h1 x hx)⟩
theorem zz88 (l:List S70) (x:S70):(ndNode l x).1.length≤l.length+1:=by
 unfold ndNode;split
 ·dsimp only;omega
 ·split
  ·dsimp only;omega
  ·simp
theorem zz89 (vs:List Int) (n:Nat):∀ (d idx:Nat) (ns:List S70),(ndBuild vs n d idx ns).1.length+1≤ns.length+2 ^ d:=by
 intro d;induction d with
 | zero =>
  intro idx ns;rw [ndBuild];simp
 | succ d ih =>
  intro idx ns;rw [ndBuild,Nat.pow_succ];have h1:=ih idx ns
  have h2:=ih (idx+2 ^ (n - (d+1))) (ndBuild vs n d idx ns).1
  have h4:=zz88 (ndBuild vs n d (idx+2 ^ (n - (d+1))) (ndBuild vs n d idx ns).1).1 ⟨((n - (d+1):Nat):Int),(ndBuild vs n d idx ns).2,(ndBuild vs n d (idx+2 ^ (n - (d+1))) (ndBuild vs n d idx ns).1).2⟩
  omega
theorem zz90 (vs:List Int) {n:Nat} (hn:n≤4):(ndBuild vs n n 0 []).1.length≤15:=by
 have hl:=zz89 vs n n 0 []
 have hp:=pow4 hn
 simp only [List.length_nil] at hl;omega
theorem diag_evs {a:Int} {ns:List S70} {root:Int} (c:diagM a ns root):∃ n:Nat,a=n∧n≤4∧NdB n ns∧tableM (n:Int) (ndTab n ns root)=true∧(ndTab n ns root).length=2 ^ n∧Ev (fun k=>spec_ddGood.f k a ns root) true∧Ev (fun k=>impl_IsDiagram.f k a ns root) true∧Ev (fun k=>spec_ddTable.f k a ns root) ((n:Int),ndTab n ns root)∧Ev (fun k=>impl_tableOfDiagram.f k a ns root) ((n:Int),ndTab n ns root):=by
 have b1:=(zz76 a ns root).2 c
 have hl:ns.length≤9223372036854775806:=by have:=c.2.2.1;omega
 have d1:=zz86 a ns root hl
 have d3:=zz84 a ns root hl
 rw [b1] at d1 d3;obtain ⟨a0,a4,al,r0,r1,hb1,_⟩:=c
 obtain ⟨n,rfl⟩:=nat_of a0
 rw [Int.toNat_natCast] at hb1;exact ⟨n,rfl,by omega,hb1,zz87 (by omega) hb1 r0 r1,zz35 n ns root,d1,d3,zz39 hb1 (by omega) (by omega) root r0 r1,zz70 hb1 (by omega) (by omega) root r0 r1⟩
theorem diag_no {a:Int} {ns:List S70} {root:Int} (hl:ns.length≤9223372036854775806) (c:¬ diagM a ns root):Ev (fun k=>spec_ddGood.f k a ns root) false∧Ev (fun k=>impl_IsDiagram.f k a ns root) false:=by
 have b1:diagB a ns root=false:=by rw [Bool.eq_false_iff];exact fun h=>c ((zz76 _ _ _).1 h)
 have d1:=zz86 a ns root hl
 have d3:=zz84 a ns root hl
 rw [b1] at d1 d3;exact ⟨d1,d3⟩
theorem zz93 {n:Nat} (hn:n≤4) {vs:List Int} (hv:vs.length=2 ^ n) (hb:∀ x∈vs,0≤x∧x≤1):diagM (n:Int) (ndBuild vs n n 0 []).1 (ndBuild vs n n 0 []).2∧ndTab n (ndBuild vs n n 0 []).1 (ndBuild vs n n 0 []).2=vs:=by
 have hm:=zz27 (n:=n) vs (rd_bits hb) n 0 [] (Nat.le_refl _) (by simp) (NdOk.nil n)
 have h15:=zz90 vs hn
 have ht:ndTab n (ndBuild vs n n 0 []).1 (ndBuild vs n n 0 []).2=vs:=by
  apply List.ext_getElem
  ·rw [zz35,hv]
  ·intro j h1 h2
   have hj:j<2 ^ n:=by rw [zz35] at h1;exact h1
   have e1:=hm.val _ _ (List.prefix_refl _) hm.ok (Nat.le_refl _) j hj
   rw [Nat.sub_self,Nat.pow_zero,Nat.one_mul,Nat.zero_add] at e1;have e2:=ndTab_rd (ns:=(ndBuild vs n n 0 []).1) (root:=(ndBuild vs n n 0 []).2) hj
   rw [rdN (by rw [zz35];exact hj)] at e2
   rw [e2,e1,rdN h2]
 refine ⟨⟨by omega,by omega,by omega,hm.r0,hm.r1,by rw [Int.toNat_natCast];exact hm.ok.b,?_⟩,ht⟩
 rw [Int.toNat_natCast,ht]
theorem zz94 {a:Int} {ns:List S70} {root:Int} (c:diagM a ns root):Ev (fun k=>impl_TableOf.f k a ns root) (a,ndTab a.toNat ns root,true):=by
 obtain ⟨n,rfl,hn,hb1,m1,l1,d1,d3,t1,t3⟩:=diag_evs c
 unfold impl_TableOf.f;rw [Int.toNat_natCast];exact Ev.bind d3 (ev_p rfl (Ev.bind t3 (Ev.now _)))
theorem zz95 {n:Nat} {vs:List Int} (h:tableM (n:Int) vs=true):Ev (fun k=>impl_DiagramOf.f k n vs) ((n:Int),(ndBuild vs n n 0 []).1,(ndBuild vs n n 0 []).2,true):=by
 obtain ⟨n',e,hn,h1,h2,h3⟩:=zz54 h
 obtain rfl:n=n':=by omega
 have e1:=zz57 (n:Int) vs (by omega)
 rw [h] at e1;unfold impl_DiagramOf.f;exact Ev.bind e1 (ev_p rfl (Ev.bind (zz44 n hn vs h1) (Ev.now _)))
theorem zz96 (a root b root2:Int) (ns:List S70) (hl:ns.length≤1000):∀ (d i:Nat),i+d=ns.length→Ev (fun k=>laws_pSameDiagram.l0 k (ns.length:Int) i a ns root b ns root2) true:=by
 intro d;induction d with
 | zero =>
  intro i hi;apply ev_up;simp only [laws_pSameDiagram.l0];exact ev_n (by omega) (Ev.now _)
 | succ d ih =>
  intro i hi;apply ev_up;simp only [laws_pSameDiagram.l0];refine ev_p (by omega) (ev_p (by omega) (ev_p (by omega) (ev_p (by omega) (ev_n (by simp) ?_))))
  rw [w64 (n:=(i:Int)+1) (by omega) (by omega)]
  exact_mod_cast ih (i+1) (by omega)
theorem pSameD (a root:Int) (ns:List S70) (hl:ns.length≤1000):Ev (fun k=>laws_pSameDiagram.f k a ns root a ns root) true:=by
 unfold laws_pSameDiagram.f;refine ev_p rfl (ev_p rfl ?_)
 apply ev_up;simp only [laws_pSameDiagram.j0];exact ev_n (by simp) (zz96 a root a root ns hl ns.length 0 (by omega))
def cD (f:Nat→Int) (n:Nat):Nat→Nat→Int
 | 0,idx=>f idx
 | d+1,idx=>cD f n d idx+cD f n d (idx+2 ^ (n - (d+1)))
theorem cD_congr (f g:Nat→Int) {n:Nat}:∀ (d idx:Nat),d≤n→(∀ j,j<2 ^ d→f (idx+2 ^ (n - d) * j)=g (idx+2 ^ (n - d) * j))→cD f n d idx=cD g n d idx:=by
 intro d;induction d with
 | zero =>
  intro idx _ h;have:=h 0 (by simp)
  simpa [cD] using this
 | succ d ih =>
  intro idx hd h;have hp:=nd_pow hd
  rw [cD,cD,ih idx (by omega),ih _ (by omega)]
  ·intro j hj
   have:=h (2 * j+1) (by rw [Nat.pow_succ];omega)
   have e:idx+2 ^ (n - (d+1)) * (2 * j+1)=idx+2 ^ (n - (d+1))+2 ^ (n - d) * j:=by
    rw [hp,Nat.mul_add,Nat.mul_one,Nat.add_mul,← Nat.mul_assoc,Nat.mul_comm _ 2,Nat.mul_assoc];omega
   rw [e] at this;exact this
  ·intro j hj
   have:=h (2 * j) (by rw [Nat.pow_succ];omega)
   have e:idx+2 ^ (n - (d+1)) * (2 * j)=idx+2 ^ (n - d) * j:=by
    rw [hp,Nat.add_mul,← Nat.mul_assoc,Nat.mul_comm _ 2,Nat.mul_assoc];omega
   rw [e] at this;exact this
theorem cD_bd (f:Nat→Int) {n:Nat} (hf:∀ x,0≤f x∧f x≤1):∀ (d idx:Nat),0≤cD f n d idx∧cD f n d idx≤((2 ^ d:Nat):Int):=by
 intro d;induction d with
 | zero=>intro idx;have:=hf idx;simpa [cD] using this
 | succ d ih =>
  intro idx;have h1:=ih idx
  have h2:=ih (idx+2 ^ (n - (d+1)))
  rw [cD,Nat.pow_succ];omega
def ndWays (ns:List S70):Nat→Int→Int
 | 0,r=>r
 | F+1,r=>if r<2 then r else ndWays ns F (ns.getD (r - 2).toNat z70).f1+ndWays ns F (ns.getD (r - 2).toNat z70).f2
theorem zz102 {n:Nat} {ns:List S70} (h:NdB n ns):∀ (F G:Nat) (r:Int),r<2+(ns.length:Int)→r<(F:Int)+2→r<(G:Int)+2→ndWays ns F r=ndWays ns G r:=by
 intro F;induction F with
 | zero =>
  intro G r hr hF hG;cases G with
  | zero=>rfl
  | succ G=>rw [ndWays,ndWays,if_pos (by omega)]
 | succ F ih =>
  intro G r hr hF hG;cases G with
  | zero=>rw [ndWays,ndWays,if_pos (by omega)]
  | succ G =>
   rw [ndWays,ndWays];by_cases c:r<2
   ·rw [if_pos c,if_pos c]
   ·rw [if_neg c,if_neg c]
    have hl:=(h.low (r - 2).toNat (by omega)).2
    have hh:=(h.high (r - 2).toNat (by omega)).2
    rw [ih G _ (by omega) (by omega) (by omega),ih G _ (by omega) (by omega) (by omega)]
theorem zz103 (ns:List S70) (F:Nat) (r:Int) (h:r<2):ndWays ns F r=r:=by
 cases F with
 | zero=>rfl
 | succ F=>rw [ndWays,if_pos h]
theorem zz104 {n:Nat} {ns:List S70} (h:NdB n ns) {F:Nat} (hF:ns.length≤F) {q:Nat} (hq:q<ns.length):ndWays ns F (2+(q:Int))=ndWays ns F (ns.getD q z70).f1+ndWays ns F (ns.getD q z70).f2:=by
 have hl:=(h.low q hq).2
 have hh:=(h.high q hq).2
 rw [zz102 h F (F+1) (2+(q:Int)) (by omega) (by omega) (by omega),ndWays,if_neg (by omega),show (2+(q:Int) - 2).toNat=q by omega]
theorem zz105 {n:Nat} {ns:List S70} (h:NdOk n ns) {F:Nat} (hF:ns.length≤F):∀ (d idx:Nat) (r:Int),d≤n→idx<2 ^ (n - d)→0≤r→r<2+(ns.length:Int)→(2≤r→((n - d:Nat):Int)≤(ns.getD (r - 2).toNat z70).f0) →
  0≤ndWays ns F r∧ndWays ns F r≤cD (fun x=>ndVal ns x F r) n d idx∧(ndWays ns F r=0↔cD (fun x=>ndVal ns x F r) n d idx=0):=by
 intro d;induction d with
 | zero =>
  intro idx r _ _ h0 hr hin;have hr2:r<2:=by
   by_cases h2:r<2
   ·exact h2
   ·have:=hin (by omega)
    have:=(h.inp (r - 2).toNat (by omega)).2
    omega
  rw [cD,zz103 _ _ _ hr2,zz31 _ _ _ _ hr2];exact ⟨h0,Int.le_refl _,Iff.rfl⟩
 | succ d ih =>
  intro idx r hd hidx h0 hr hin;have hpw:=nd_pow hd
  have hi2:idx<2 ^ (n - d):=by omega
  have hi3:idx+2 ^ (n - (d+1))<2 ^ (n - d):=by omega
  rw [cD];by_cases hlev:2≤r∧(ns.getD (r - 2).toNat z70).f0=((n - (d+1):Nat):Int)
  ·obtain ⟨hr2,hf⟩:=hlev
   obtain ⟨q,rfl⟩:∃ q:Nat,r=2+(q:Int):=⟨(r - 2).toNat,by omega⟩
   have hq:q<ns.length:=by omega
   rw [show (2+(q:Int) - 2).toNat=q by omega] at hf
   have hlo:=h.low q hq
   have hhi:=h.high q hq
   unfold ndRef at hlo hhi;have a1:=ih idx (ns.getD q z70).f1 (by omega) hi2 hlo.1 (by omega) (fun h2=>by have:=hlo.2.2 h2;omega)
   have a2:=ih (idx+2 ^ (n - (d+1))) (ns.getD q z70).f2 (by omega) hi3 hhi.1 (by omega) (fun h2=>by have:=hhi.2.2 h2;omega)
   have e1:cD (fun x=>ndVal ns x F (2+(q:Int))) n d idx=cD (fun x=>ndVal ns x F (ns.getD q z70).f1) n d idx:=cD_congr _ _ d idx (by omega) (fun j hj=>by
    have hb:=nd_bit0 hd hidx j
    show ndVal ns (idx+2 ^ (n - d) * j) F (2+(q:Int))=_
    rw [zz24 h.b hF hq,hf,Int.toNat_natCast,hb,if_neg (by decide)])
   have e2:cD (fun x=>ndVal ns x F (2+(q:Int))) n d (idx+2 ^ (n - (d+1)))=cD (fun x=>ndVal ns x F (ns.getD q z70).f2) n d (idx+2 ^ (n - (d+1))):=cD_congr _ _ d _ (by omega) (fun j hj=>by
    have hb:=nd_bit1 hd hidx j
    show ndVal ns (idx+2 ^ (n - (d+1))+2 ^ (n - d) * j) F (2+(q:Int))=_
    rw [zz24 h.b hF hq,hf,Int.toNat_natCast,hb,if_pos rfl])
   rw [e1,e2,zz104 h.b hF hq];omega
  ·have hin':2≤r→((n - d:Nat):Int)≤(ns.getD (r - 2).toNat z70).f0:=fun h2=>by
    have:=hin h2
    have:¬ (ns.getD (r - 2).toNat z70).f0=((n - (d+1):Nat):Int):=fun e=>hlev ⟨h2,e⟩
    omega
   have a1:=ih idx r (by omega) hi2 h0 hr hin'
   have a2:=ih (idx+2 ^ (n - (d+1))) r (by omega) hi3 h0 hr hin'
   omega
theorem zz106 {n:Nat} {ns:List S70} (h:NdOk n ns) (k:Nat) {x y:Nat} (hxy:∀ b,k≤b→(x >>> b) % 2=(y >>> b) % 2):∀ (F:Nat) (r:Int),r<2+(ns.length:Int)→(2≤r→(k:Int)≤(ns.getD (r - 2).toNat z70).f0)→ndVal ns x F r=ndVal ns y F r:=by
 intro F;induction F with
 | zero=>intro r _ _;rfl
 | succ F ih =>
  intro r hr hk;rw [ndVal,ndVal];by_cases c:r<2
  ·rw [if_pos c,if_pos c]
  ·rw [if_neg c,if_neg c]
   have hq:(r - 2).toNat<ns.length:=by omega
   have hlo:=h.low _ hq
   have hhi:=h.high _ hq
   unfold ndRef at hlo hhi;have hk2:=hk (by omega)
   rw [hxy _ (by omega)]
   split
   ·exact ih _ (by omega) (fun h2=>by have:=hhi.2.2 h2;omega)
   ·exact ih _ (by omega) (fun h2=>by have:=hlo.2.2 h2;omega)
theorem zz107 {n:Nat} {ns:List S70} (h:NdB n ns) (i:Nat) (hno:∀ q,q<ns.length→(ns.getD q z70).f0≠(i:Int)) {x y:Nat} (hxy:∀ b,b≠i→(x >>> b) % 2=(y >>> b) % 2):∀ (F:Nat) (r:Int),r<2+(ns.length:Int)→ndVal ns x F r=ndVal ns y F r:=by
 intro F;induction F with
 | zero=>intro r _;rfl
 | succ F ih =>
  intro r hr;rw [ndVal,ndVal];by_cases c:r<2
  ·rw [if_pos c,if_pos c]
  ·rw [if_neg c,if_neg c]
   have hq:(r - 2).toNat<ns.length:=by omega
   have hi:=(h.inp _ hq).1
   have hne:=hno _ hq
   have hlo:=(h.low _ hq).2
   have hhi:=(h.high _ hq).2
   rw [hxy _ (by omega)]
   split
   ·exact ih _ (by omega)
   ·exact ih _ (by omega)
theorem xor_add:∀ x,x<16→∀ i,i<4→(x >>> i) % 2=0→x ^^^ 2 ^ i=x+2 ^ i:=by decide +kernel
theorem xor_bits:∀ x,x<16→∀ i,i<4→∀ b,b<4→b≠i→(x >>> b) % 2=((x ^^^ 2 ^ i) >>> b) % 2:=by decide +kernel
theorem zz110 {n:Nat} (hn:n≤4) (vs:List Int) (hvs:∀ i,0≤rd vs ((i:Nat):Int)∧rd vs ((i:Nat):Int)≤1):∀ (d idx:Nat) (ns:List S70),d≤n→idx<2 ^ (n - d)→NdOk n ns →
  ∀ q,ns.length≤q→q<(ndBuild vs n d idx ns).1.length→∃ x,x<2 ^ n∧∃ i:Nat,i<n∧((ndBuild vs n d idx ns).1.getD q z70).f0=(i:Int)∧(x >>> i) % 2=0∧rd vs ((x:Nat):Int)≠rd vs ((x+2 ^ i:Nat):Int):=by
 intro d;induction d with
 | zero =>
  intro idx ns _ _ _ q h1 h2;rw [ndBuild] at h2;exact absurd h2 (by dsimp only;omega)
 | succ d ih =>
  intro idx ns hd hidx h q h1 h2;have hpw:=nd_pow hd
  have hi2:idx<2 ^ (n - d):=by omega
  have hi3:idx+2 ^ (n - (d+1))<2 ^ (n - d):=by omega
  have m1:=zz27 vs hvs d idx ns (by omega) hi2 h
  have m2:=zz27 vs hvs d (idx+2 ^ (n - (d+1))) (ndBuild vs n d idx ns).1 (by omega) hi3 m1.ok
  have u1:=ih idx ns (by omega) hi2 h
  have u2:=ih (idx+2 ^ (n - (d+1))) (ndBuild vs n d idx ns).1 (by omega) hi3 m1.ok
  rw [ndBuild] at h2 ⊢
  have hof:=fun (hv:∀ j,j<2 ^ d→rd vs ((idx+2 ^ (n - (d+1))+2 ^ (n - d) * j:Nat):Int)=ndVal (ndBuild vs n d idx ns).1 (idx+2 ^ (n - (d+1))+2 ^ (n - d) * j) (ndBuild vs n d idx ns).1.length (ndBuild vs n d idx ns).2) =>
   zz25 m1.ok vs (ndBuild vs n d idx ns).1.length (Nat.le_refl _) d (idx+2 ^ (n - (d+1))) (ndBuild vs n d idx ns).2 (ndBuild vs n d idx ns).1.length (ndBuild vs n d idx ns).1.length (by omega) hi3 m1.r0 m1.r1 m1.inp (Nat.le_refl _) (Nat.le_refl _) (zz9 _ _ _ _ m1.r1) hv
  have hval1:=m1.val (ndBuild vs n d idx ns).1 (ndBuild vs n d idx ns).1.length (List.prefix_refl _) m1.ok (Nat.le_refl _)
  have hpre2:=m2.pre
  have hr1:=m1.r1
  have hinp1:=m1.inp
  have hok1:=m1.ok
  clear m1 m2 ih
  generalize ndBuild vs n d idx ns=p1 at *
  generalize hp2:ndBuild vs n d (idx+2 ^ (n - (d+1))) p1.1=p2 at *
  have old:q<p2.1.length→∃ x,x<2 ^ n∧∃ i:Nat,i<n∧(p2.1.getD q z70).f0=(i:Int)∧(x >>> i) % 2=0∧rd vs ((x:Nat):Int)≠rd vs ((x+2 ^ i:Nat):Int):=fun hq2=>by
   by_cases c:q<p1.1.length
   ·have:=u1 q h1 c
    rw [zz13 hpre2 q c];exact this
   ·exact u2 q (by omega) hq2
  unfold ndNode at h2 ⊢
  split at h2
  ·rename_i c
   rw [if_pos c];exact old h2
  ·rename_i c
   rw [if_neg c];split at h2
   ·rename_i c2
    rw [if_pos c2];exact old h2
   ·rename_i c2
    rw [if_neg c2];by_cases hq2:q<p2.1.length
    ·have:=old hq2
     rw [show (p2.1 ++ [(⟨((n - (d+1):Nat):Int),p1.2,p2.2⟩:S70)]).getD q z70=p2.1.getD q z70 by rw [List.getD_eq_getElem?_getD,List.getD_eq_getElem?_getD,List.getElem?_append_left hq2]]
     exact this
    ·have hql:q=p2.1.length:=by
      simp only [List.length_append,List.length_singleton] at h2;omega
     subst hql;have hg:(p2.1 ++ [(⟨((n - (d+1):Nat):Int),p1.2,p2.2⟩:S70)]).getD p2.1.length z70=⟨((n - (d+1):Nat):Int),p1.2,p2.2⟩:=by simp [List.getD_eq_getElem?_getD]
     dsimp only;rw [hg];refine Classical.byContradiction fun hno=>c ?_
     have heq:∀ j,j<2 ^ d→rd vs ((idx+2 ^ (n - (d+1))+2 ^ (n - d) * j:Nat):Int)=ndVal p1.1 (idx+2 ^ (n - (d+1))+2 ^ (n - d) * j) p1.1.length p1.2:=fun j hj=>by
      have hb0:=nd_bit0 hd hidx j
      have hx:idx+2 ^ (n - d) * j<2 ^ n:=by
       have e:2 ^ n=2 ^ (n - d) * 2 ^ d:=by rw [← Nat.pow_add];congr 1;omega
       have:2 ^ (n - d) * (j+1)≤2 ^ (n - d) * 2 ^ d:=Nat.mul_le_mul_left _ (by omega)
       rw [Nat.mul_add,Nat.mul_one] at this;omega
      have same:rd vs ((idx+2 ^ (n - d) * j:Nat):Int)=rd vs ((idx+2 ^ (n - d) * j+2 ^ (n - (d+1)):Nat):Int):=Classical.byContradiction fun hne=>hno ⟨idx+2 ^ (n - d) * j,hx,n - (d+1),by omega,rfl,hb0,hne⟩
      have h16:=pow4 hn
      have hxa:=xor_add (idx+2 ^ (n - d) * j) (by omega) (n - (d+1)) (by omega) hb0
      have e3:idx+2 ^ (n - (d+1))+2 ^ (n - d) * j=idx+2 ^ (n - d) * j+2 ^ (n - (d+1)):=by omega
      rw [e3,← same,← hval1 j hj];refine zz106 hok1 (n - d) (fun b hb=>?_) _ _ hr1 hinp1
      rw [← hxa];by_cases hb4:b<4
      ·exact xor_bits _ (by omega) _ (by omega) b hb4 (by omega)
      ·have hp5:2 ^ 4≤2 ^ b:=Nat.pow_le_pow_right (by decide) (by omega)
       have hx2:(idx+2 ^ (n - d) * j) ^^^ 2 ^ (n - (d+1))<16:=by
        have h4:2 ^ (n - (d+1))<2 ^ 4:=Nat.pow_lt_pow_right (by decide) (by omega)
        exact Nat.xor_lt_two_pow (n:=4) (by omega) h4
       rw [Nat.shiftRight_eq_div_pow,Nat.shiftRight_eq_div_pow,Nat.div_eq_of_lt (by omega),Nat.div_eq_of_lt (by omega)]
     have:=hof heq
     rw [List.take_length] at this;rw [this] at hp2;show p1.2=p2.2
     rw [← hp2]
def putM:List Int→Int→List Int
 | [],x => [x]
 | y :: r,x=>if y<x then y :: putM r x else if y=x then y :: r else x :: y :: r
theorem zz112 (l:List Int) (x:Int) (hl:l.length≤1048576) (r:List Int):∀ (p:List Int) (i:Int),i=p.length→l=p++r →
  Ev (fun k=>spec_l1Put.l0 k l x i) (p++putM r x):=by
 induction r with
 | nil =>
  intro p i hi e;have hlen:l.length=p.length:=by rw [e];simp
  apply ev_up;simp only [spec_l1Put.l0];refine ev_n (by omega) ?_
  simp only [Option.bind_some];refine ev_p (by omega) (ev_p (by omega) ?_)
  have ht:l.take i.toNat=p:=by rw [e];simp [hi]
  have hd:l.drop i.toNat=[]:=by rw [e];simp [hi]
  rw [ht,hd];refine ev_p (by simp;omega) (ev_p (by simp;omega) (ev_p (by simp;omega) ?_))
  refine ev_eq (Ev.now _) ?_
  simp [putM]
 | cons y r ih =>
  intro p i hi e;have hlen:l.length=p.length+r.length+1:=by rw [e];simp;omega
  have hx:rd l i=y:=by rw [e];exact rdA hi
  have ih':=ih (p ++ [y]) (i+1) (by simp;omega) (by rw [e];simp)
  have ht:l.take i.toNat=p:=by rw [e];simp [hi]
  have hd:l.drop i.toNat=y :: r:=by rw [e];simp [hi]
  apply ev_up;simp only [spec_l1Put.l0];refine ev_p (by omega) (ev_p (by omega) ?_)
  rw [hx];unfold putM;refine ev_ite (fun h=>?_) (fun h=>ev_ite (fun h2=>?_) (fun h2=>?_))
  ·rw [if_pos h,w64 (by omega) (by omega)]
   refine ev_eq ih' ?_
   simp
  ·rw [if_neg h,if_pos h2]
   refine ev_eq (Ev.now _) ?_
   exact e
  ·rw [if_neg h,if_neg h2]
   simp only [Option.bind_some];rw [ht,hd];refine ev_p (by omega) (ev_p (by simp;omega) (ev_p (by simp;omega) (ev_p (by simp;omega) ?_)))
   refine ev_eq (Ev.now _) ?_
   simp
theorem zz113 (l:List Int) (x:Int) (hl:l.length≤1048576):Ev (fun k=>spec_l1Put.f k l x) (putM l x):=by
 unfold spec_l1Put.f;exact zz112 l x hl l [] 0 rfl rfl
def depAt (vs:List Int) (i j:Nat):Bool:=decide (rd vs ((j:Nat):Int)≠rd vs ((j ^^^ 2 ^ i:Nat):Int))
def depB (vs:List Int) (i:Nat):Bool:=(List.range vs.length).any (depAt vs i)
def listB (n:Nat) (f:Nat→Bool):List Int:=((List.range n).filter f).map (fun (i:Nat)=>(i:Int))
def depL (n:Nat) (vs:List Int):List Int:=listB n (depB vs)
theorem zz118 (n:Nat) (f:Nat→Bool):listB (n+1) f=listB n f++(if f n=true then [(n:Int)] else []):=by
 unfold listB;rw [List.range_succ,List.filter_append,List.map_append];congr 1
 by_cases h:f n=true
 ·rw [if_pos h,List.filter_cons_of_pos h];rfl
 ·rw [if_neg h,List.filter_cons_of_neg h];rfl
theorem zz119 (n:Nat) (f:Nat→Bool):(listB n f).length≤n:=by
 unfold listB;rw [List.length_map];have:=List.length_filter_le f (List.range n)
 rw [List.length_range] at this;exact this
theorem xor_lt {n j i:Nat} (hj:j<2 ^ n) (hi:i<n):j ^^^ 2 ^ i<2 ^ n:=Nat.xor_lt_two_pow hj (Nat.pow_lt_pow_right (by decide) hi)
theorem zz121 {n:Nat} (hn:n≤4) {vs:List Int} (hv:vs.length=2 ^ n) {i:Nat} (hi:i<n) (out:List Int) (ho:out.length≤4) (R:List Int×Bool) (d:Nat):∀ q,q+d=2 ^ n →
  ((∃ j,q≤j∧j<2 ^ n∧depAt vs i j=true)→Ev (fun k=>impl_DependsOn.l0 k (out ++ [(i:Int)]) ((i+1:Nat):Int) n vs) R) →
  ((∀ j,q≤j→j<2 ^ n→depAt vs i j=false)→Ev (fun k=>impl_DependsOn.l0 k out ((i+1:Nat):Int) n vs) R) →
  Ev (fun k=>impl_DependsOn.l1 k out (i:Int) vs (vs.length:Int) (q:Int) n vs) R:=by
 have h16:2 ^ n≤16:=Nat.pow_le_pow_right (by decide:0<2) hn
 induction d with
 | zero =>
  intro q hq _ h2;apply ev_up;simp only [impl_DependsOn.l1];rw [wN (n:=(i:Int)+1) (m:=i+1) (by omega) (by omega)]
  exact ev_n (by omega) (h2 (fun j h1 h3=>by omega))
 | succ d ih =>
  intro q hq h1 h2;have hx:=xor_lt (n:=n) (j:=q) (i:=i) (by omega) hi
  have hxor:Go.bits .xor .i64 (q:Int) (shl .i64 1 (i:Int))=((q ^^^ 2 ^ i:Nat):Int):=by
   have:2 ^ i≤2 ^ 4:=Nat.pow_le_pow_right (by decide) (by omega)
   rw [shl1 i (by omega),xorN q (2 ^ i) (by omega) (by omega)]
  apply ev_up;simp only [impl_DependsOn.l1];rw [hxor,wN (n:=(i:Int)+1) (m:=i+1) (by omega) (by omega),wN (n:=(q:Int)+1) (m:=q+1) (by omega) (by omega)]
  refine ev_p (by omega) (ev_p (by omega) (ev_p (by omega) (ev_p (by omega) (ev_p (by omega) (ev_p (by omega) (ev_ite (fun c=>?_) (fun c=>ev_p (by omega) ?_)))))))
  ·have hf:depAt vs i q=false:=by
    unfold depAt;exact decide_eq_false (fun h=>h c)
   refine ih (q+1) (by omega) (fun ⟨j,g1,g2,g3⟩=>h1 ⟨j,by omega,g2,g3⟩) (fun g=>h2 (fun j g1 g2=>?_))
   by_cases e:j=q
   ·rw [e];exact hf
   ·exact g j (by omega) g2
  ·exact h1 ⟨q,Nat.le_refl _,by omega,by unfold depAt;exact decide_eq_true c⟩
theorem zz122 {n:Nat} (hn:n≤4) {vs:List Int} (hv:vs.length=2 ^ n):∀ (d i:Nat),i+d=n→Ev (fun k=>impl_DependsOn.l0 k (listB i (depB vs)) (i:Int) n vs) (depL n vs,true):=by
 intro d;induction d with
 | zero =>
  intro i hi;apply ev_up;simp only [impl_DependsOn.l0];refine ev_n (by omega) ?_
  rw [show i=n by omega]
  exact Ev.now _
 | succ d ih =>
  intro i hi;have hnext:=ih (i+1) (by omega)
  have hll:=zz119 i (depB vs)
  rw [zz118] at hnext;apply ev_up;simp only [impl_DependsOn.l0];refine ev_p (by omega) (zz121 hn hv (by omega) _ (by omega) _ (2 ^ n) 0 (by omega) (fun ⟨j,_,g2,g3⟩=>?_) (fun g=>?_))
  ·have hb:depB vs i=true:=by
    unfold depB;rw [List.any_eq_true];exact ⟨j,List.mem_range.2 (by omega),g3⟩
   rw [if_pos hb] at hnext;exact hnext
  ·have hb:¬ depB vs i=true:=by
    unfold depB;rw [List.any_eq_true];rintro ⟨j,g1,g2⟩
    have:=g j (by omega) (by have:=List.mem_range.1 g1;omega)
    rw [this] at g2;exact absurd g2 (by simp)
   rw [if_neg hb,List.append_nil] at hnext;exact hnext
def depR (a:Int) (vs:List Int):List Int×Bool:=if tableM a vs=true then (depL a.toNat vs,true) else ([],false)
theorem zz124 (a:Int) (vs:List Int) (hl:vs.length≤9223372036854775807):Ev (fun k=>impl_DependsOn.f k a vs) (depR a vs):=by
 unfold impl_DependsOn.f depR;refine Ev.bind (zz57 a vs hl) ?_
 by_cases h:tableM a vs=true
 ·rw [if_pos h]
  obtain ⟨n,rfl,hn,h1,_,_⟩:=zz54 h
  rw [Int.toNat_natCast];exact ev_p h (zz122 hn h1 n 0 (by omega))
 ·rw [if_neg h]
  exact ev_n h (Ev.now _)
theorem zz125 (n:Nat) (f g:Nat→Bool) (h:∀ b,b<n→f b=g b):listB n f=listB n g:=by
 unfold listB;rw [List.filter_congr (fun b hb=>h b (List.mem_range.1 hb))]
theorem mask_of (f:Nat→Bool):∃ m,m<16∧∀ b,b<4→f b=m.testBit b:=by
 refine ⟨(f 0).toNat+2 * (f 1).toNat+4 * (f 2).toNat+8 * (f 3).toNat,?_,fun b hb=>?_⟩
 ·cases f 0 <;> cases f 1 <;> cases f 2 <;> cases f 3 <;> decide
 ·have:b=0∨b=1∨b=2∨b=3:=by omega
  rcases this with rfl | rfl | rfl | rfl <;> cases f 0 <;> cases f 1 <;> cases f 2 <;> cases f 3 <;> rfl
theorem put_mask:∀ n,n<5→∀ m,m<16→∀ i,i<n→putM (listB n m.testBit) (i:Int)=listB n (fun b=>m.testBit b || b == i):=by decide +kernel
theorem zz128 {n:Nat} (hn:n≤4) (f:Nat→Bool) {i:Nat} (hi:i<n):putM (listB n f) (i:Int)=listB n (fun b=>f b || b == i):=by
 obtain ⟨m,hm,h⟩:=mask_of f
 rw [zz125 n f m.testBit (fun b hb=>h b (by omega)),put_mask n (by omega) m hm i hi]
 exact zz125 n _ _ (fun b hb=>by rw [h b (by omega)])
def seenB (vs:List Int) (q p b:Nat):Bool:=(List.range q).any (depAt vs b) || (decide (b<p) && depAt vs b q)
theorem zz130 (vs:List Int) (q n b:Nat) (hb:b<n):seenB vs q n b=seenB vs (q+1) 0 b:=by
 unfold seenB;rw [List.range_succ,List.any_append,decide_eq_true hb,Bool.true_and,decide_eq_false (by omega),Bool.false_and,Bool.or_false]
 simp
theorem zz131 (vs:List Int) (q p b:Nat):seenB vs q (p+1) b=(seenB vs q p b || (b == p && depAt vs p q)):=by
 unfold seenB;by_cases e:b=p
 ·subst e
  rw [decide_eq_true (show b<b+1 by omega),decide_eq_false (show ¬ b<b by omega),Bool.true_and,Bool.false_and,Bool.or_false,beq_self_eq_true,Bool.true_and]
 ·have h1:(b == p)=false:=by rw [beq_eq_false_iff_ne];exact e
  rw [h1,Bool.false_and,Bool.or_false];congr 2
  exact decide_eq_decide.2 (by omega)
theorem zz132 {n:Nat} (hn:n≤4) {vs:List Int} (hv:vs.length=2 ^ n) {q:Nat} (hq:q<2 ^ n) (R:List Int×Bool)
  (h:Ev (fun k=>spec_DependsOn.l0 k (listB n (seenB vs (q+1) 0)) vs (vs.length:Int) ((q+1:Nat):Int) n vs) R):∀ (d p:Nat),p+d=n→Ev (fun k=>spec_DependsOn.l1 k (listB n (seenB vs q p)) (q:Int) (rd vs (q:Int)) (p:Int) vs (vs.length:Int) (q:Int) n vs) R:=by
 have h16:2 ^ n≤16:=Nat.pow_le_pow_right (by decide:0<2) hn
 intro d;induction d with
 | zero =>
  intro p hp;apply ev_up;simp only [spec_DependsOn.l1];rw [wN (n:=(q:Int)+1) (m:=q+1) (by omega) (by omega)]
  refine ev_n (by omega) ?_
  rw [show p=n by omega,zz125 n (seenB vs q n) (seenB vs (q+1) 0) (fun b hb=>zz130 vs q n b hb)]
  exact h
 | succ d ih =>
  intro p hp;have hpn:p<n:=by omega
  have hx:=xor_lt (n:=n) (j:=q) (i:=p) hq hpn
  have hxor:Go.bits .xor .i64 (q:Int) (shl .i64 1 (p:Int))=((q ^^^ 2 ^ p:Nat):Int):=by
   have:2 ^ p≤2 ^ 4:=Nat.pow_le_pow_right (by decide) (by omega)
   rw [shl1 p (by omega),xorN q (2 ^ p) (by omega) (by omega)]
  have hnext:=ih (p+1) (by omega)
  have hll:=zz119 n (seenB vs q p)
  apply ev_up;simp only [spec_DependsOn.l1];rw [u64w (by omega) (by omega),hxor,wN (n:=(p:Int)+1) (m:=p+1) (by omega) (by omega)]
  refine ev_p (by omega) (ev_p (by omega) (ev_p (by omega) (ev_p (by omega) (ev_ite (fun c=>?_) (fun c=>?_)))))
  ·have hf:depAt vs p q=false:=by
    unfold depAt;exact decide_eq_false (fun hh=>hh c)
   rw [zz125 n (seenB vs q (p+1)) (seenB vs q p) (fun b hb=>by rw [zz131,hf,Bool.and_false,Bool.or_false])] at hnext
   exact hnext
  ·have hf:depAt vs p q=true:=by
    unfold depAt;exact decide_eq_true c
   refine Ev.bind (zz113 _ (p:Int) (by omega)) ?_
   rw [zz128 hn _ hpn];rw [zz125 n (seenB vs q (p+1)) (fun b=>seenB vs q p b || b == p) (fun b hb=>by rw [zz131,hf,Bool.and_true])] at hnext
   exact hnext
theorem zz133 {n:Nat} (hn:n≤4) {vs:List Int} (hv:vs.length=2 ^ n):∀ (d q:Nat),q+d=2 ^ n→Ev (fun k=>spec_DependsOn.l0 k (listB n (seenB vs q 0)) vs (vs.length:Int) (q:Int) n vs) (depL n vs,true):=by
 have h16:2 ^ n≤16:=Nat.pow_le_pow_right (by decide:0<2) hn
 intro d;induction d with
 | zero =>
  intro q hq;apply ev_up;simp only [spec_DependsOn.l0];refine ev_n (by omega) (ev_eq (Ev.now _) ?_)
  congr 1
  refine zz125 n _ _ (fun b hb=>?_)
  unfold seenB depB;rw [decide_eq_false (by omega),Bool.false_and,Bool.or_false,hv,show q=2 ^ n by omega]
 | succ d ih =>
  intro q hq;have:=zz132 hn hv (q:=q) (by omega) _ (ih (q+1) (by omega)) n 0 (by omega)
  apply ev_up;simp only [spec_DependsOn.l0];exact ev_p (by omega) (ev_p (by omega) (ev_p (by omega) this))
theorem zz134 (a:Int) (vs:List Int) (hl:vs.length≤9223372036854775807):Ev (fun k=>spec_DependsOn.f k a vs) (depR a vs):=by
 unfold spec_DependsOn.f depR;refine Ev.bind (zz58 a vs hl) ?_
 by_cases h:tableM a vs=true
 ·rw [if_pos h]
  obtain ⟨n,rfl,hn,h1,_,_⟩:=zz54 h
  rw [Int.toNat_natCast];have:=zz133 hn h1 (2 ^ n) 0 (by omega)
  have e:listB n (seenB vs 0 0)=[]:=by
   unfold listB;rw [List.filter_eq_nil_iff.2 (fun b _=>by simp [seenB])]
   rfl
  rw [e] at this;exact ev_p h this
 ·rw [if_neg h]
  exact ev_n h (Ev.now _)
def sumI:List Int→Int
 | []=>0
 | x :: r=>x+sumI r
theorem pSum_l0 (l:List Int) (hl:l.length≤1000) (hb:∀ x∈l,0≤x∧x≤1) (r:List Int):∀ (p:List Int) (s:Int),l=p++r→0≤s→s≤p.length→Ev (fun k=>laws_pSum.l0 k s l (l.length:Int) ((p.length:Nat):Int)) (s+sumI r):=by
 induction r with
 | nil =>
  intro p s e _ _;have hlen:l.length=p.length:=by rw [e];simp
  apply ev_up;simp only [laws_pSum.l0];refine ev_n (by omega) (ev_eq (Ev.now _) ?_)
  simp [sumI]
 | cons x r ih =>
  intro p s e h0 h1;have hlen:l.length=p.length+r.length+1:=by rw [e];simp;omega
  have hr:rd l ((p.length:Nat):Int)=x:=by rw [e];exact rdA rfl
  have hx:=hb x (by rw [e];simp)
  have:=ih (p ++ [x]) (s+x) (by rw [e];simp) (by omega) (by simp;omega)
  rw [List.length_append,List.length_singleton] at this;apply ev_up;simp only [laws_pSum.l0];rw [hr,w64 (n:=s+x) (by omega) (by omega),wN (n:=((p.length:Nat):Int)+1) (m:=p.length+1) (by omega) (by omega),sumI,← Int.add_assoc]
  exact ev_p (by omega) (ev_p (by omega) (ev_p (by omega) this))
theorem pSum_ev (l:List Int) (hl:l.length≤1000) (hb:∀ x∈l,0≤x∧x≤1):Ev (fun k=>laws_pSum.f k l) (sumI l):=by
 unfold laws_pSum.f;refine ev_eq (pSum_l0 l hl hb l [] 0 rfl (by omega) (by simp)) ?_
 simp
theorem zz138 (l:List Int) (hl:l.length≤1000) (hb:∀ x∈l,0≤x∧x≤1) (r:List Int):∀ (p:List Int) (s:Int),l=p++r→0≤s→s≤p.length→Ev (fun k=>impl_CountTrue.l0 k s l (l.length:Int) ((p.length:Nat):Int)) (s+sumI r,true):=by
 induction r with
 | nil =>
  intro p s e _ _;have hlen:l.length=p.length:=by rw [e];simp
  apply ev_up;simp only [impl_CountTrue.l0];refine ev_n (by omega) (ev_eq (Ev.now _) ?_)
  simp [sumI]
 | cons x r ih =>
  intro p s e h0 h1;have hlen:l.length=p.length+r.length+1:=by rw [e];simp;omega
  have hr:rd l ((p.length:Nat):Int)=x:=by rw [e];exact rdA rfl
  have hx:=hb x (by rw [e];simp)
  have:=ih (p ++ [x]) (s+x) (by rw [e];simp) (by omega) (by simp;omega)
  rw [List.length_append,List.length_singleton] at this;apply ev_up;simp only [impl_CountTrue.l0];rw [hr,w64 (n:=s+x) (by omega) (by omega),wN (n:=((p.length:Nat):Int)+1) (m:=p.length+1) (by omega) (by omega),sumI,← Int.add_assoc]
  exact ev_p (by omega) (ev_p (by omega) (ev_p (by omega) this))
theorem zz139 {a:Int} {ns:List S70} {root:Int} (c:diagM a ns root):Ev (fun k=>impl_CountTrue.f k a ns root) (sumI (ndTab a.toNat ns root),true):=by
 obtain ⟨n,rfl,hn,hb,ht,hl,d1,d2,t1,t2⟩:=diag_evs c
 obtain ⟨_,_,_,_,h16,hbits⟩:=zz54 ht
 unfold impl_CountTrue.f;rw [Int.toNat_natCast];refine Ev.bind d2 (ev_p rfl (Ev.bind t2 (ev_eq (zz138 (ndTab n ns root) (by omega) hbits (ndTab n ns root) [] 0 rfl (by omega) (by simp)) ?_)))
 rw [Int.zero_add]
theorem cD_sum:∀ n,n≤4→∀ vs:List Int,vs.length=2 ^ n→cD (fun j=>rd vs ((j:Nat):Int)) n n 0=sumI vs:=by
 intro n hn vs hv;have:n=0∨n=1∨n=2∨n=3∨n=4:=by omega
 rcases this with rfl | rfl | rfl | rfl | rfl
 ·match vs,hv with
  | [a],_=>show a=a+0;omega
 ·match vs,hv with
  | [a,b],_=>show a+b=a+(b+0);omega
 ·match vs,hv with
  | [a,b,c,d],_=>show (a+c)+(b+d)=a+(b+(c+(d+0)));omega
 ·match vs,hv with
  | [a,b,c,d,e,f,g,h],_=>show ((a+e)+(c+g))+((b+f)+(d+h))=a+(b+(c+(d+(e+(f+(g+(h+0)))))));omega
 ·match vs,hv with
  | [a,b,c,d,e,f,g,h,i,j,k,l,m,o,p,q],_=>show (((a+i)+(e+m))+((c+k)+(g+p)))+(((b+j)+(f+o))+((d+l)+(h+q)))=a+(b+(c+(d+(e+(f+(g+(h+(i+(j+(k+(l+(m+(o+(p+(q+0)))))))))))))));omega
theorem rdNodeA {p r:List S70} {x:S70} {i:Int} (hi:i=p.length):rd_T70 (p++x :: r) i=x:=getDA hi
def waysL (ns:List S70) (q:Nat):List Int:=rmap (q+2) (fun i=>ndWays ns ns.length (i:Int))
theorem zz143 (ns:List S70) (q:Nat):(waysL ns q).length=q+2:=rmap_length _ _
theorem waysL_rd (ns:List S70) (q:Nat) {r:Int} (h0:0≤r) (h1:r<q+2):rd (waysL ns q) r=ndWays ns ns.length r:=by
 obtain ⟨n,rfl⟩:=nat_of h0
 exact rmap_get (by omega) 0
theorem zz145 {n:Nat} {ns:List S70} (h:NdB n ns) {q:Nat} (hq:q<ns.length):waysL ns (q+1)=waysL ns q ++ [ndWays ns ns.length (ns.getD q z70).f1+ndWays ns ns.length (ns.getD q z70).f2]:=by
 unfold waysL;rw [show q+1+2=(q+2)+1 by omega,rmap_succ,← zz104 h (Nat.le_refl _) hq]
 congr 3
 push_cast
 omega
theorem ways_le {n:Nat} {ns:List S70} (hn:n≤4) (h:NdOk n ns) (r:Int) (h0:0≤r) (h1:r<2+(ns.length:Int)):0≤ndWays ns ns.length r∧ndWays ns ns.length r≤16:=by
 have hb:=zz105 h (Nat.le_refl _) n 0 r (Nat.le_refl _) (by simp) h0 h1 (fun h2=>by
  have:=(h.inp (r - 2).toNat (by omega)).1
  omega)
 have hc:=cD_bd (fun x=>ndVal ns x ns.length r) (n:=n) (fun x=>zz18 h.b x ns.length r h0 h1 (by omega)) n 0
 have:=pow4 hn
 omega
theorem zz147 {n:Nat} {ns:List S70} (hn:n≤4) (h:NdOk n ns) (hl:ns.length≤40) (a root:Int) (hr0:0≤root) (hr1:root<2+(ns.length:Int)):∀ (d q:Nat),q+d=ns.length→Ev (fun k=>impl_TruePaths.l0 k (waysL ns q) ns (ns.length:Int) ((q:Nat):Int) a ns root) (ndWays ns ns.length root,true):=by
 intro d;induction d with
 | zero =>
  intro q hq;have hlen:=zz143 ns q
  apply ev_up;simp only [impl_TruePaths.l0];refine ev_n (by omega) (ev_p (by omega) (ev_p (by omega) ?_))
  rw [waysL_rd ns q hr0 (by omega)]
  exact Ev.now _
 | succ d ih =>
  intro q hq;have hq2:q<ns.length:=by omega
  have hlen:=zz143 ns q
  have hlo:=h.b.low q hq2
  have hhi:=h.b.high q hq2
  have w1:=ways_le hn h _ hlo.1 (by omega)
  have w2:=ways_le hn h _ hhi.1 (by omega)
  apply ev_up;simp only [impl_TruePaths.l0];rw [rdNd,waysL_rd ns q hlo.1 (by omega),waysL_rd ns q hhi.1 (by omega),w64 (by omega) (by omega),wN (n:=(q:Int)+1) (m:=q+1) (by omega) (by omega),← zz145 h.b hq2]
  exact ev_p (by omega) (ev_p (by omega) (ev_p (by omega) (ev_p hlo.1 (ev_p (by omega) (ev_p hhi.1 (ev_p (by omega) (ev_p (by omega) (ih (q+1) (by omega)))))))))
theorem zz148 {n:Nat} {ns:List S70} (hn:n≤4) (h:NdOk n ns) (hl:ns.length≤40) (a root:Int) (hr0:0≤root) (hr1:root<2+(ns.length:Int)):∀ (d q:Nat),q+d=ns.length→Ev (fun k=>spec_TruePaths.l0 k (waysL ns q) ns (ns.length:Int) ((q:Nat):Int) a ns root) (ndWays ns ns.length root,true):=by
 intro d;induction d with
 | zero =>
  intro q hq;have hlen:=zz143 ns q
  apply ev_up;simp only [spec_TruePaths.l0];refine ev_n (by omega) (ev_p (by omega) (ev_p (by omega) ?_))
  rw [waysL_rd ns q hr0 (by omega)]
  exact Ev.now _
 | succ d ih =>
  intro q hq;have hq2:q<ns.length:=by omega
  have hlen:=zz143 ns q
  have hlo:=h.b.low q hq2
  have hhi:=h.b.high q hq2
  have w1:=ways_le hn h _ hlo.1 (by omega)
  have w2:=ways_le hn h _ hhi.1 (by omega)
  apply ev_up;simp only [spec_TruePaths.l0];rw [rdNd,waysL_rd ns q hlo.1 (by omega),waysL_rd ns q hhi.1 (by omega),w64 (by omega) (by omega),wN (n:=(q:Int)+1) (m:=q+1) (by omega) (by omega),← zz145 h.b hq2]
  exact ev_p (by omega) (ev_p (by omega) (ev_p (by omega) (ev_p hlo.1 (ev_p (by omega) (ev_p hhi.1 (ev_p (by omega) (ev_p (by omega) (ih (q+1) (by omega)))))))))
theorem diag_ok {n:Nat} {ns:List S70} {root:Int} (c:diagM (n:Int) ns root):NdOk n ns:=by
 obtain ⟨a0,a4,al,r0,r1,hb,he⟩:=c
 rw [Int.toNat_natCast] at hb he;have hm:=zz27 (n:=n) (ndTab n ns root) (rd_bits (zz40 hb root r0 r1)) n 0 [] (Nat.le_refl _) (by simp) (NdOk.nil n)
 rw [he] at hm;exact hm.ok
open Classical in
noncomputable def pathsR (a:Int) (ns:List S70) (root:Int):Int×Bool:=if diagM a ns root then (ndWays ns ns.length root,true) else (0,false)
theorem zz151 (a:Int) (ns:List S70) (root:Int) (hl:ns.length≤9223372036854775806):Ev (fun k=>impl_TruePaths.f k a ns root) (pathsR a ns root)∧Ev (fun k=>spec_TruePaths.f k a ns root) (pathsR a ns root):=by
 unfold impl_TruePaths.f spec_TruePaths.f pathsR;by_cases c:diagM a ns root
 ·obtain ⟨n,rfl,hn,hb,_,_,d1,d2,_,_⟩:=diag_evs c
  have hok:=diag_ok c
  rw [if_pos c];have e:([0,1]:List Int)=waysL ns 0:=by
   unfold waysL rmap;show _=[ndWays ns ns.length 0,ndWays ns ns.length 1]
   rw [zz103 _ _ _ (by omega),zz103 _ _ _ (by omega)]
  rw [e];exact ⟨Ev.bind d2 (ev_p rfl (zz147 hn hok c.2.2.1 _ root c.2.2.2.1 c.2.2.2.2.1 ns.length 0 (by omega))),Ev.bind d1 (ev_p rfl (zz148 hn hok c.2.2.1 _ root c.2.2.2.1 c.2.2.2.2.1 ns.length 0 (by omega)))⟩
 ·rw [if_neg c]
  obtain ⟨d1,d2⟩:=diag_no hl c
  exact ⟨Ev.bind d2 (ev_n (by simp) (Ev.now _)),Ev.bind d1 (ev_n (by simp) (Ev.now _))⟩
theorem zz152 {n:Nat} {ns:List S70} {root:Int} (hn:n≤4) (c:diagM (n:Int) ns root):0≤ndWays ns ns.length root∧ndWays ns ns.length root≤sumI (ndTab n ns root)∧(ndWays ns ns.length root=0↔sumI (ndTab n ns root)=0):=by
 have hok:=diag_ok c
 have r0:=c.2.2.2.1
 have r1:=c.2.2.2.2.1
 have hb:=zz105 hok (Nat.le_refl _) n 0 root (Nat.le_refl _) (by simp) r0 r1 (fun h2=>by
  have:=(hok.inp (root - 2).toNat (by omega)).1
  omega)
 have e:cD (fun x=>ndVal ns x ns.length root) n n 0=sumI (ndTab n ns root):=by
  rw [← cD_sum n hn (ndTab n ns root) (zz35 _ _ _)];refine cD_congr _ _ n 0 (Nat.le_refl _) (fun j hj=>?_)
  rw [Nat.sub_self,Nat.pow_zero,Nat.one_mul,Nat.zero_add];exact (ndTab_rd hj).symm
 rw [e] at hb;exact hb
theorem zz153 {x i:Nat} (hx:x<16) (hi:i<4) (b:Nat) (hb:b≠i):(x >>> b) % 2=((x ^^^ 2 ^ i) >>> b) % 2:=by
 by_cases h4:b<4
 ·exact xor_bits x hx i hi b h4 hb
 ·have hp5:2 ^ 4≤2 ^ b:=Nat.pow_le_pow_right (by decide) (by omega)
  have hx2:x ^^^ 2 ^ i<16:=Nat.xor_lt_two_pow (n:=4) (by omega) (Nat.pow_lt_pow_right (by decide) hi)
  rw [Nat.shiftRight_eq_div_pow,Nat.shiftRight_eq_div_pow,Nat.div_eq_of_lt (by omega),Nat.div_eq_of_lt (by omega)]
theorem used_dep {n:Nat} (hn:n≤4) {vs:List Int} (hv:vs.length=2 ^ n) (hb:∀ x∈vs,0≤x∧x≤1) {i:Nat} (hi:i<n) :
  depB vs i=true↔∃ q,q<(ndBuild vs n n 0 []).1.length∧((ndBuild vs n n 0 []).1.getD q z70).f0=(i:Int):=by
 have h16:=pow4 hn
 obtain ⟨hd,ht⟩:=zz93 hn hv hb
 have hok:=diag_ok hd
 have r0:=hd.2.2.2.1
 have r1:=hd.2.2.2.2.1
 constructor
 ·intro h
  refine Classical.byContradiction fun hno=>?_
  unfold depB at h;obtain ⟨j,hj,hd2⟩:=List.any_eq_true.1 h
  have hj2:j<2 ^ n:=by have:=List.mem_range.1 hj;omega
  unfold depAt at hd2;refine of_decide_eq_true hd2 ?_
  have e1:=ndTab_rd (ns:=(ndBuild vs n n 0 []).1) (root:=(ndBuild vs n n 0 []).2) hj2
  have e2:=ndTab_rd (ns:=(ndBuild vs n n 0 []).1) (root:=(ndBuild vs n n 0 []).2) (xor_lt hj2 hi)
  rw [ht] at e1 e2;rw [e1,e2];exact zz107 hok.b i (fun q hq he=>hno ⟨q,hq,he⟩) (fun b hbi=>zz153 (by omega) (by omega) b hbi) _ _ r1
 ·rintro ⟨q,hq,he⟩
  obtain ⟨x,hx,i2,hi2,hf,h0,hne⟩:=zz110 hn vs (rd_bits hb) n 0 [] (Nat.le_refl _) (by simp) (NdOk.nil n) q (by simp) hq
  have:i2=i:=by omega
  subst this;unfold depB;rw [List.any_eq_true];refine ⟨x,List.mem_range.2 (by omega),?_⟩
  unfold depAt;rw [xor_add x (by omega) i2 (by omega) h0]
  exact decide_eq_true hne
def usedF (ns:List S70) (i:Nat):Bool:=ns.any (fun x=>decide (x.f0=(i:Int)))
theorem zz156 (ns:List S70) (i:Nat):usedF ns i=true↔∃ q,q<ns.length∧(ns.getD q z70).f0=(i:Int):=by
 unfold usedF;rw [List.any_eq_true];constructor
 ·rintro ⟨x,hx,he⟩
  obtain ⟨q,hq,rfl⟩:=List.getElem_of_mem hx
  exact ⟨q,hq,by rw [show ns.getD q z70=ns[q] by simp [List.getD_eq_getElem?_getD,List.getElem?_eq_getElem hq]];exact of_decide_eq_true he⟩
 ·rintro ⟨q,hq,he⟩
  rw [show ns.getD q z70=ns[q] by simp [List.getD_eq_getElem?_getD,List.getElem?_eq_getElem hq]] at he
  exact ⟨ns[q],List.getElem_mem hq,decide_eq_true he⟩
theorem zz157 {n:Nat} (hn:n≤4) {vs:List Int} (hv:vs.length=2 ^ n) (hb:∀ x∈vs,0≤x∧x≤1):listB 4 (usedF (ndBuild vs n n 0 []).1)=depL n vs:=by
 obtain ⟨hd,_⟩:=zz93 hn hv hb
 have hok:=diag_ok hd
 have key:∀ d m,m+d=4→n≤m→listB m (usedF (ndBuild vs n n 0 []).1)=listB n (usedF (ndBuild vs n n 0 []).1):=by
  intro d m;induction m with
  | zero=>intro _ h;rw [show n=0 by omega]
  | succ m ih =>
   intro h1 h2;by_cases e:n=m+1
   ·rw [e]
   ·have hno:¬ usedF (ndBuild vs n n 0 []).1 m=true:=by
     rw [zz156];rintro ⟨q,hq,he⟩
     have:=(hok.inp q hq).2
     omega
    rw [zz118,if_neg hno,List.append_nil];clear ih
    revert h2 e
    intro h2 e;have:∀ m,n≤m→listB m (usedF (ndBuild vs n n 0 []).1)=listB n (usedF (ndBuild vs n n 0 []).1):=by
     intro m;induction m with
     | zero=>intro h;rw [show n=0 by omega]
     | succ m ih =>
      intro h;by_cases e:n=m+1
      ·rw [e]
      ·have hno:¬ usedF (ndBuild vs n n 0 []).1 m=true:=by
        rw [zz156];rintro ⟨q,hq,he⟩
        have:=(hok.inp q hq).2
        omega
       rw [zz118,if_neg hno,List.append_nil];exact ih (by omega)
    exact this m (by omega)
 rw [key 0 4 rfl hn];refine zz125 n _ _ (fun b hbn=>?_)
 have h:=used_dep hn hv hb hbn
 rw [← zz156] at h;cases h1:usedF (ndBuild vs n n 0 []).1 b <;> cases h2:depB vs b <;> simp_all
theorem zz158 (p:List S70) (x:S70) (i:Nat):usedF (p ++ [x]) i=(usedF p i || decide (x.f0=(i:Int))):=by
 unfold usedF;rw [List.any_append];simp
def pickB (b0 b1 b2 b3:Bool):List Int:=((((([]:List Int)++(if b0=true then [0] else []))++(if b1=true then [1] else []))++(if b2=true then [2] else []))++(if b3=true then [3] else []))
theorem zz160 (f:Nat→Bool):listB 4 f=pickB (f 0) (f 1) (f 2) (f 3):=by
 rw [zz118,zz118,zz118,zz118];rfl
theorem zz161 (b0 b1 b2 b3:Bool):Ev (fun k=>impl_InputsUsed.l1 k [] 0 b0 b1 b2 b3) (pickB b0 b1 b2 b3,true):=by
 have s4:∀ l:List Int,Ev (fun k=>impl_InputsUsed.l1 k l 4 b0 b1 b2 b3) (l,true):=fun l=>by
  apply ev_up;simp only [impl_InputsUsed.l1];exact ev_n (by omega) (Ev.now _)
 have s3:∀ l:List Int,l.length≤3→Ev (fun k=>impl_InputsUsed.l1 k l 3 b0 b1 b2 b3) (l++(if b3=true then [3] else []),true):=fun l hl=>by
  apply ev_up;simp only [impl_InputsUsed.l1];rw [w64 (n:=3+1) (by decide) (by decide)]
  refine ev_p (by omega) (ev_n (by decide) (ev_n (by decide) (ev_n (by decide) (ev_p (by trivial) ?_))))
  by_cases c:b3=true
  ·rw [if_pos c]
   exact ev_p c (ev_p (by omega) (s4 _))
  ·rw [if_neg c,List.append_nil]
   exact ev_n c (s4 _)
 have s2:∀ l:List Int,l.length≤2→Ev (fun k=>impl_InputsUsed.l1 k l 2 b0 b1 b2 b3) ((l++(if b2=true then [2] else []))++(if b3=true then [3] else []),true):=fun l hl=>by
  apply ev_up;simp only [impl_InputsUsed.l1];rw [w64 (n:=2+1) (by decide) (by decide)]
  refine ev_p (by omega) (ev_n (by decide) (ev_n (by decide) (ev_p (by trivial) ?_)))
  by_cases c:b2=true
  ·rw [if_pos c]
   exact ev_p c (ev_p (by omega) (s3 _ (by rw [List.length_append,List.length_singleton];omega)))
  ·rw [if_neg c,List.append_nil]
   exact ev_n c (s3 _ (by omega))
 have s1:∀ l:List Int,l.length≤1→Ev (fun k=>impl_InputsUsed.l1 k l 1 b0 b1 b2 b3) (((l++(if b1=true then [1] else []))++(if b2=true then [2] else []))++(if b3=true then [3] else []),true):=fun l hl=>by
  apply ev_up;simp only [impl_InputsUsed.l1];rw [w64 (n:=1+1) (by decide) (by decide)]
  refine ev_p (by omega) (ev_n (by decide) (ev_p (by trivial) ?_))
  by_cases c:b1=true
  ·rw [if_pos c]
   exact ev_p c (ev_p (by omega) (s2 _ (by rw [List.length_append,List.length_singleton];omega)))
  ·rw [if_neg c,List.append_nil]
   exact ev_n c (s2 _ (by omega))
 unfold pickB;apply ev_up;simp only [impl_InputsUsed.l1];rw [w64 (n:=0+1) (by decide) (by decide)]
 refine ev_p (by omega) (ev_p (by trivial) ?_)
 by_cases c:b0=true
 ·rw [if_pos c]
  exact ev_p c (ev_p (by simp) (s1 _ (by simp)))
 ·rw [if_neg c,List.append_nil]
  exact ev_n c (s1 _ (by simp))
theorem zz162 (ns:List S70) (hl:ns.length≤40) (hf:∀ x∈ns,0≤x.f0∧x.f0<4) (r:List S70):∀ p,ns=p++r→Ev (fun k=>impl_InputsUsed.l0 k ((p.length:Nat):Int) (usedF p 0) (usedF p 1) (usedF p 2) (usedF p 3) ns) (listB 4 (usedF ns),true):=by
 induction r with
 | nil =>
  intro p e;have hlen:ns.length=p.length:=by rw [e];simp
  have e2:p=ns:=by rw [e,List.append_nil]
  subst e2;apply ev_up;simp only [impl_InputsUsed.l0];rw [zz160];exact ev_n (by omega) (zz161 _ _ _ _)
 | cons x r ih =>
  intro p e;have hlen:ns.length=p.length+r.length+1:=by rw [e];simp;omega
  have hx:rd_T70 ns ((p.length:Nat):Int)=x:=by rw [e];exact getDA rfl
  have hb:=hf x (by rw [e];simp)
  have ih':=ih (p ++ [x]) (by rw [e];simp)
  rw [List.length_append,List.length_singleton,zz158,zz158,zz158,zz158,show ((p.length+1:Nat):Int)=(p.length:Int)+1 by omega] at ih'
  apply ev_up;simp only [impl_InputsUsed.l0];rw [hx,w64 (n:=((p.length:Nat):Int)+1) (by omega) (by omega)]
  refine ev_p (by omega) (ev_p (by omega) ?_)
  refine ev_ite (fun c=>?_) (fun c0=>ev_ite (fun c=>?_) (fun c1=>ev_ite (fun c=>?_) (fun c2=>ev_ite (fun c=>?_) (fun c3=>?_))))
  ·rw [c] at ih'
   simpa using ih'
  ·rw [c] at ih'
   simpa using ih'
  ·rw [c] at ih'
   simpa using ih'
  ·rw [c] at ih'
   simpa using ih'
  ·omega
theorem zz163 {a:Int} {ns:List S70} {root:Int} (c:diagM a ns root):Ev (fun k=>impl_InputsUsed.f k a ns root) (listB 4 (usedF ns),true):=by
 obtain ⟨n,rfl,hn,_,_,_,_,d2,_,_⟩:=diag_evs c
 have hok:=diag_ok c
 unfold impl_InputsUsed.f;refine Ev.bind d2 (ev_p rfl ?_)
 refine zz162 ns c.2.2.1 (fun x hx=>?_) ns [] rfl
 obtain ⟨q,hq,rfl⟩:=List.getElem_of_mem hx
 have:=hok.inp q hq
 rw [show ns.getD q z70=ns[q] by simp [List.getD_eq_getElem?_getD,List.getElem?_eq_getElem hq]] at this
 omega
theorem rd_mem {ds:List Int} {i:Int} (h0:0≤i) (h1:i<ds.length):rd ds i∈ds:=by
 obtain ⟨n,rfl⟩:=nat_of h0
 have hn:n<ds.length:=by omega
 rw [rdN hn];exact List.getElem_mem hn
def bytesOk (code:List Int):Prop:=code.length≤140737488355328∧∀ x∈code,0≤x∧x≤255
theorem bits255 (y:Int):0≤wrap64 (Go.bits .and .u64 y 255)∧wrap64 (Go.bits .and .u64 y 255)≤255:=by
 show 0≤wrap64 (IntKind.u64.wrap ((BitVec.ofInt 64 y &&& BitVec.ofInt 64 255).toNat:Int))∧wrap64 (IntKind.u64.wrap ((BitVec.ofInt 64 y &&& BitVec.ofInt 64 255).toNat:Int))≤255
 have h:(BitVec.ofInt 64 y &&& BitVec.ofInt 64 255).toNat≤255:=by
  rw [BitVec.toNat_and];exact Nat.le_trans Nat.and_le_right (by decide)
 generalize (BitVec.ofInt 64 y &&& BitVec.ofInt 64 255).toNat=m at h
 rw [u64w (by omega) (by omega),w64 (n:=(m:Int)) (by omega) (by omega)]
 omega
theorem next_ok {code:List Int} (hc:bytesOk code) (at_ mix:Int) (h0:0≤at_) (h1:at_≤4000000000000000000):∃ r m,spec_l1Cur_next.f code at_ mix=some (r,at_+1,m)∧0≤r∧r≤255:=by
 unfold spec_l1Cur_next.f;rw [w64 (n:=at_+1) (by omega) (by omega)]
 by_cases c1:at_<(code.length:Int)
 ·have hm:=hc.2 (rd code at_) (rd_mem h0 c1)
  rw [if_pos c1,if_pos h0,if_pos (by omega),w64 (n:=rd code at_) (by omega) (by omega)]
  exact ⟨_,_,rfl,hm.1,hm.2⟩
 ·rw [if_neg c1,if_neg (by omega)]
  exact ⟨_,_,rfl,(bits255 _).1,(bits255 _).2⟩
theorem pick_ok {code:List Int} (hc:bytesOk code) (at_ mix n:Int) (h0:0≤at_) (h1:at_≤3999999999999999990):∃ r a m,spec_l1Cur_pick.f code at_ mix n=some (r,a,m)∧(at_≤a∧a≤at_+2)∧0≤r∧(r=0∨r<n):=by
 unfold spec_l1Cur_pick.f;by_cases c:n≤1
 ·rw [if_pos c]
  exact ⟨0,at_,mix,rfl,by omega,by omega,.inl rfl⟩
 ·rw [if_neg c]
  obtain ⟨r,m,e,hr0,hr1⟩:=next_ok hc at_ mix h0 (by omega)
  rw [e,Option.bind_some];by_cases c2:n>200
  ·obtain ⟨r2,m2,e2,hs0,hs1⟩:=next_ok hc (at_+1) m (by omega) (by omega)
   rw [if_pos c2,e2,Option.bind_some,if_neg (by omega)]
   dsimp only;rw [w64 (n:=r * 256) (by omega) (by omega),w64 (n:=r * 256+r2) (by omega) (by omega)]
   exact ⟨_,_,_,rfl,by omega,Int.tmod_nonneg _ (by omega),.inr (Int.tmod_lt_of_pos _ (by omega))⟩
  ·rw [if_neg c2,if_neg (by omega)]
   dsimp only;exact ⟨_,_,_,rfl,by omega,Int.tmod_nonneg _ (by omega),.inr (Int.tmod_lt_of_pos _ (by omega))⟩
theorem among_ok {code:List Int} (hc:bytesOk code) (at_ mix:Int) (l:List Int) (hl:0<l.length) (h0:0≤at_) (h1:at_≤3999999999999999990):∃ r a m,spec_l1Cur_among.f code at_ mix l=some (r,a,m)∧(at_≤a∧a≤at_+2)∧r∈l:=by
 unfold spec_l1Cur_among.f;obtain ⟨r,a,m,e,ha,hr0,hr1⟩:=pick_ok hc at_ mix (l.length:Int) h0 h1
 have hr2:r<(l.length:Int):=by omega
 rw [e,Option.bind_some];dsimp only;rw [if_pos hr0,if_pos hr2];exact ⟨_,_,_,rfl,ha,rd_mem hr0 hr2⟩
theorem one_ok {code:List Int} (hc:bytesOk code) (at_ mix n:Int) (h0:0≤at_) (h1:at_≤3999999999999999990):∃ r a m,spec_l1Cur_one.f code at_ mix n=some (r,a,m)∧(at_≤a∧a≤at_+2):=by
 unfold spec_l1Cur_one.f;obtain ⟨r,a,m,e,ha,_⟩:=pick_ok hc at_ mix n h0 h1
 rw [e,Option.bind_some];exact ⟨_,_,_,rfl,ha⟩
theorem bytes_of {l:List Int} (h1:l.length * 1≤140737488351232) (h2:∀ x∈l,(Lit.int .u8 x).wf=true):bytesOk l:=by
 refine ⟨by omega,fun x hx=>?_⟩
 have:=h2 x hx
 simp [Lit.wf,IntKind.min,IntKind.max,IntKind.bits,IntKind.signed] at this
 omega
theorem zz172 (a i:Nat) (ha:a≤4) (hi:i<16) (c:List Int) (at_ m n:Int) (xs:List Int) (hx:xs.length≤1000) (d:Nat):∀ (s j:Nat),j+d=a→s≤j →
  ∃ b:Int,∀ v,Ev (fun k=>spec_l1Cur_tableOf.l0 k a 8 (wrap64 ((i:Int)+1)) c at_ m n (xs ++ [b])) v→Ev (fun k=>spec_l1Cur_tableOf.l1 k a 8 i s j c at_ m n xs) v:=by
 induction d with
 | zero =>
  intro s j hj hs;refine ⟨Int.tmod (wrap64 (Int.tdiv (s:Int) 2)) 2,fun v hv=>?_⟩
  apply ev_up;simp only [spec_l1Cur_tableOf.l1];exact ev_n (by omega) (ev_p (by omega) hv)
 | succ d ih =>
  intro s j hj hs;obtain ⟨b,hb⟩:=ih (s+(i >>> j) % 2) (j+1) (by omega) (by omega)
  refine ⟨b,fun v hv=>?_⟩
  apply ev_up;simp only [spec_l1Cur_tableOf.l1];refine ev_p (by omega) ?_
  rw [zz29 i j (by omega) (by omega)]
  refine Ev.bind (ev_c rfl) ?_
  rw [wN (m:=s+(i >>> j) % 2) (by push_cast;rfl) (by omega),wN (m:=j+1) (by push_cast;rfl) (by omega)]
  exact hb v hv
theorem zz173 {c:List Int} (hc:bytesOk c) (a:Nat) (ha:a≤4) (x6 n:Int) (d:Nat):∀ (i:Nat) (at_ m:Int) (xs:List Int),i+d=2 ^ a→0≤at_→at_+2 * d≤999000000→xs.length=i →
  ∃ ys a' m',Ev (fun k=>spec_l1Cur_tableOf.l0 k a x6 i c at_ m n xs) (n,ys,a',m')∧(at_≤a'∧a'≤at_+2 * d)∧ys.length=2 ^ a:=by
 have h8:2 ^ a≤2 ^ 4:=Nat.pow_le_pow_right (by decide) ha
 induction d with
 | zero =>
  intro i at_ m xs hi h0 h1 hx;refine ⟨xs,at_,m,?_,by omega,by omega⟩
  apply ev_up;simp only [spec_l1Cur_tableOf.l0];rw [u64w (by omega) (by omega),shl1 a (by omega)]
  exact ev_p (by omega) (ev_n (by omega) (Ev.now _))
 | succ d ih =>
  intro i at_ m xs hi h0 h1 hx;by_cases c8:x6=8
  ·subst c8
   obtain ⟨b,hb⟩:=zz172 a i ha (by omega) c at_ m n xs (by omega) a 0 0 (by omega) (by omega)
   obtain ⟨ys,a',m',e,hr,hl⟩:=ih (i+1) at_ m (xs ++ [b]) (by omega) h0 (by omega) (by simp;omega)
   refine ⟨ys,a',m',?_,by omega,hl⟩
   apply ev_up;simp only [spec_l1Cur_tableOf.l0];rw [u64w (by omega) (by omega),shl1 a (by omega)]
   refine ev_p (by omega) (ev_p (by omega) (ev_p (by trivial) (hb _ ?_)))
   rw [wN (m:=i+1) (by push_cast;rfl) (by omega)]
   exact e
  ·obtain ⟨b,a1,m1,e1,ha1⟩:=one_ok hc at_ m x6 h0 (by omega)
   cases b with
   | true =>
    obtain ⟨ys,a',m',e,hr,hl⟩:=ih (i+1) a1 m1 (xs ++ [1]) (by omega) (by omega) (by omega) (by simp;omega)
    refine ⟨ys,a',m',?_,by omega,hl⟩
    apply ev_up;simp only [spec_l1Cur_tableOf.l0];rw [u64w (by omega) (by omega),shl1 a (by omega),e1,wN (m:=i+1) (by push_cast;rfl) (by omega)]
    exact ev_p (by omega) (ev_p (by omega) (ev_n c8 (Ev.bind (ev_c rfl) (ev_p rfl (ev_p (by omega) e)))))
   | false =>
    obtain ⟨ys,a',m',e,hr,hl⟩:=ih (i+1) a1 m1 (xs ++ [0]) (by omega) (by omega) (by omega) (by simp;omega)
    refine ⟨ys,a',m',?_,by omega,hl⟩
    apply ev_up;simp only [spec_l1Cur_tableOf.l0];rw [u64w (by omega) (by omega),shl1 a (by omega),e1,wN (m:=i+1) (by push_cast;rfl) (by omega)]
    exact ev_p (by omega) (ev_p (by omega) (ev_n c8 (Ev.bind (ev_c rfl) (ev_n (by simp) (ev_p (by omega) e)))))
theorem zz174 {c:List Int} (hc:bytesOk c) (a:Nat) (ha:a≤4) (at_ m:Int) (h0:0≤at_) (h1:at_≤900000000):∃ ys a' m',Ev (fun k=>spec_l1Cur_tableOf.f k c at_ m a) ((a:Int),ys,a',m')∧(at_≤a'∧a'≤at_+40)∧ys.length=2 ^ a:=by
 have h8:2 ^ a≤2 ^ 4:=Nat.pow_le_pow_right (by decide) ha
 obtain ⟨x6,a1,m1,e1,ha1,_⟩:=among_ok hc at_ m [2,2,4,8] (by simp) h0 (by omega)
 obtain ⟨ys,a',m',e,hr,hl⟩:=zz173 hc a ha x6 a (2 ^ a) 0 a1 m1 [] (by omega) (by omega) (by omega) rfl
 refine ⟨ys,a',m',?_,by omega,hl⟩
 unfold spec_l1Cur_tableOf.f;rw [e1];exact Ev.bind (ev_c rfl) e
theorem table_ok {c:List Int} (hc:bytesOk c) (at_ m:Int) (h0:0≤at_) (h1:at_≤800000000):∃ (a:Nat) (ys:List Int) (a' m':Int),Ev (fun k=>spec_l1Cur_table.f k c at_ m) ((a:Int),ys,a',m')∧(at_≤a'∧a'≤at_+50)∧ys.length=2 ^ a∧a≤4:=by
 obtain ⟨r,a1,m1,e1,ha1,hr⟩:=among_ok hc at_ m [0,1,2,2,3,3,4] (by simp) h0 (by omega)
 obtain ⟨a,rfl,ha⟩:∃ a:Nat,r=a∧a≤4:=by
  have:0≤r∧r≤4:=by simp at hr;omega
  exact ⟨r.toNat,by omega,by omega⟩
 obtain ⟨ys,a',m',e,hr2,hl⟩:=zz174 hc a ha a1 m1 (by omega) (by omega)
 refine ⟨a,ys,a',m',?_,by omega,hl,ha⟩
 unfold spec_l1Cur_table.f;rw [e1];exact Ev.bind (ev_c rfl) (Ev.bind e (Ev.now _))
theorem zz176 {c:List Int} (hc:bytesOk c) (at_ m:Int) (h0:0≤at_) (h1:at_≤700000000):∃ (n:Int) (ys:List Int) (a' m':Int),Ev (fun k=>spec_l1Cur_anyTable.f k c at_ m) (n,ys,a',m')∧(at_≤a'∧a'≤at_+60)∧ys.length≤32 ∧ -1≤n∧n≤5:=by
 obtain ⟨a,ys,a1,m1,e1,ha1,hl,ha⟩:=table_ok hc at_ m h0 (by omega)
 have h8:2 ^ a≤2 ^ 4:=Nat.pow_le_pow_right (by decide) ha
 have h9:=Nat.two_pow_pos a
 obtain ⟨p,a2,m2,e2,ha2,_⟩:=pick_ok hc a1 m1 30 (by omega) (by omega)
 by_cases c0:p=0
 ·obtain ⟨q,a3,m3,e3,ha3,hq⟩:=among_ok hc a2 m2 [-1,wrap64 ((a:Int)+1)] (by simp) (by omega) (by omega)
  have hq2 : -1≤q∧q≤5:=by
   rw [w64 (n:=(a:Int)+1) (by omega) (by omega)] at hq
   simp at hq
   omega
  refine ⟨q,ys,a3,m3,?_,by omega,by omega,hq2.1,hq2.2⟩
  unfold spec_l1Cur_anyTable.f;refine Ev.bind e1 ?_
  dsimp only;rw [e2];refine Ev.bind (ev_c rfl) (ev_p c0 ?_)
  dsimp only;rw [e3];exact Ev.bind (ev_c rfl) (Ev.now _)
 by_cases c1:p=1
 ·obtain ⟨i,a3,m3,e3,ha3,hi0,hi1⟩:=pick_ok hc a2 m2 (ys.length:Int) (by omega) (by omega)
  obtain ⟨q,a4,m4,e4,ha4,hq⟩:=among_ok hc a3 m3 [-1,2] (by simp) (by omega) (by omega)
  refine ⟨a,ys.set i.toNat q,a4,m4,?_,by omega,by rw [List.length_set];omega,by omega,by omega⟩
  unfold spec_l1Cur_anyTable.f;refine Ev.bind e1 ?_
  dsimp only;rw [e2];refine Ev.bind (ev_c rfl) (ev_n c0 (ev_p c1 ?_))
  dsimp only;rw [e3];refine Ev.bind (ev_c rfl) ?_
  dsimp only;rw [e4];exact Ev.bind (ev_c rfl) (ev_p hi0 (ev_p (by omega) (Ev.now _)))
 by_cases c2:p=2
 ·refine ⟨a,ys.drop (1:Int).toNat,a2,m2,?_,by omega,by rw [List.length_drop];omega,by omega,by omega⟩
  unfold spec_l1Cur_anyTable.f;refine Ev.bind e1 ?_
  dsimp only;rw [e2];exact Ev.bind (ev_c rfl) (ev_n c0 (ev_n c1 (ev_p c2 (ev_p (by omega) (Ev.now _)))))
 by_cases c3:p=3
 ·refine ⟨5,List.replicate 32 0,a2,m2,?_,by omega,by rw [List.length_replicate];omega,by omega,by omega⟩
  unfold spec_l1Cur_anyTable.f;refine Ev.bind e1 ?_
  dsimp only;rw [e2];exact Ev.bind (ev_c rfl) (ev_n c0 (ev_n c1 (ev_n c2 (ev_p c3 (ev_p (by omega) (Ev.now _))))))
 ·refine ⟨a,ys,a2,m2,?_,by omega,by omega,by omega,by omega⟩
  unfold spec_l1Cur_anyTable.f;refine Ev.bind e1 ?_
  dsimp only;rw [e2];exact Ev.bind (ev_c rfl) (ev_n c0 (ev_n c1 (ev_n c2 (ev_n c3 (Ev.now _)))))
theorem zz177 {c:List Int} (hc:bytesOk c):∃ (n:Int) (ys:List Int),Ev (fun k=>spec_DrawDiagramOf.f k c) (n,ys)∧ys.length≤32:=by
 obtain ⟨n,ys,a',m',e,_,hl,_⟩:=zz176 hc 0 0 (by omega) (by omega)
 refine ⟨n,ys,?_,hl⟩
 unfold spec_DrawDiagramOf.f;exact Ev.bind e (Ev.now _)
theorem zz178 {c:List Int} (hc:bytesOk c) (T:Int) (hT:T≤20) (n:Int) (ns:List S70) (root:Int) (d:Nat):∀ (xs:List Int) (at_ m:Int),xs.length+d≤20→T≤xs.length+d→0≤at_→at_+6 * d≤900000000 →
  ∃ zs,Ev (fun k=>spec_DrawDiagramValue.l0 k xs T c at_ m n ns root) (n,ns,root,zs)∧zs.length≤20:=by
 induction d with
 | zero =>
  intro xs at_ m hx hTd h0 h1;by_cases hz:(xs.length:Int)>0
  ·obtain ⟨b,a1,m1,e1,ha1⟩:=one_ok hc at_ m 20 (by omega) (by omega)
   cases b with
   | true =>
    obtain ⟨z,a2,m2,e2,ha2,_⟩:=among_ok hc a1 m1 [-1,2] (by simp) (by omega) (by omega)
    refine ⟨xs.set (0:Int).toNat z,?_,by rw [List.length_set];omega⟩
    apply ev_up;simp only [spec_DrawDiagramValue.l0];exact ev_n (by omega) (ev_p hz (Ev.bind (ev_c e1) (ev_p rfl (Ev.bind (ev_c e2) (ev_p (by omega) (Ev.now _))))))
   | false =>
    refine ⟨xs,?_,by omega⟩
    apply ev_up;simp only [spec_DrawDiagramValue.l0];exact ev_n (by omega) (ev_p hz (Ev.bind (ev_c e1) (ev_n (by simp) (Ev.now _))))
  ·refine ⟨xs,?_,by omega⟩
   apply ev_up;simp only [spec_DrawDiagramValue.l0];exact ev_n (by omega) (ev_n hz (Ev.now _))
 | succ d ih =>
  intro xs at_ m hx hTd h0 h1;by_cases c1:(xs.length:Int)<T
  ·obtain ⟨q,a1,m1,e1,ha1,_⟩:=pick_ok hc at_ m 2 (by omega) (by omega)
   obtain ⟨zs,e,hz⟩:=ih (xs ++ [q]) a1 m1 (by rw [List.length_append,List.length_singleton];omega) (by rw [List.length_append,List.length_singleton];omega) (by omega) (by omega)
   refine ⟨zs,?_,hz⟩
   apply ev_up;simp only [spec_DrawDiagramValue.l0];exact ev_p c1 (Ev.bind (ev_c e1) (ev_p (by omega) e))
  ·exact ih xs at_ m (by omega) (by omega) h0 (by omega)
theorem dgNB_ok {code:List Int} (hc:bytesOk code) (inp:Int) (l:List S70) (hl:l.length≤900) (a m:Int) (h0:0≤a) (h1:a≤800000000):∃ l' a' m',dgN code inp (l.length:Int) l a m=some (l',a',m')∧(a≤a'∧a'≤a+10)∧l'.length≤l.length+1:=by
 unfold dgN;by_cases c:(0:Int)<(l.length:Int)
 ·rw [if_pos c]
  obtain ⟨q,a1,m1,e1,ha1,hq0,hq1⟩:=pick_ok hc a m (l.length:Int) h0 (by omega)
  rw [e1,Option.bind_some];dsimp only;rw [if_pos ⟨hq0,by omega⟩]
  obtain ⟨s,a2,m2,e2,ha2,_⟩:=pick_ok hc a1 m1 24 (by omega) (by omega)
  rw [e2,Option.bind_some];dsimp only;by_cases s0:s=0
  ·rw [if_pos s0]
   obtain ⟨z,a3,m3,e3,ha3,_⟩:=among_ok hc a2 m2 [-1,0,1,inp] (by simp) (by omega) (by omega)
   rw [e3,Option.bind_some];exact ⟨_,_,_,rfl,by dsimp only;omega,by rw [List.length_set];omega⟩
  rw [if_neg s0];by_cases s1:s=1
  ·rw [if_pos s1]
   obtain ⟨z,a3,m3,e3,ha3,_⟩:=among_ok hc a2 m2 [-1,0,1,(l.length:Int),wrap64 ((l.length:Int)+2)] (by simp) (by omega) (by omega)
   rw [e3,Option.bind_some];exact ⟨_,_,_,rfl,by dsimp only;omega,by rw [List.length_set];omega⟩
  rw [if_neg s1];by_cases s2:s=2
  ·rw [if_pos s2]
   obtain ⟨z,a3,m3,e3,ha3,_⟩:=among_ok hc a2 m2 [-1,0,1,(l.length:Int),wrap64 ((l.length:Int)+2)] (by simp) (by omega) (by omega)
   rw [e3,Option.bind_some];exact ⟨_,_,_,rfl,by dsimp only;omega,by rw [List.length_set];omega⟩
  rw [if_neg s2];by_cases s3:s=3
  ·rw [if_pos s3,if_pos (by omega)]
   exact ⟨_,_,_,rfl,by omega,by rw [List.length_append,List.length_singleton];omega⟩
  rw [if_neg s3];exact ⟨_,_,_,rfl,by omega,by omega⟩
 ·rw [if_neg c]
  exact ⟨_,_,_,rfl,by omega,by omega⟩
theorem dgEB_ok {code:List Int} (hc:bytesOk code) (inp root:Int) (l:List S70) (hi:0≤inp∧inp≤4) (hl:l.length≤900) (a m:Int) (h0:0≤a) (h1:a≤800000000):∃ n ns r a' m',dgE code inp root l a m=some (n,ns,r,a',m')∧(a≤a'∧a'≤a+10)∧ns.length≤1000 ∧ -1≤n∧n≤5:=by
 unfold dgE;obtain ⟨s,a1,m1,e1,ha1,hs0,hs1⟩:=pick_ok hc a m 30 h0 (by omega)
 rw [e1,Option.bind_some];dsimp only;by_cases s0:s=0
 ·rw [if_pos s0]
  obtain ⟨z,a3,m3,e3,ha3,hz⟩:=among_ok hc a1 m1 [-1,0,1,wrap64 ((l.length:Int)+2)] (by simp) (by omega) (by omega)
  rw [e3,Option.bind_some];exact ⟨_,_,_,_,_,rfl,by dsimp only;omega,by omega,by omega,by omega⟩
 rw [if_neg s0];by_cases s1:s=1
 ·rw [if_pos s1]
  obtain ⟨z,a3,m3,e3,ha3,hz⟩:=among_ok hc a1 m1 [-1,0,wrap64 (inp+1),5] (by simp) (by omega) (by omega)
  rw [e3,Option.bind_some];have hz2 : -1≤z∧z≤5:=by
   rw [w64 (n:=inp+1) (by omega) (by omega)] at hz
   simp at hz
   omega
  exact ⟨_,_,_,_,_,rfl,by dsimp only;omega,by omega,hz2.1,hz2.2⟩
 rw [if_neg s1];by_cases s2:s=2
 ·rw [if_pos s2]
  obtain ⟨z,a3,m3,e3,ha3,hz0,hz1⟩:=pick_ok hc a1 m1 2 (by omega) (by omega)
  rw [e3,Option.bind_some];dsimp only;rw [w64 (n:=40+z) (by omega) (by omega),if_pos ⟨by omega,by omega⟩]
  exact ⟨_,_,_,_,_,rfl,by omega,by rw [List.length_append,List.length_replicate];omega,by omega,by omega⟩
 rw [if_neg s2];exact ⟨_,_,_,_,_,rfl,by omega,by omega,by omega,by omega⟩
theorem zz181 {code:List Int} (hc:bytesOk code) (a m:Int) (h0:0≤a) (h1:a≤700000000):∃ (n:Int) (ns:List S70) (r a' m':Int),Ev (fun k=>spec_l1Cur_diagram.f k code a m) (n,ns,r,a',m')∧(a≤a'∧a'≤a+80)∧ns.length≤1000 ∧ -1≤n∧n≤5:=by
 obtain ⟨n,ys,a1,m1,e1,ha1,hl,hn⟩:=table_ok hc a m h0 (by omega)
 have h15:=zz90 ys hn
 obtain ⟨l,a2,m2,e2,ha2,hl2⟩:=dgNB_ok hc (n:Int) (ndBuild ys n n 0 []).1 (by omega) a1 m1 (by omega) (by omega)
 obtain ⟨n3,ns3,r3,a3,m3,e3,ha3,hl3,hn3,hn4⟩:=dgEB_ok hc (n:Int) (ndBuild ys n n 0 []).2 l ⟨by omega,by omega⟩ (by omega) a2 m2 (by omega) (by omega)
 refine ⟨n3,ns3,r3,a3,m3,?_,by omega,hl3,hn3,hn4⟩
 unfold spec_l1Cur_diagram.f;refine Ev.bind e1 (Ev.bind (zz43 n hn ys hl) ?_)
 dsimp only;rw [e2,Option.bind_some];exact ev_c e3
theorem zz182 {c:List Int} (hc:bytesOk c):∃ (n:Int) (ns:List S70) (r:Int),Ev (fun k=>spec_DrawDiagramText.f k c) (n,ns,r)∧Ev (fun k=>spec_DrawTruePaths.f k c) (n,ns,r)∧ns.length≤1000:=by
 obtain ⟨n,ns,r,a',m',e,_,hl,_⟩:=zz181 hc 0 0 (by omega) (by omega)
 refine ⟨n,ns,r,?_,?_,hl⟩
 ·unfold spec_DrawDiagramText.f spec_DrawTableOf.f
  exact Ev.bind (Ev.bind e (Ev.now _)) (Ev.now _)
 ·unfold spec_DrawTruePaths.f spec_DrawTableOf.f
  exact Ev.bind (Ev.bind e (Ev.now _)) (Ev.now _)
theorem zz183 {c:List Int} (hc:bytesOk c):∃ (n:Int) (ns:List S70) (r:Int) (zs:List Int),Ev (fun k=>spec_DrawDiagramValue.f k c) (n,ns,r,zs)∧ns.length≤1000∧zs.length≤20:=by
 obtain ⟨n,ns,r,a1,m1,e1,ha1,hl,hn0,hn1⟩:=zz181 hc 0 0 (by omega) (by omega)
 obtain ⟨q,a2,m2,e2,ha2,hq0,hq1⟩:=pick_ok hc a1 m1 24 (by omega) (by omega)
 have ht:Int.tdiv q 23=q / 23:=Int.tdiv_eq_ediv_of_nonneg hq0
 obtain ⟨zs,e,hz⟩:=zz178 hc (n+q / 23) (by omega) n ns r 7 [] a2 m2 (by simp) (by simp;omega) (by omega) (by omega)
 refine ⟨n,ns,r,zs,?_,hl,hz⟩
 unfold spec_DrawDiagramValue.f;refine Ev.bind e1 (Ev.bind (ev_c e2) ?_)
 dsimp only;rw [ht,w64 (n:=q / 23) (by omega) (by omega),w64 (n:=n+q / 23) (by omega) (by omega)]
 exact e
theorem pBits_l0 (x n:Nat) (hx:x<65536) (hn:n≤4):∀ (d i:Nat),i+d=n→Ev (fun k=>laws_pBits.l0 k (x:Int) (n:Int) (bitsL x i) (i:Int)) (bitsL x n):=by
 intro d;induction d with
 | zero =>
  intro i hi;apply ev_up;simp only [laws_pBits.l0];refine ev_n (by omega) ?_
  rw [show i=n by omega]
  exact Ev.now _
 | succ d ih =>
  intro i hi;have hl:=zz60 x i
  have hb:=bit_and1 x i (by omega) (by omega)
  have:=ih (i+1) (by omega)
  have e:bitsL x (i+1)=bitsL x i ++ [(((x >>> i) % 2:Nat):Int)]:=by
   unfold bitsL;exact rmap_succ i _
  rw [e] at this;apply ev_up;simp only [laws_pBits.l0];rw [u64w (by omega) (by omega),hb,wN (n:=(i:Int)+1) (m:=i+1) (by omega) (by omega)]
  exact ev_p (by omega) (ev_p (by omega) (ev_p (by omega) this))
theorem pBits_ev (x n:Nat) (hx:x<65536) (hn:n≤4):Ev (fun k=>laws_pBits.f k (x:Int) (n:Int)) (bitsL x n):=by
 unfold laws_pBits.f;exact pBits_l0 x n hx hn n 0 (by omega)
theorem zz186 (a b:List Int):strOfNums (a++b)=strOfNums a++strOfNums b:=by
 apply ByteArray.ext
 simp [strOfNums,ByteArray.data_append]
theorem zz187 (a:List Int):(strOfNums a).size=a.length:=by
 simp [strOfNums,ByteArray.size]
def numD (n:Int):List Int:=if n<10 then [48+n] else [48+n / 10,48+n % 10]
theorem zz189 (n:Int):1≤(numD n).length∧(numD n).length≤2:=by
 unfold numD;split <;> simp
theorem l1Num_ev (n:Int) (h0:0≤n) (h1:n<100):Ev (fun k=>spec_l1Num.f k n) (strOfNums (numD n)):=by
 unfold numD;by_cases h:n<10
 ·rw [if_pos h]
  apply ev_up;simp only [spec_l1Num.f];refine ev_p h (ev_eq (Ev.now _) ?_)
  rw [w64 (by omega) (by omega)]
  congr 2
  omega
 ·rw [if_neg h]
  apply ev_up;simp only [spec_l1Num.f];have e1:Int.tdiv n 10=n / 10:=Int.tdiv_eq_ediv_of_nonneg h0
  have e2:Int.tmod n 10=n % 10:=Int.tmod_eq_emod_of_nonneg h0
  rw [e1,e2,w64 (n:=n / 10) (by omega) (by omega),w64 (n:=48+n % 10) (by omega) (by omega)]
  have hd:Ev (fun k=>spec_l1Num.f k (n / 10)) (strOfNums [48+n / 10]):=by
   apply ev_up;simp only [spec_l1Num.f];refine ev_p (by omega) (ev_eq (Ev.now _) ?_)
   rw [w64 (by omega) (by omega)]
   congr 2
   omega
  refine ev_n h (Ev.bind hd (Ev.bind (ev_c rfl) (ev_p (by rw [zz187,zz187];simp) (ev_eq (Ev.now _) ?_))))
  rw [← zz186,show (48+n % 10) % 256=48+n % 10 by omega]
  rfl
theorem zz191 (n:Int) (h0:0≤n) (h1:n<100):(⟨(Lib.decDigits n.toNat).toArray⟩:ByteArray)=strOfNums (numD n):=by
 obtain ⟨m,rfl⟩:=nat_of h0
 rw [Int.toNat_natCast];have hm:m<100:=by omega
 have:∀ m:Fin 100,(⟨(Lib.decDigits m.val).toArray⟩:ByteArray)=strOfNums (numD (m.val:Int)):=by decide +kernel
 exact this ⟨m,hm⟩
theorem itoa_num (n:Int) (h0:0≤n) (h1:n<100):strconv_Itoa.f n=some (strOfNums (numD n)):=by
 unfold strconv_Itoa.f;rw [if_pos ⟨h0,h1⟩,zz191 n h0 h1]
def outsG:List Int→List Int
 | [] => []
 | o :: r=>32 :: (numD o++outsG r)
theorem zz194 (os:List Int):(outsG os).length≤3 * os.length:=by
 induction os with
 | nil=>simp [outsG]
 | cons o r ih =>
  have:=zz189 o
  rw [outsG,List.length_cons,List.length_append,List.length_cons];omega
theorem zz195 (xs:List Int):(strOfNums xs).data.toList=xs.map (fun n=>UInt8.ofNat n.toNat):=by
 simp [strOfNums]
theorem zz196 (r:List Int):Lib.joinTail [32] ((r.map (fun o=>strOfNums (numD o))).map (fun x=>x.data.toList))=(outsG r).map (fun n=>UInt8.ofNat n.toNat):=by
 induction r with
 | nil=>rfl
 | cons o r ih =>
  rw [outsG,List.map_cons,List.map_cons,List.map_cons,List.map_append,← ih,Lib.joinTail,Lib.joinTail,List.map_cons,List.flatten_cons,zz195];rfl
theorem zz197 (o:Int) (r:List Int):(⟨(Lib.join (((o :: r).map (fun o=>strOfNums (numD o))).map (fun x=>x.data.toList)) (⟨#[32]⟩:ByteArray).data.toList).toArray⟩:ByteArray)=strOfNums (numD o++outsG r):=by
 rw [List.map_cons,List.map_cons,Lib.join_cons,show (⟨#[32]⟩:ByteArray).data.toList=[32] from rfl,zz196,zz195,← List.map_append]
 rfl
theorem lit32:(⟨#[32]⟩:ByteArray)=strOfNums [32]:=rfl
theorem lit10:(⟨#[10]⟩:ByteArray)=strOfNums [10]:=rfl
theorem zz200 (os:List Int) (hl:os.length≤1000) (r:List Int):∀ (p:List Int),os=p++r→(∀ o∈os,0≤o∧o<100)→Ev (fun k=>impl_numbersText.l0 k (p.map (fun o=>strOfNums (numD o))) os (os.length:Int) ((p.length:Nat):Int)) (⟨(Lib.join ((os.map (fun o=>strOfNums (numD o))).map (fun x=>x.data.toList)) (⟨#[32]⟩:ByteArray).data.toList).toArray⟩:ByteArray):=by
 induction r with
 | nil =>
  intro p e ho;have e2:os=p:=by rw [e];simp
  have hlen:os.length=p.length:=by rw [e2]
  apply ev_up;simp only [impl_numbersText.l0];refine ev_n (by omega) (Ev.bind (ev_c ?_) (Ev.now _))
  unfold strings_Join.f;rw [← e2];refine if_pos ⟨by rw [List.length_map];omega,?_⟩
  cases os with
  | nil=>simp [Lib.join_nil]
  | cons o r =>
   have h:=congrArg ByteArray.size (zz197 o r)
   rw [zz187] at h;have h2:(Lib.join (((o :: r).map (fun o=>strOfNums (numD o))).map (fun x=>x.data.toList)) (⟨#[32]⟩:ByteArray).data.toList).length=(numD o++outsG r).length:=by
    rw [← h];simp [ByteArray.size]
   rw [h2,List.length_append];have:=zz189 o
   have:=zz194 r
   rw [List.length_cons] at hl;omega
 | cons x r ih =>
  intro p e ho;have hlen:os.length=p.length+r.length+1:=by rw [e];simp;omega
  have hr:rd os ((p.length:Nat):Int)=x:=by rw [e];exact rdA rfl
  have hb:=ho x (by rw [e];simp)
  apply ev_up;simp only [impl_numbersText.l0];rw [hr,wN (n:=((p.length:Nat):Int)+1) (m:=p.length+1) (by omega) (by omega)]
  refine ev_p (by omega) (ev_p (by omega) (ev_p (by omega) (Ev.bind (ev_c (itoa_num x hb.1 hb.2)) (ev_p (by rw [List.length_map];omega) ?_))))
  have:=ih (p ++ [x]) (by rw [e];simp) ho
  rw [List.map_append,List.length_append,List.length_singleton] at this;exact this
theorem zz201 (o:Int) (r:List Int) (hl:(o :: r).length≤1000) (ho:∀ x∈o :: r,0≤x∧x<100):Ev (fun k=>impl_numbersText.f k (o :: r)) (strOfNums (numD o++outsG r)):=by
 unfold impl_numbersText.f;rw [← zz197];exact zz200 (o :: r) hl (o :: r) [] rfl ho
def lineN (x:S70):List Int:=numD x.f0++(outsG [x.f1,x.f2] ++ [10])
def linesN:List S70→List Int
 | [] => []
 | x :: r=>lineN x++linesN r
theorem zz204 (x:S70):(lineN x).length≤12:=by
 have h0:=zz189 x.f0
 have h1:=zz189 x.f1
 have h2:=zz189 x.f2
 simp only [lineN,outsG,List.length_append,List.length_cons,List.length_nil];omega
def nodeN (x:S70):Prop:=(0≤x.f0∧x.f0<100)∧(0≤x.f1∧x.f1<100)∧(0≤x.f2∧x.f2<100)
theorem zz206 (a root:Int) (ns:List S70) (hl:ns.length≤40) (hN:∀ x∈ns,nodeN x) (hr:0≤root∧root<100) (r:List S70):∀ p xs,ns=p++r→xs.length≤12 * p.length →
  Ev (fun k=>impl_DiagramText.l0 k (strOfNums xs) ns (ns.length:Int) ((p.length:Nat):Int) a ns root) (strOfNums (xs++(linesN r++(numD root ++ [10]))),true):=by
 induction r with
 | nil =>
  intro p xs e hx;have hlen:ns.length=p.length:=by rw [e];simp
  have hn:=zz189 root
  apply ev_up;simp only [impl_DiagramText.l0];refine ev_n (by omega) (Ev.bind (ev_c (itoa_num root hr.1 hr.2)) ?_)
  rw [lit10];simp only [← zz186,zz187,List.length_append];refine ev_p (by omega) (ev_p (by simp;omega) (ev_eq (Ev.now _) ?_))
  simp [linesN]
 | cons x r ih =>
  intro p xs e hx;have hlen:ns.length=p.length+r.length+1:=by rw [e];simp;omega
  have hrd:rd_T70 ns ((p.length:Nat):Int)=x:=by rw [e];exact rdNodeA rfl
  obtain ⟨b0,b1,b2⟩:=hN x (by rw [e];simp)
  have hnt:=zz201 x.f0 [x.f1,x.f2] (by simp) (by
   intro y hy;simp only [List.mem_cons,List.not_mem_nil,or_false] at hy;rcases hy with rfl | rfl | rfl
   ·exact b0
   ·exact b1
   ·exact b2)
  have hll:=zz204 x
  have:=ih (p ++ [x]) (xs++lineN x) (by rw [e];simp) (by simp;omega)
  rw [List.length_append,List.length_singleton,List.append_assoc] at this;apply ev_up;simp only [impl_DiagramText.l0];rw [hrd,wN (n:=((p.length:Nat):Int)+1) (m:=p.length+1) (by omega) (by omega),lit10]
  refine ev_p (by omega) (ev_p (by omega) (ev_p (by omega) (Ev.bind hnt ?_)))
  have hs:strOfNums (numD x.f0++outsG [x.f1,x.f2])++strOfNums [10]=strOfNums (lineN x):=by
   rw [← zz186,lineN,List.append_assoc]
  rw [hs,← zz186];refine ev_p ?_ (ev_p ?_ ?_)
  ·have e1:=congrArg ByteArray.size hs
   rw [ByteArray.size_append,zz187 [10],zz187 (lineN x)] at e1;simp only [List.length_singleton] at e1;omega
  ·rw [zz187,zz187]
   omega
  ·rw [linesN,List.append_assoc]
   exact this
theorem zz207 (a root:Int) (ns:List S70) (hl:ns.length≤40) (hN:∀ x∈ns,nodeN x) (hr:0≤root∧root<100) (r:List S70):∀ p xs,ns=p++r→xs.length≤12 * p.length →
  Ev (fun k=>spec_DiagramText.l0 k (strOfNums xs) ns (ns.length:Int) ((p.length:Nat):Int) a ns root) (strOfNums (xs++(linesN r++(numD root ++ [10]))),true):=by
 induction r with
 | nil =>
  intro p xs e hx;have hlen:ns.length=p.length:=by rw [e];simp
  have hn:=zz189 root
  apply ev_up;simp only [spec_DiagramText.l0];refine ev_n (by omega) (Ev.bind (l1Num_ev root hr.1 hr.2) ?_)
  rw [lit10];simp only [← zz186,zz187,List.length_append];refine ev_p (by omega) (ev_p (by simp;omega) (ev_eq (Ev.now _) ?_))
  simp [linesN]
 | cons x r ih =>
  intro p xs e hx;have hlen:ns.length=p.length+r.length+1:=by rw [e];simp;omega
  have hrd:rd_T70 ns ((p.length:Nat):Int)=x:=by rw [e];exact rdNodeA rfl
  obtain ⟨b0,b1,b2⟩:=hN x (by rw [e];simp)
  have hll:=zz204 x
  have h0:=zz189 x.f0
  have h1:=zz189 x.f1
  have h2:=zz189 x.f2
  have:=ih (p ++ [x]) (xs++lineN x) (by rw [e];simp) (by simp;omega)
  rw [List.length_append,List.length_singleton,List.append_assoc] at this;apply ev_up;simp only [spec_DiagramText.l0];rw [hrd,wN (n:=((p.length:Nat):Int)+1) (m:=p.length+1) (by omega) (by omega),lit10,lit32]
  refine ev_p (by omega) (ev_p (by omega) (ev_p (by omega) (Ev.bind (l1Num_ev x.f0 b0.1 b0.2) (ev_p (by rw [zz187];omega) (Ev.bind (l1Num_ev x.f1 b1.1 b1.2) ?_)))))
  simp only [← zz186,zz187,List.length_append,List.length_singleton];refine ev_p (by omega) (ev_p (by omega) (Ev.bind (l1Num_ev x.f2 b2.1 b2.2) ?_))
  simp only [← zz186,zz187,List.length_append,List.length_singleton];refine ev_p (by omega) (ev_p (by omega) (ev_p (by omega) ?_))
  have hs:numD x.f0 ++ [32]++numD x.f1 ++ [32]++numD x.f2 ++ [10]=lineN x:=by simp [lineN,outsG]
  rw [hs,linesN,List.append_assoc];exact this
open Classical in
noncomputable def dgTextR (a:Int) (ns:List S70) (root:Int):ByteArray×Bool:=if diagM a ns root then (strOfNums (linesN ns++(numD root ++ [10])),true) else (⟨#[]⟩,false)
theorem zz209 (a:Int) (ns:List S70) (root:Int) (hl:ns.length≤9223372036854775806):Ev (fun k=>impl_DiagramText.f k a ns root) (dgTextR a ns root)∧Ev (fun k=>spec_DiagramText.f k a ns root) (dgTextR a ns root):=by
 unfold impl_DiagramText.f spec_DiagramText.f dgTextR;by_cases c:diagM a ns root
 ·obtain ⟨n,rfl,hn,hb,_,_,d1,d2,_,_⟩:=diag_evs c
  have hl40:=c.2.2.1
  have hr0:=c.2.2.2.1
  have hr1:=c.2.2.2.2.1
  have hN:∀ x∈ns,nodeN x:=fun x hx=>by
   obtain ⟨i,hi,rfl⟩:=List.getElem_of_mem hx
   have e:ns.getD i z70=ns[i]:=by simp [List.getD_eq_getElem?_getD,List.getElem?_eq_getElem hi]
   have h0:=hb.inp i hi
   have h1:=hb.low i hi
   have h2:=hb.high i hi
   rw [e] at h0 h1 h2;unfold nodeN;omega
  rw [if_pos c];have i1:=zz206 (n:Int) root ns hl40 hN ⟨hr0,by omega⟩ ns [] [] rfl (by simp)
  have s1:=zz207 (n:Int) root ns hl40 hN ⟨hr0,by omega⟩ ns [] [] rfl (by simp)
  exact ⟨Ev.bind d2 (ev_p rfl i1),Ev.bind d1 (ev_p rfl s1)⟩
 ·rw [if_neg c]
  obtain ⟨d1,d2⟩:=diag_no hl c
  exact ⟨Ev.bind d2 (ev_n (by simp) (Ev.now _)),Ev.bind d1 (ev_n (by simp) (Ev.now _))⟩
theorem zz210 (l:List Int) (hl:l.length≤16) (hb:∀ b∈l,0≤b∧b≤1) (r:List Int):∀ (p:List Int) (n i:Nat),i=p.length→l=p++r→n<2 ^ i →
  Ev (fun k=>spec_ttIndex.l0 k n l l.length i) ((n+2 ^ i * idxOf r:Nat):Int):=by
 induction r with
 | nil =>
  intro p n i hi e hn;have hlen:l.length=p.length:=by rw [e];simp
  apply ev_up;simp only [spec_ttIndex.l0];refine ev_n (by omega) (ev_eq (Ev.now _) ?_)
  simp [idxOf]
 | cons x r ih =>
  intro p n i hi e hn;have hlen:l.length=p.length+r.length+1:=by rw [e];simp;omega
  have hx:rd l i=x:=by rw [e];exact rdA (by omega)
  have hxb:=hb x (by rw [e];simp)
  obtain ⟨b,rfl⟩:=nat_of hxb.1
  have h8:2 ^ i≤2 ^ 16:=Nat.pow_le_pow_right (by decide) (by omega)
  have h9:2 ^ (i+1)=2 * 2 ^ i:=by rw [Nat.pow_succ];omega
  have hbi:b * 2 ^ i≤2 ^ i:=by
   have:b≤1:=by omega
   calc b * 2 ^ i≤1 * 2 ^ i:=Nat.mul_le_mul_right _ this
    _=2 ^ i:=Nat.one_mul _
  apply ev_up;simp only [spec_ttIndex.l0];refine ev_p (by omega) (ev_p (by omega) (ev_p (by omega) ?_))
  rw [hx,u64w (by omega) (by omega),shlN b i (by omega) (by omega),wN (n:=(n:Int)+((b * 2 ^ i:Nat):Int)) (m:=n+b * 2 ^ i) (by omega) (by omega),wN (n:=(i:Int)+1) (m:=i+1) (by omega) (by omega)]
  refine ev_p (by omega) (ev_eq (ih (p ++ [(b:Int)]) (n+b * 2 ^ i) (i+1) (by simp;omega) (by rw [e];simp) (by omega)) ?_)
  rw [idxOf,Int.toNat_natCast,h9,Nat.mul_add,Nat.mul_comm (2 ^ i) b,← Nat.mul_assoc (2 ^ i) 2,Nat.mul_comm (2 ^ i) 2];omega
theorem zz211 (l:List Int) (hl:l.length≤16) (hb:∀ b∈l,0≤b∧b≤1):Ev (fun k=>spec_ttIndex.f k l) ((idxOf l:Nat):Int):=by
 unfold spec_ttIndex.f;refine ev_eq (zz210 l hl hb l [] 0 0 rfl rfl (by omega)) ?_
 simp
open Classical in
noncomputable def dgValR (a:Int) (ns:List S70) (root:Int) (bits:List Int):Int×Bool:=if diagM a ns root∧(bits.length:Int)=a∧bits.all (inB 0 1)=true then (ndVal ns (idxOf bits) ns.length root,true) else (0,false)
theorem zz213 (a:Int) (ns:List S70) (root:Int) (bits:List Int) (hl:ns.length≤9223372036854775806) (hbl:bits.length≤1000):Ev (fun k=>impl_DiagramValue.f k a ns root bits) (dgValR a ns root bits)∧Ev (fun k=>spec_DiagramValue.f k a ns root bits) (dgValR a ns root bits):=by
 have no:¬ (diagM a ns root∧(bits.length:Int)=a∧bits.all (inB 0 1)=true)→Ev (fun _:Nat=>some ((0:Int),false)) (dgValR a ns root bits)∧Ev (fun k=>spec_DiagramValue.j0 k bits true a ns root) (dgValR a ns root bits):=fun h=>by
  have e:dgValR a ns root bits=(0,false):=by
   unfold dgValR;exact if_neg h
  rw [e];refine ⟨Ev.now _,?_⟩
  apply ev_up;simp only [spec_DiagramValue.j0];exact ev_p (by trivial) (Ev.now _)
 unfold impl_DiagramValue.f spec_DiagramValue.f;by_cases c:diagM a ns root
 ·obtain ⟨n,rfl,hn,hb,_,_,d1,d2,_,_⟩:=diag_evs c
  have hl40:=c.2.2.1
  have hr0:=c.2.2.2.1
  have hr1:=c.2.2.2.2.1
  by_cases c2:(bits.length:Int)=(n:Int)
  ·have ib:=zz56 bits (by omega)
   have sb:=l1All_ev bits 0 1 (by omega)
   by_cases c3:bits.all (inB 0 1)=true
   ·have hbb:∀ b∈bits,0≤b∧b≤1:=fun b hbm=>of_decide_eq_true (List.all_eq_true.1 c3 b hbm)
    have hlt:=idxOf_lt bits hbb
    have hnb:bits.length=n:=by omega
    have h16:=pow4 hn
    have iv:=zz68 hb hn (by omega) (idxOf bits) root hr0 hr1
    have eb:=zz64 bits hbb
    rw [hnb] at eb hlt;rw [eb] at iv;have si:=zz211 bits (by omega) hbb
    have sv:=zz33 hb hn (by omega) (idxOf bits) (by omega) root ns.length root hr0 hr1 (by omega)
    unfold dgValR;rw [if_pos ⟨c,c2,c3⟩];refine ⟨Ev.bind d2 (ev_p rfl (ev_p c2 (Ev.bind ib (ev_p c3 (Ev.bind iv (Ev.now _)))))),Ev.bind d1 (ev_p rfl (ev_p c2 (Ev.bind sb ?_)))⟩
    rw [c3];apply ev_up;simp only [spec_DiagramValue.j0];refine ev_n (by simp) (Ev.bind si (Ev.bind ?_ (Ev.now _)))
    unfold spec_ddValue.f;exact sv
   ·have hno:=no (fun h=>c3 h.2.2)
    refine ⟨Ev.bind d2 (ev_p rfl (ev_p c2 (Ev.bind ib (ev_n c3 hno.1)))),Ev.bind d1 (ev_p rfl (ev_p c2 (Ev.bind sb ?_)))⟩
    rw [Bool.not_eq_true] at c3;rw [c3];exact hno.2
  ·have hno:=no (fun h=>c2 h.2.1)
   exact ⟨Ev.bind d2 (ev_p rfl (ev_n c2 hno.1)),Ev.bind d1 (ev_p rfl (ev_n c2 hno.2))⟩
 ·obtain ⟨d1,d2⟩:=diag_no hl c
  have hno:=no (fun h=>c h.1)
  exact ⟨Ev.bind d2 (ev_n (by simp) hno.1),Ev.bind d1 (ev_n (by simp) hno.2)⟩
theorem zz214 (l:List Int) (hl:l.length≤9223372036854775806) (r:List Int):∀ (p:List Int) (i:Int),i=p.length→l=p++r→Ev (fun k=>laws_sameInts.l0 k l l l.length i) true:=by
 induction r with
 | nil =>
  intro p i hi e;have hlen:l.length=p.length:=by rw [e];simp
  apply ev_up;simp only [laws_sameInts.l0];exact ev_n (by omega) (Ev.now _)
 | cons x r ih =>
  intro p i hi e;have hlen:l.length=p.length+r.length+1:=by rw [e];simp;omega
  have ih':=ih (p ++ [x]) (i+1) (by simp;omega) (by rw [e];simp)
  apply ev_up;simp only [laws_sameInts.l0];refine ev_p (by omega) (ev_p (by omega) (ev_p (by omega) (ev_p (by omega) (ev_p (by trivial) ?_))))
  rw [w64 (n:=i+1) (by omega) (by omega)]
  exact ih'
theorem zz215 (l:List Int) (hl:l.length≤9223372036854775806):Ev (fun k=>laws_sameInts.f k l l) true:=by
 unfold laws_sameInts.f;exact ev_p rfl (zz214 l hl l [] 0 rfl rfl)
theorem idx_bits:∀ n,n<5→∀ x,x<2 ^ n→idxOf (bitsL x n)=x:=by decide +kernel
theorem pSameT (a:Int) (l:List Int) (hl:l.length≤9223372036854775806):Ev (fun k=>laws_pSameTable.f k a l a l) true:=by
 unfold laws_pSameTable.f;exact ev_p rfl (Ev.bind (zz215 l hl) (Ev.now _))
theorem dia_j1 (l1:List Int) (hc:bytesOk l1):Ev (fun k=>laws_FnDiagrams.j1 k l1) true:=by
 obtain ⟨n,ns,r,zs,e1,h1,h2⟩:=zz183 hc
 obtain ⟨n2,ns2,r2,e2,e3,h3⟩:=zz182 hc
 obtain ⟨v1,v2⟩:=zz213 n ns r zs (by omega) (by omega)
 obtain ⟨t1,t2⟩:=zz209 n2 ns2 r2 (by omega)
 obtain ⟨p1,p2⟩:=zz151 n2 ns2 r2 (by omega)
 have hd:=zz84 n2 ns2 r2 (by omega)
 have hb:(diagB n2 ns2 r2 == (dgTextR n2 ns2 r2).2)=true:=by
  unfold dgTextR;by_cases c:diagM n2 ns2 r2
  ·rw [if_pos c,(zz76 _ _ _).2 c]
   rfl
  ·have b1:diagB n2 ns2 r2=false:=by rw [Bool.eq_false_iff];exact fun h=>c ((zz76 _ _ _).1 h)
   rw [if_neg c,b1];rfl
 apply ev_up;simp only [laws_FnDiagrams.j1];refine Ev.bind e1 (Ev.bind v1 (Ev.bind v2 (Ev.bind e2 (Ev.bind t1 (Ev.bind t2 (Ev.bind e3 (Ev.bind p1 (Ev.bind p2 ?_))))))))
 refine ev_p (by simp) (ev_p rfl (ev_p (by simp) (ev_p rfl (ev_p (by simp) (ev_p rfl (Ev.bind hd ?_))))))
 exact ev_c (by rw [hb])
theorem dia_l0 (l1:List Int) (hc:bytesOk l1) {n:Nat} (hn:n≤4) {ys:List Int} (hv:ys.length=2 ^ n) (hb:∀ x∈ys,0≤x∧x≤1) {ns:List S70} {root:Int} (hd:diagM (n:Int) ns root) (ht:ndTab n ns root=ys) :
  ∀ (d i:Nat),i+d=2 ^ n→Ev (fun k=>laws_FnDiagrams.l0 k l1 ys (ys.length:Int) (i:Int) n ys n ns root) true:=by
 have h16:=pow4 hn
 have hl40:=hd.2.2.1
 intro d;induction d with
 | zero =>
  intro i hi;have hct:=zz139 hd
  rw [Int.toNat_natCast,ht] at hct;have hp:=(zz151 (n:Int) ns root (by omega)).1
  have hsum:=pSum_ev ys (by omega) hb
  obtain ⟨s0,s1,s2⟩:=zz152 hn hd
  rw [ht] at s1 s2;unfold pathsR at hp;rw [if_pos hd] at hp;apply ev_up;simp only [laws_FnDiagrams.l0];refine ev_n (by omega) (Ev.bind hct (Ev.bind hp (ev_p rfl (Ev.bind hsum (ev_p rfl (ev_p rfl (ev_n (by dsimp only;omega) (ev_n ?_ (dia_j1 l1 hc)))))))))
  dsimp only;by_cases c:sumI ys=0
  ·rw [c,s2.2 c]
   decide
  ·have c2:¬ ndWays ns ns.length root=0:=fun h=>c (s2.1 h)
   rw [show (ndWays ns ns.length root == 0)=false by rw [beq_eq_false_iff_ne];exact c2,show (sumI ys == 0)=false by rw [beq_eq_false_iff_ne];exact c]
   decide
 | succ d ih =>
  intro i hi;have hbits:=pBits_ev i n (by omega) hn
  have hl:=zz60 i n
  have hval:=(zz213 (n:Int) ns root (bitsL i n) (by omega) (by omega)).1
  have e:dgValR (n:Int) ns root (bitsL i n)=(rd ys (i:Int),true):=by
   unfold dgValR;rw [if_pos ⟨hd,by rw [hl],List.all_eq_true.2 (fun b hbm=>decide_eq_true (by
    rcases zz61 i n b hbm with h | h <;> omega))⟩,idx_bits n (by omega) i (by omega),← ht,ndTab_rd (by omega)]
  rw [e] at hval;apply ev_up;simp only [laws_FnDiagrams.l0];rw [wN (n:=(i:Int)+1) (m:=i+1) (by omega) (by omega)]
  exact ev_p (by omega) (ev_p (by omega) (ev_p (by omega) (Ev.bind hbits (Ev.bind hval (ev_p rfl (ev_p rfl (ih (i+1) (by omega))))))))
theorem FnDiagrams:laws_FnDiagrams.Pure:=by
 intro l0 l1 _ h1 h2 _ h3 h4;apply ev_get
 have hc0:=bytes_of h1 h2
 have hc1:=bytes_of h3 h4
 unfold laws_FnDiagrams.f;obtain ⟨b,hb⟩:∃ b,laws_big.f l0 l1=some b:=by
  unfold laws_big.f;split <;> exact ⟨_,rfl⟩
 simp only [hb,Option.bind_some];cases b with
 | true=>exact ev_p rfl (Ev.now _)
 | false =>
  refine ev_n (by decide) ?_
  obtain ⟨a,ys,e,hl⟩:=zz177 hc0
  have it:=zz57 a ys (by omega)
  have st:=zz58 a ys (by omega)
  have hj:=dia_j1 l1 hc1
  by_cases c:tableM a ys=true
  ·obtain ⟨n,rfl,hn,hv,_,hbit⟩:=zz54 c
   have d1:=zz95 c
   rw [c] at it st;have d2:Ev (fun k=>spec_DiagramOf.f k n ys) ((n:Int),(ndBuild ys n n 0 []).1,(ndBuild ys n n 0 []).2,true):=by
    unfold spec_DiagramOf.f;exact Ev.bind st (ev_p rfl (Ev.bind (zz43 n hn ys hv) (Ev.now _)))
   obtain ⟨hd,ht⟩:=zz93 hn hv hbit
   have h15:=zz90 ys hn
   have hul:=zz157 hn hv hbit
   generalize hns:(ndBuild ys n n 0 []).1=ns at *
   generalize hrt:(ndBuild ys n n 0 []).2=root at *
   have tb:=zz94 hd
   rw [Int.toNat_natCast,ht] at tb;have iu:=zz163 hd
   rw [hul] at iu;have dp:=zz124 (n:Int) ys (by omega)
   have ds:=zz134 (n:Int) ys (by omega)
   unfold depR at dp ds;rw [if_pos c,Int.toNat_natCast] at dp ds;have isd:=zz84 (n:Int) ns root (by omega)
   rw [(zz76 _ _ _).2 hd] at isd;have hdl:=zz119 n (depB ys)
   have ss:=zz215 (depL n ys) (by show (listB n (depB ys)).length≤_;omega)
   refine Ev.bind e (Ev.bind d1 (Ev.bind d2 (ev_n (by simp) (Ev.bind (pSameD _ _ _ (by dsimp only;omega)) (ev_p rfl (Ev.bind it (ev_n (by simp) (ev_p rfl ?_))))))))
   refine Ev.bind tb (Ev.bind iu (Ev.bind dp (Ev.bind ds (Ev.bind isd (ev_p rfl (ev_p rfl (Ev.bind (pSameT _ _ (by dsimp only;omega)) (ev_p rfl (ev_p rfl (ev_p rfl (ev_p rfl (Ev.bind ss (ev_p rfl (Ev.bind ss (ev_p rfl ?_)))))))))))))))
   exact dia_l0 l1 hc1 hn hv hbit hd ht (2 ^ n) 0 (by omega)
  ·rw [Bool.not_eq_true] at c
   rw [c] at it st;have d1:Ev (fun k=>impl_DiagramOf.f k a ys) (0,[],0,false):=by
    unfold impl_DiagramOf.f;exact Ev.bind it (ev_n (by simp) (Ev.now _))
   have d2:Ev (fun k=>spec_DiagramOf.f k a ys) (0,[],0,false):=by
    unfold spec_DiagramOf.f;exact Ev.bind st (ev_n (by simp) (Ev.now _))
   exact Ev.bind e (Ev.bind d1 (Ev.bind d2 (ev_n (by simp) (Ev.bind (pSameD _ _ _ (by simp)) (ev_p rfl (Ev.bind it (ev_n (by simp) (ev_n (by simp) hj))))))))
end Go.Proofs.YtlnhpkjioppbiaaDoor.Pure
