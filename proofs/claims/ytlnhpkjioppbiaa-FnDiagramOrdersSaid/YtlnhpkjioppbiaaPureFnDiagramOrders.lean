/- The pure part of the law FnDiagramOrders: what the program and the reference compute is the same, for all arguments. Conditions: the numbers are of Go's int, the lengths of slices are. -/
import Derived.Test.YtlnhpkjioppbiaaSFnDiagramOrdersx26
import Derived.Test.YtlnhpkjioppbiaaVDiKit
set_option linter.unusedVariables false
set_option linter.unusedSimpArgs false
namespace Go.Proofs.Ytlnhpkjioppbiaa.Pure
open Go.RowKit Go.Proofs.Ytlnhpkjioppbiaa.QFnDiagramOrders Go.Proofs.YtlnhpkjioppbiaaW.PrintWords Go.Proofs.YtlnhpkjioppbiaaW.PrintLast Go.Proofs.Ytlnhpkjioppbiaa.Open Go.Proofs.Ytlnhpkjioppbiaa.Kit
theorem rd_mem {ds:List Int} {i:Int} (h0:0≤i) (h1:i<ds.length):rd ds i∈ds:=by
 obtain ⟨n,rfl⟩:=nat_of h0
 have hn:n<ds.length:=by omega
 rw [rdN hn];exact List.getElem_mem hn
def bytesOk (code:List Int):Prop:=code.length≤140737488355328∧∀ x∈code,0≤x∧x≤255
theorem bits255 (y:Int):0≤wrap64 (Go.bits .and .u64 y 255)∧wrap64 (Go.bits .and .u64 y 255)≤255:=by
 show 0≤wrap64 (IntKind.u64.wrap ((BitVec.ofInt 64 y &&& BitVec.ofInt 64 255).toNat:Int))∧wrap64 (IntKind.u64.wrap ((BitVec.ofInt 64 y &&& BitVec.ofInt 64 255).toNat:Int))≤255
 have h:(BitVec.ofInt 64 y &&& BitVec.ofInt 64 255).toNat≤255:=by
  rw [BitVec.toNat_and];exact Nat.le_trans Nat.and_le_right (by decide)
 generalize (BitVec.ofInt 64 y &&& BitVec.ofInt 64 255).toNat=m at h
 rw [u64w (by omega) (by omega),w64 (n:=(m:Int)) (by omega) (by omega)]
 omega
theorem next_ok {code:List Int} (hc:bytesOk code) (at_ mix:Int) (h0:0≤at_) (h1:at_≤4000000000000000000):∃ r m,spec_l1Cur_next.f code at_ mix=some (r,at_+1,m)∧0≤r∧r≤255:=by
 unfold spec_l1Cur_next.f;rw [w64 (n:=at_+1) (by omega) (by omega)]
 by_cases c1:at_<(code.length:Int)
 ·have hm:=hc.2 (rd code at_) (rd_mem h0 c1)
  rw [if_pos c1,if_pos h0,if_pos (by omega),w64 (n:=rd code at_) (by omega) (by omega)]
  exact ⟨_,_,rfl,hm.1,hm.2⟩
 ·rw [if_neg c1,if_neg (by omega)]
  exact ⟨_,_,rfl,(bits255 _).1,(bits255 _).2⟩
theorem pick_ok {code:List Int} (hc:bytesOk code) (at_ mix n:Int) (h0:0≤at_) (h1:at_≤3999999999999999990):∃ r a m,spec_l1Cur_pick.f code at_ mix n=some (r,a,m)∧(at_≤a∧a≤at_+2)∧0≤r∧(r=0∨r<n):=by
 unfold spec_l1Cur_pick.f;by_cases c:n≤1
 ·rw [if_pos c]
  exact ⟨0,at_,mix,rfl,by omega,by omega,.inl rfl⟩
 ·rw [if_neg c]
  obtain ⟨r,m,e,hr0,hr1⟩:=next_ok hc at_ mix h0 (by omega)
  rw [e,Option.bind_some];by_cases c2:n>200
  ·obtain ⟨r2,m2,e2,hs0,hs1⟩:=next_ok hc (at_+1) m (by omega) (by omega)
   rw [if_pos c2,e2,Option.bind_some,if_neg (by omega)]
   dsimp only;rw [w64 (n:=r * 256) (by omega) (by omega),w64 (n:=r * 256+r2) (by omega) (by omega)]
   exact ⟨_,_,_,rfl,by omega,Int.tmod_nonneg _ (by omega),.inr (Int.tmod_lt_of_pos _ (by omega))⟩
  ·rw [if_neg c2,if_neg (by omega)]
   dsimp only;exact ⟨_,_,_,rfl,by omega,Int.tmod_nonneg _ (by omega),.inr (Int.tmod_lt_of_pos _ (by omega))⟩
theorem among_ok {code:List Int} (hc:bytesOk code) (at_ mix:Int) (l:List Int) (hl:0<l.length) (h0:0≤at_) (h1:at_≤3999999999999999990):∃ r a m,spec_l1Cur_among.f code at_ mix l=some (r,a,m)∧(at_≤a∧a≤at_+2)∧r∈l:=by
 unfold spec_l1Cur_among.f;obtain ⟨r,a,m,e,ha,hr0,hr1⟩:=pick_ok hc at_ mix (l.length:Int) h0 h1
 have hr2:r<(l.length:Int):=by omega
 rw [e,Option.bind_some];dsimp only;rw [if_pos hr0,if_pos hr2];exact ⟨_,_,_,rfl,ha,rd_mem hr0 hr2⟩
theorem one_ok {code:List Int} (hc:bytesOk code) (at_ mix n:Int) (h0:0≤at_) (h1:at_≤3999999999999999990):∃ r a m,spec_l1Cur_one.f code at_ mix n=some (r,a,m)∧(at_≤a∧a≤at_+2):=by
 unfold spec_l1Cur_one.f;obtain ⟨r,a,m,e,ha,_⟩:=pick_ok hc at_ mix n h0 h1
 rw [e,Option.bind_some];exact ⟨_,_,_,rfl,ha⟩
theorem bytes_of {l:List Int} (h1:l.length * 1≤140737488351232) (h2:∀ x∈l,(Lit.int .u8 x).wf=true):bytesOk l:=by
 refine ⟨by omega,fun x hx=>?_⟩
 have:=h2 x hx
 simp [Lit.wf,IntKind.min,IntKind.max,IntKind.bits,IntKind.signed] at this
 omega
theorem bit_and1 (a n:Nat) (ha:a<2 ^ 62) (hn:n≤62):Go.bits .and .i64 (shr .i64 (a:Int) (n:Int)) 1=(((a >>> n) % 2:Nat):Int):=by
 rw [shrN a n hn];have h:a >>> n≤a:=Nat.shiftRight_le a n
 have:=andN (a >>> n) 1 (by omega) (by omega)
 rw [Nat.and_one_is_mod] at this;exact this
theorem zz9 (a n:Nat) (ha:a<2 ^ 62) (hn:n≤62):spec_ttBit.f (a:Int) (n:Int)=some (((a >>> n) % 2:Nat):Int):=by
 unfold spec_ttBit.f;rw [u64w (by omega) (by omega),if_pos (by omega),bit_and1 a n ha hn]
theorem zz10 (a i:Nat) (ha:a≤4) (hi:i<16) (c:List Int) (at_ m n:Int) (xs:List Int) (hx:xs.length≤1000) (d:Nat):∀ (s j:Nat),j+d=a→s≤j →
  ∃ b:Int,∀ v,Ev (fun k=>spec_l1Cur_tableOf.l0 k a 8 (wrap64 ((i:Int)+1)) c at_ m n (xs ++ [b])) v→Ev (fun k=>spec_l1Cur_tableOf.l1 k a 8 i s j c at_ m n xs) v:=by
 induction d with
 | zero =>
  intro s j hj hs;refine ⟨Int.tmod (wrap64 (Int.tdiv (s:Int) 2)) 2,fun v hv=>?_⟩
  apply ev_up;simp only [spec_l1Cur_tableOf.l1];exact ev_n (by omega) (ev_p (by omega) hv)
 | succ d ih =>
  intro s j hj hs;obtain ⟨b,hb⟩:=ih (s+(i >>> j) % 2) (j+1) (by omega) (by omega)
  refine ⟨b,fun v hv=>?_⟩
  apply ev_up;simp only [spec_l1Cur_tableOf.l1];refine ev_p (by omega) ?_
  rw [zz9 i j (by omega) (by omega)]
  refine Ev.bind (ev_c rfl) ?_
  rw [wN (m:=s+(i >>> j) % 2) (by push_cast;rfl) (by omega),wN (m:=j+1) (by push_cast;rfl) (by omega)]
  exact hb v hv
theorem zz11 {c:List Int} (hc:bytesOk c) (a:Nat) (ha:a≤4) (x6 n:Int) (d:Nat):∀ (i:Nat) (at_ m:Int) (xs:List Int),i+d=2 ^ a→0≤at_→at_+2 * d≤999000000→xs.length=i →
  ∃ ys a' m',Ev (fun k=>spec_l1Cur_tableOf.l0 k a x6 i c at_ m n xs) (n,ys,a',m')∧(at_≤a'∧a'≤at_+2 * d)∧ys.length=2 ^ a:=by
 have h8:2 ^ a≤2 ^ 4:=Nat.pow_le_pow_right (by decide) ha
 induction d with
 | zero =>
  intro i at_ m xs hi h0 h1 hx;refine ⟨xs,at_,m,?_,by omega,by omega⟩
  apply ev_up;simp only [spec_l1Cur_tableOf.l0];rw [u64w (by omega) (by omega),shl1 a (by omega)]
  exact ev_p (by omega) (ev_n (by omega) (Ev.now _))
 | succ d ih =>
  intro i at_ m xs hi h0 h1 hx;by_cases c8:x6=8
  ·subst c8
   obtain ⟨b,hb⟩:=zz10 a i ha (by omega) c at_ m n xs (by omega) a 0 0 (by omega) (by omega)
   obtain ⟨ys,a',m',e,hr,hl⟩:=ih (i+1) at_ m (xs ++ [b]) (by omega) h0 (by omega) (by simp;omega)
   refine ⟨ys,a',m',?_,by omega,hl⟩
   apply ev_up;simp only [spec_l1Cur_tableOf.l0];rw [u64w (by omega) (by omega),shl1 a (by omega)]
   refine ev_p (by omega) (ev_p (by omega) (ev_p (by trivial) (hb _ ?_)))
   rw [wN (m:=i+1) (by push_cast;rfl) (by omega)]
   exact e
  ·obtain ⟨b,a1,m1,e1,ha1⟩:=one_ok hc at_ m x6 h0 (by omega)
   cases b with
   | true =>
    obtain ⟨ys,a',m',e,hr,hl⟩:=ih (i+1) a1 m1 (xs ++ [1]) (by omega) (by omega) (by omega) (by simp;omega)
    refine ⟨ys,a',m',?_,by omega,hl⟩
    apply ev_up;simp only [spec_l1Cur_tableOf.l0];rw [u64w (by omega) (by omega),shl1 a (by omega),e1,wN (m:=i+1) (by push_cast;rfl) (by omega)]
    exact ev_p (by omega) (ev_p (by omega) (ev_n c8 (Ev.bind (ev_c rfl) (ev_p rfl (ev_p (by omega) e)))))
   | false =>
    obtain ⟨ys,a',m',e,hr,hl⟩:=ih (i+1) a1 m1 (xs ++ [0]) (by omega) (by omega) (by omega) (by simp;omega)
    refine ⟨ys,a',m',?_,by omega,hl⟩
    apply ev_up;simp only [spec_l1Cur_tableOf.l0];rw [u64w (by omega) (by omega),shl1 a (by omega),e1,wN (m:=i+1) (by push_cast;rfl) (by omega)]
    exact ev_p (by omega) (ev_p (by omega) (ev_n c8 (Ev.bind (ev_c rfl) (ev_n (by simp) (ev_p (by omega) e)))))
theorem zz12 {c:List Int} (hc:bytesOk c) (a:Nat) (ha:a≤4) (at_ m:Int) (h0:0≤at_) (h1:at_≤900000000):∃ ys a' m',Ev (fun k=>spec_l1Cur_tableOf.f k c at_ m a) ((a:Int),ys,a',m')∧(at_≤a'∧a'≤at_+40)∧ys.length=2 ^ a:=by
 have h8:2 ^ a≤2 ^ 4:=Nat.pow_le_pow_right (by decide) ha
 obtain ⟨x6,a1,m1,e1,ha1,_⟩:=among_ok hc at_ m [2,2,4,8] (by simp) h0 (by omega)
 obtain ⟨ys,a',m',e,hr,hl⟩:=zz11 hc a ha x6 a (2 ^ a) 0 a1 m1 [] (by omega) (by omega) (by omega) rfl
 refine ⟨ys,a',m',?_,by omega,hl⟩
 unfold spec_l1Cur_tableOf.f;rw [e1];exact Ev.bind (ev_c rfl) e
theorem table_ok {c:List Int} (hc:bytesOk c) (at_ m:Int) (h0:0≤at_) (h1:at_≤800000000):∃ (a:Nat) (ys:List Int) (a' m':Int),Ev (fun k=>spec_l1Cur_table.f k c at_ m) ((a:Int),ys,a',m')∧(at_≤a'∧a'≤at_+50)∧ys.length=2 ^ a∧a≤4:=by
 obtain ⟨r,a1,m1,e1,ha1,hr⟩:=among_ok hc at_ m [0,1,2,2,3,3,4] (by simp) h0 (by omega)
 obtain ⟨a,rfl,ha⟩:∃ a:Nat,r=a∧a≤4:=by
  have:0≤r∧r≤4:=by simp at hr;omega
  exact ⟨r.toNat,by omega,by omega⟩
 obtain ⟨ys,a',m',e,hr2,hl⟩:=zz12 hc a ha a1 m1 (by omega) (by omega)
 refine ⟨a,ys,a',m',?_,by omega,hl,ha⟩
 unfold spec_l1Cur_table.f;rw [e1];exact Ev.bind (ev_c rfl) (Ev.bind e (Ev.now _))
theorem zz14 {c:List Int} (hc:bytesOk c) (at_ m:Int) (h0:0≤at_) (h1:at_≤700000000):∃ (n:Int) (ys:List Int) (a' m':Int),Ev (fun k=>spec_l1Cur_anyTable.f k c at_ m) (n,ys,a',m')∧(at_≤a'∧a'≤at_+60)∧ys.length≤32 ∧ -1≤n∧n≤5:=by
 obtain ⟨a,ys,a1,m1,e1,ha1,hl,ha⟩:=table_ok hc at_ m h0 (by omega)
 have h8:2 ^ a≤2 ^ 4:=Nat.pow_le_pow_right (by decide) ha
 have h9:=Nat.two_pow_pos a
 obtain ⟨p,a2,m2,e2,ha2,_⟩:=pick_ok hc a1 m1 30 (by omega) (by omega)
 by_cases c0:p=0
 ·obtain ⟨q,a3,m3,e3,ha3,hq⟩:=among_ok hc a2 m2 [-1,wrap64 ((a:Int)+1)] (by simp) (by omega) (by omega)
  have hq2 : -1≤q∧q≤5:=by
   rw [w64 (n:=(a:Int)+1) (by omega) (by omega)] at hq
   simp at hq
   omega
  refine ⟨q,ys,a3,m3,?_,by omega,by omega,hq2.1,hq2.2⟩
  unfold spec_l1Cur_anyTable.f;refine Ev.bind e1 ?_
  dsimp only;rw [e2];refine Ev.bind (ev_c rfl) (ev_p c0 ?_)
  dsimp only;rw [e3];exact Ev.bind (ev_c rfl) (Ev.now _)
 by_cases c1:p=1
 ·obtain ⟨i,a3,m3,e3,ha3,hi0,hi1⟩:=pick_ok hc a2 m2 (ys.length:Int) (by omega) (by omega)
  obtain ⟨q,a4,m4,e4,ha4,hq⟩:=among_ok hc a3 m3 [-1,2] (by simp) (by omega) (by omega)
  refine ⟨a,ys.set i.toNat q,a4,m4,?_,by omega,by rw [List.length_set];omega,by omega,by omega⟩
  unfold spec_l1Cur_anyTable.f;refine Ev.bind e1 ?_
  dsimp only;rw [e2];refine Ev.bind (ev_c rfl) (ev_n c0 (ev_p c1 ?_))
  dsimp only;rw [e3];refine Ev.bind (ev_c rfl) ?_
  dsimp only;rw [e4];exact Ev.bind (ev_c rfl) (ev_p hi0 (ev_p (by omega) (Ev.now _)))
 by_cases c2:p=2
 ·refine ⟨a,ys.drop (1:Int).toNat,a2,m2,?_,by omega,by rw [List.length_drop];omega,by omega,by omega⟩
  unfold spec_l1Cur_anyTable.f;refine Ev.bind e1 ?_
  dsimp only;rw [e2];exact Ev.bind (ev_c rfl) (ev_n c0 (ev_n c1 (ev_p c2 (ev_p (by omega) (Ev.now _)))))
 by_cases c3:p=3
 ·refine ⟨5,List.replicate 32 0,a2,m2,?_,by omega,by rw [List.length_replicate];omega,by omega,by omega⟩
  unfold spec_l1Cur_anyTable.f;refine Ev.bind e1 ?_
  dsimp only;rw [e2];exact Ev.bind (ev_c rfl) (ev_n c0 (ev_n c1 (ev_n c2 (ev_p c3 (ev_p (by omega) (Ev.now _))))))
 ·refine ⟨a,ys,a2,m2,?_,by omega,by omega,by omega,by omega⟩
  unfold spec_l1Cur_anyTable.f;refine Ev.bind e1 ?_
  dsimp only;rw [e2];exact Ev.bind (ev_c rfl) (ev_n c0 (ev_n c1 (ev_n c2 (ev_n c3 (Ev.now _)))))
theorem l1In_eq (a b c:Int):spec_l1In.f a b c=some (decide (b≤a∧a≤c)):=by
 unfold spec_l1In.f;by_cases h:b≤a
 ·rw [if_pos h];simp [h]
 ·rw [if_neg h];simp [h]
def okO (m:Nat):List Int→List Int→Bool
 | _,[]=>true
 | p,x :: r=>decide (0≤x∧x<m∧¬ x∈p) && okO m (p ++ [x]) r
theorem zz17 (v:Int) (l:List Int) (hl:l.length≤1048576) (r:List Int):∀ (p:List Int) (i:Int),i=p.length→l=p++r →
  Ev (fun k=>spec_l1Has.l0 k v l l.length i) (decide (v∈r)):=by
 induction r with
 | nil =>
  intro p i hi e;have hlen:l.length=p.length:=by rw [e];simp
  apply ev_up;simp only [spec_l1Has.l0];exact ev_n (by omega) (ev_eq (Ev.now _) (by simp))
 | cons x r ih =>
  intro p i hi e;have hlen:l.length=p.length+r.length+1:=by rw [e];simp;omega
  have hx:rd l i=x:=by rw [e];exact rdA hi
  apply ev_up;simp only [spec_l1Has.l0];refine ev_p (by omega) (ev_p (by omega) (ev_p (by omega) ?_))
  rw [hx,w64 (n:=i+1) (by omega) (by omega)]
  refine ev_ite (fun c=>?_) (fun c=>?_)
  ·rw [decide_eq_true (show v∈x :: r by simp [c])]
   exact Ev.now _
  ·refine ev_eq (ih (p ++ [x]) (i+1) (by simp;omega) (by rw [e];simp)) ?_
   refine decide_eq_decide.2 ?_
   simp [show ¬ v=x from fun h=>c h.symm]
theorem zz18 (v:Int) (l:List Int) (hl:l.length≤1048576):Ev (fun k=>spec_l1Has.f k l v) (decide (v∈l)):=by
 unfold spec_l1Has.f;exact zz17 v l hl l [] 0 rfl rfl
theorem pm_has (n:Nat):∀ (d:Nat) (l r:List Int),r.length=d→okO n l r=true→l++r∈Sep.pm n d l:=by
 intro d;induction d with
 | zero =>
  intro l r hr _;have:r=[]:=List.length_eq_zero_iff.1 hr
  rw [this,List.append_nil];exact List.mem_singleton.2 rfl
 | succ d ih =>
  intro l r hr h;match r,hr,h with
  | [],hr,_=>simp at hr
  | x :: r,hr,h =>
   rw [okO,Bool.and_eq_true,decide_eq_true_eq] at h;obtain ⟨⟨h1,h2,h3⟩,h4⟩:=h
   obtain ⟨i,rfl⟩:=nat_of h1
   rw [Sep.pm,List.mem_flatMap];refine ⟨i,List.mem_range.2 (by omega),?_⟩
   rw [if_neg h3];have:=ih (l ++ [(i:Int)]) r (by simpa using hr) h4
   rw [List.append_assoc] at this;exact this
theorem pm_okO (n:Nat):∀ (d:Nat) (l o:List Int),o∈Sep.pm n d l→∃ r,o=l++r∧r.length=d∧okO n l r=true:=by
 intro d;induction d with
 | zero =>
  intro l o h;exact ⟨[],by rw [List.append_nil];exact List.mem_singleton.1 h,rfl,rfl⟩
 | succ d ih =>
  intro l o h;rw [Sep.pm,List.mem_flatMap] at h;obtain ⟨i,hi,h⟩:=h
  split at h
  ·cases h
  ·rename_i hn
   obtain ⟨r,h1,h2,h3⟩:=ih _ _ h
   have:=List.mem_range.1 hi
   refine ⟨(i:Int) :: r,by rw [h1];simp,by simp [h2],?_⟩
   rw [okO,h3,Bool.and_true];exact decide_eq_true ⟨by omega,by omega,hn⟩
def ndVisit (ns:List S93):Nat→Int→List Int→List Int
 | 0,_,out=>out
 | F+1,r,out=>if r<2∨r - 2∈out then out else ndVisit ns F (ns.getD (r - 2).toNat z93).f2 (ndVisit ns F (ns.getD (r - 2).toNat z93).f1 out) ++ [r - 2]
def ndVal (ns:List S93) (idx:Nat):Nat→Int→Int
 | 0,r=>r
 | F+1,r=>if r<2 then r else ndVal ns idx F (if (idx >>> (ns.getD (r - 2).toNat z93).f0.toNat) % 2=1 then (ns.getD (r - 2).toNat z93).f2 else (ns.getD (r - 2).toNat z93).f1)
def ndIota (n:Nat):List Int:=(List.range n).map (fun (i:Nat)=>(i:Int))
theorem zz24 (n:Nat):(ndIota n).length=n:=by simp [ndIota]
theorem ndIota_mem {n:Nat} {x:Int}:x∈ndIota n↔0≤x∧x<(n:Int):=by
 unfold ndIota;constructor
 ·intro h
  obtain ⟨i,hi,rfl⟩:=List.mem_map.1 h
  have:=List.mem_range.1 hi
  omega
 ·intro ⟨h0,h1⟩
  exact List.mem_map.2 ⟨x.toNat,List.mem_range.2 (by omega),by omega⟩
theorem zz26 (n:Nat):ndIota (n+1)=ndIota n ++ [(n:Int)]:=by
 unfold ndIota;rw [List.range_succ,List.map_append,List.map_singleton]
theorem zz27 {m:Nat}:∀ {n:Nat} {l:List Int},l <+: ndIota n→l.length=m→l=ndIota m:=by
 intro n l h hl;have h1:=List.prefix_iff_eq_take.1 h
 have h2:m≤n:=by
  have:=h.length_le
  rw [zz24] at this;omega
 rw [hl] at h1;rw [h1];unfold ndIota;rw [← List.map_take,List.take_range,Nat.min_eq_left h2]
structure NdB (n:Nat) (ns:List S93):Prop where
 inp:∀ i,i<ns.length→0≤(ns.getD i z93).f0∧(ns.getD i z93).f0<(n:Int)
 low:∀ i,i<ns.length→0≤(ns.getD i z93).f1∧(ns.getD i z93).f1<2+(i:Int)
 high:∀ i,i<ns.length→0≤(ns.getD i z93).f2∧(ns.getD i z93).f2<2+(i:Int)
def ndRef (ns:List S93) (i:Nat) (inp r:Int):Prop:=0≤r∧r<2+(i:Int)∧(2≤r→inp<(ns.getD (r - 2).toNat z93).f0)
structure NdOk (n:Nat) (ns:List S93):Prop where
 inp:∀ i,i<ns.length→0≤(ns.getD i z93).f0∧(ns.getD i z93).f0<(n:Int)
 ne:∀ i,i<ns.length→(ns.getD i z93).f1≠(ns.getD i z93).f2
 low:∀ i,i<ns.length→ndRef ns i (ns.getD i z93).f0 (ns.getD i z93).f1
 high:∀ i,i<ns.length→ndRef ns i (ns.getD i z93).f0 (ns.getD i z93).f2
 one:∀ i j,i<j→j<ns.length→ns.getD i z93≠ns.getD j z93
theorem NdOk.b {n:Nat} {ns:List S93} (h:NdOk n ns):NdB n ns:=⟨h.inp,fun i hi=>⟨(h.low i hi).1,(h.low i hi).2.1⟩,fun i hi=>⟨(h.high i hi).1,(h.high i hi).2.1⟩⟩
theorem zz29 (ns:List S93):∀ (F:Nat) (r:Int) (out:List Int),out <+: ndVisit ns F r out:=by
 intro F;induction F with
 | zero=>intro r out;exact List.prefix_refl _
 | succ F ih =>
  intro r out;rw [ndVisit];split
  ·exact List.prefix_refl _
  ·exact ((ih _ _).trans (ih _ _)).trans (List.prefix_append _ _)
theorem zz30 (ns:List S93) (F:Nat) (r:Int) (m:Nat) (h:r<2+(m:Int)):ndVisit ns F r (ndIota m)=ndIota m:=by
 cases F with
 | zero=>rfl
 | succ F =>
  rw [ndVisit];by_cases h2:r<2
  ·rw [if_pos (Or.inl h2)]
  ·rw [if_pos (Or.inr (ndIota_mem.2 (by omega)))]
theorem ndAt_get (x:S93):∀ (ns:List S93),ndAt x ns<ns.length→ns.getD (ndAt x ns) z93=x:=by
 intro ns;induction ns with
 | nil=>intro h;simp at h
 | cons y r ih =>
  intro h;rw [ndAt] at h ⊢
  split
  ·rename_i e;simpa using e
  ·rename_i e
   rw [if_neg e] at h;simpa using ih (by simpa using h)
theorem ndAt_lt (x:S93):∀ (ns:List S93) (i:Nat),i<ns.length→ns.getD i z93=x→ndAt x ns≤i:=by
 intro ns;induction ns with
 | nil=>intro i h;simp at h
 | cons y r ih =>
  intro i h e;rw [ndAt];cases i with
  | zero=>rw [if_pos (by simpa using e)];exact Nat.le_refl _
  | succ i =>
   split
   ·omega
   ·have:=ih i (by simpa using h) (by simpa using e)
    omega
theorem zz33 (ns:List S93) (m i:Nat) (h:i<m):(ns.take m).getD i z93=ns.getD i z93:=by
 rw [List.getD_eq_getElem?_getD,List.getD_eq_getElem?_getD,List.getElem?_take_of_lt h]
theorem zz34 {ns ms:List S93} (h:ns <+: ms) (i:Nat) (hi:i<ns.length):ms.getD i z93=ns.getD i z93:=by
 obtain ⟨t,rfl⟩:=h
 rw [List.getD_eq_getElem?_getD,List.getD_eq_getElem?_getD,List.getElem?_append_left hi]
theorem zz35 {n:Nat} {ns:List S93} (h:NdOk n ns) {m i:Nat} (hm:m≤ns.length) (hi:i<m):ndAt (ns.getD i z93) (ns.take m)=i:=by
 have hl:(ns.take m).length=m:=by rw [List.length_take];omega
 have h1:=ndAt_lt (ns.getD i z93) (ns.take m) i (by omega) (zz33 ns m i hi)
 have h2:=ndAt_get (ns.getD i z93) (ns.take m) (by omega)
 rw [zz33 ns m _ (by omega)] at h2
 by_cases e:ndAt (ns.getD i z93) (ns.take m)=i
 ·exact e
 ·exact absurd h2 (h.one _ _ (by omega) (by omega))
theorem ndAt_not {n:Nat} {ns:List S93} (h:NdOk n ns) {m i:Nat} (hi:i<ns.length) (hm:m≤i):¬ ndAt (ns.getD i z93) (ns.take m)<(ns.take m).length:=by
 intro hlt;have h2:=ndAt_get (ns.getD i z93) (ns.take m) hlt
 have hl:(ns.take m).length=m:=by rw [List.length_take];omega
 rw [zz33 ns m _ (by omega)] at h2
 exact h.one _ _ (by omega) hi h2
theorem zz37 (ns:List S93) (m:Nat) (h:m<ns.length):ns.take m ++ [ns.getD m z93]=ns.take (m+1):=by
 rw [List.take_succ_eq_append_getElem h,List.getD_eq_getElem?_getD,List.getElem?_eq_getElem h];rfl
theorem zz38 {n:Nat} {ns:List S93} (h:NdB n ns) (idx:Nat):∀ (F G:Nat) (r:Int),r<2+(ns.length:Int)→r<(F:Int)+2→r<(G:Int)+2→ndVal ns idx F r=ndVal ns idx G r:=by
 intro F;induction F with
 | zero =>
  intro G r _ hF _;cases G with
  | zero=>rfl
  | succ G=>rw [ndVal,ndVal,if_pos (by omega)]
 | succ F ih =>
  intro G r hr hF hG;by_cases h2:r<2
  ·cases G with
   | zero=>simp [ndVal,h2]
   | succ G=>simp [ndVal,h2]
  ·cases G with
   | zero=>omega
   | succ G =>
    rw [ndVal,if_neg h2,ndVal,if_neg h2];have h3:=h.low (r - 2).toNat (by omega)
    have h4:=h.high (r - 2).toNat (by omega)
    have h5:=h3.2
    have h6:=h4.2
    refine ih G _ ?_ ?_ ?_ <;> split <;> omega
theorem zz39 {n:Nat} {ns:List S93} (h:NdB n ns) (idx:Nat):∀ (F:Nat) (r:Int),0≤r→r<2+(ns.length:Int)→r<(F:Int)+2→0≤ndVal ns idx F r∧ndVal ns idx F r≤1:=by
 intro F;induction F with
 | zero=>intro r h0 _ h1;rw [ndVal];omega
 | succ F ih =>
  intro r h0 hr hF;rw [ndVal];by_cases h2:r<2
  ·rw [if_pos h2];omega
  ·rw [if_neg h2]
   have h3:=h.low (r - 2).toNat (by omega)
   have h4:=h.high (r - 2).toNat (by omega)
   have h5:=h3.2
   have h6:=h4.2
   have h7:=h3.1
   have h8:=h4.1
   refine ih _ ?_ ?_ ?_ <;> split <;> omega
theorem nd_bit0 {n d idx:Nat} (hd:d+1≤n) (hi:idx<2 ^ (n - (d+1))) (j:Nat):((idx+2 ^ (n - d) * j) >>> (n - (d+1))) % 2=0:=by
 rw [Nat.shiftRight_eq_div_pow,show n - d=n - (d+1)+1 by omega,Nat.pow_succ,Nat.mul_assoc,Nat.add_comm,Nat.mul_add_div (Nat.two_pow_pos _),Nat.div_eq_of_lt hi]
 omega
theorem nd_bit1 {n d idx:Nat} (hd:d+1≤n) (hi:idx<2 ^ (n - (d+1))) (j:Nat):((idx+2 ^ (n - (d+1))+2 ^ (n - d) * j) >>> (n - (d+1))) % 2=1:=by
 rw [Nat.shiftRight_eq_div_pow,show n - d=n - (d+1)+1 by omega,Nat.pow_succ,Nat.mul_assoc,show idx+2 ^ (n - (d+1))+2 ^ (n - (d+1)) * (2 * j)=2 ^ (n - (d+1)) * (2 * j+1)+idx by rw [Nat.mul_add];omega,Nat.mul_add_div (Nat.two_pow_pos _),Nat.div_eq_of_lt hi]
 omega
theorem nd_pow {n d:Nat} (hd:d+1≤n):2 ^ (n - d)=2 ^ (n - (d+1))+2 ^ (n - (d+1)):=by
 rw [show n - d=n - (d+1)+1 by omega,Nat.pow_succ]
 omega
theorem zz43 {n:Nat} {ns:List S93} (h:NdB n ns):∀ (F G:Nat) (r:Int) (out:List Int),r<2+(ns.length:Int)→r<(F:Int)+2→r<(G:Int)+2→ndVisit ns F r out=ndVisit ns G r out:=by
 intro F;induction F with
 | zero =>
  intro G r out _ hF _;cases G with
  | zero=>rfl
  | succ G=>rw [ndVisit,ndVisit,if_pos (Or.inl (by omega))]
 | succ F ih =>
  intro G r out hr hF hG;by_cases h2:r<2
  ·cases G with
   | zero=>simp [ndVisit,h2]
   | succ G=>simp [ndVisit,h2]
  ·cases G with
   | zero=>omega
   | succ G =>
    rw [ndVisit,ndVisit];split
    ·rfl
    ·have h3:=(h.low (r - 2).toNat (by omega)).2
     have h4:=(h.high (r - 2).toNat (by omega)).2
     rw [ih G _ out (by omega) (by omega) (by omega),ih G _ _ (by omega) (by omega) (by omega)]
theorem zz44 {n:Nat} {ns:List S93} (h:NdB n ns) {F:Nat} (hF:ns.length≤F) {q:Nat} (hq:q<ns.length) (out:List Int) (ho:(q:Int)∉out) :
  ndVisit ns F (2+(q:Int)) out=ndVisit ns F (ns.getD q z93).f2 (ndVisit ns F (ns.getD q z93).f1 out) ++ [(q:Int)]:=by
 obtain ⟨F,rfl⟩:∃ G,F=G+1:=⟨F - 1,by omega⟩
 have h3:=(h.low q hq).2
 have h4:=(h.high q hq).2
 rw [zz43 h (F+1) F (ns.getD q z93).f1 _ (by omega) (by omega) (by omega),zz43 h (F+1) F (ns.getD q z93).f2 _ (by omega) (by omega) (by omega)]
 have e:2+(q:Int) - 2=(q:Int):=by omega
 rw [ndVisit,e,Int.toNat_natCast,if_neg (fun hh=>hh.elim (fun hh=>by omega) ho)]
theorem zz45 {n:Nat} {ns:List S93} (h:NdB n ns) {F:Nat} (hF:ns.length≤F) {q:Nat} (hq:q<ns.length) (idx:Nat) :
  ndVal ns idx F (2+(q:Int))=ndVal ns idx F (if (idx >>> (ns.getD q z93).f0.toNat) % 2=1 then (ns.getD q z93).f2 else (ns.getD q z93).f1):=by
 obtain ⟨F,rfl⟩:∃ G,F=G+1:=⟨F - 1,by omega⟩
 have h3:=(h.low q hq).2
 have h4:=(h.high q hq).2
 have e:2+(q:Int) - 2=(q:Int):=by omega
 rw [zz38 h idx (F+1) F (if (idx >>> (ns.getD q z93).f0.toNat) % 2=1 then (ns.getD q z93).f2 else (ns.getD q z93).f1) (by split <;> omega) (by split <;> omega) (by split <;> omega),ndVal,e,Int.toNat_natCast,if_neg (by omega)]
theorem zz46 {n:Nat} {ns:List S93} (h:NdOk n ns) (vs:List Int) (F:Nat) (hF:ns.length≤F):∀ (d:Nat) (idx:Nat) (r:Int) (m m':Nat),d≤n→idx<2 ^ (n - d)→0≤r→r<2+(ns.length:Int)→(2≤r→((n - d:Nat):Int)≤(ns.getD (r - 2).toNat z93).f0)→m≤ns.length→m'≤ns.length →
  ndVisit ns F r (ndIota m)=ndIota m'→(∀ j,j<2 ^ d→rd vs ((idx+2 ^ (n - d) * j:Nat):Int)=ndVal ns (idx+2 ^ (n - d) * j) F r)→ndBuild vs n d idx (ns.take m)=(ns.take m',r):=by
 intro d;induction d with
 | zero =>
  intro idx r m m' _ hidx h0 hr hin hm hm' hv hvs
  have hr2:r<2:=by
   by_cases h2:r<2
   ·exact h2
   ·have:=hin (by omega)
    have:=(h.inp (r - 2).toNat (by omega)).2
    omega
  rw [zz30 _ _ _ _ (by omega)] at hv
  have e2:m=m':=by rw [← zz24 m,hv,zz24]
  subst e2;rw [ndBuild];have e3:=hvs 0 (by simp)
  rw [Nat.mul_zero,Nat.add_zero] at e3;rw [e3];cases F with
  | zero=>rfl
  | succ F=>rw [ndVal,if_pos hr2]
 | succ d ih =>
  intro idx r m m' hd hidx h0 hr hin hm hm' hv hvs
  have hpw:=nd_pow hd
  have hx1:idx<2 ^ (n - d):=by omega
  have hx2:idx+2 ^ (n - (d+1))<2 ^ (n - d):=by omega
  have hpd:2 ^ (d+1)=2 ^ d+2 ^ d:=by rw [Nat.pow_succ];omega
  have hj0:∀ j,idx+2 ^ (n - d) * j=idx+2 ^ (n - (d+1)) * (2 * j):=fun j=>by rw [← Nat.mul_assoc,Nat.mul_comm _ 2,hpw,show 2 * 2 ^ (n - (d+1))=2 ^ (n - (d+1))+2 ^ (n - (d+1)) by omega]
  have hj1:∀ j,idx+2 ^ (n - (d+1))+2 ^ (n - d) * j=idx+2 ^ (n - (d+1)) * (2 * j+1):=fun j=>by rw [Nat.mul_add,Nat.mul_one];have:=hj0 j;omega
  have hmm:m≤m':=by
   have:=(zz29 ns F r (ndIota m)).length_le
   rw [hv,zz24,zz24] at this;exact this
  by_cases hat:2≤r∧(ns.getD (r - 2).toNat z93).f0=((n - (d+1):Nat):Int)
  ·obtain ⟨h2,hat⟩:=hat
   obtain ⟨q,rfl⟩:∃ q:Nat,r=2+(q:Int):=⟨(r - 2).toNat,by omega⟩
   have hqn:(2+(q:Int) - 2).toNat=q:=by omega
   rw [hqn] at hat;have hql:q<ns.length:=by omega
   obtain ⟨l0,l1,l2⟩:=h.low q hql
   obtain ⟨g0,g1,g2⟩:=h.high q hql
   obtain ⟨m1,m2,hm1,hm2,hv1,hv2,hend⟩:∃ m1 m2,m1≤ns.length∧m2≤ns.length∧ndVisit ns F (ns.getD q z93).f1 (ndIota m)=ndIota m1∧ndVisit ns F (ns.getD q z93).f2 (ndIota m1)=ndIota m2∧((q<m2∧m'=m2)∨(m2=q∧m'=q+1)):=by
    by_cases hs:q<m
    ·have e:=hv
     rw [zz30 _ _ _ _ (by omega)] at e
     have e2:m=m':=by rw [← zz24 m,e,zz24]
     exact ⟨m,m,hm,hm,zz30 _ _ _ _ (by omega),zz30 _ _ _ _ (by omega),Or.inl ⟨hs,e2.symm⟩⟩
    ·have e0:=hv
     rw [zz44 h.b hF hql _ (by rw [ndIota_mem];omega)] at e0
     have hm'0:m'≠0:=by
      rintro rfl
      have:=congrArg List.length e0
      rw [zz24] at this;simp at this
     obtain ⟨p,rfl⟩:∃ p,m'=p+1:=⟨m' - 1,by omega⟩
     rw [zz26] at e0;have e1:=List.append_inj' e0 rfl
     have e2:(q:Int)=(p:Int):=by simpa using e1.2
     have e3:q=p:=by omega
     subst e3;have e4:=e1.1
     have hp2:=zz29 ns F (ns.getD q z93).f2 (ndVisit ns F (ns.getD q z93).f1 (ndIota m))
     rw [e4] at hp2;have e5:=zz27 hp2 rfl
     have hl5:=hp2.length_le
     rw [zz24] at hl5;exact ⟨_,q,by omega,by omega,e5,by rw [← e5];exact e4,Or.inr ⟨rfl,rfl⟩⟩
   have i1:=ih idx (ns.getD q z93).f1 m m1 (by omega) hx1 l0 (by omega) (fun hh=>by have:=l2 hh;rw [hat] at this;omega) hm hm1 hv1 (fun j hj=>by
    rw [hj0 j,hvs (2 * j) (by omega),← hj0 j,zz45 h.b hF hql,hat,Int.toNat_natCast,nd_bit0 hd hidx j,if_neg (by decide)])
   have i2:=ih (idx+2 ^ (n - (d+1))) (ns.getD q z93).f2 m1 m2 (by omega) hx2 g0 (by omega) (fun hh=>by have:=g2 hh;rw [hat] at this;omega) hm1 hm2 hv2 (fun j hj=>by
    rw [hj1 j,hvs (2 * j+1) (by omega),← hj1 j,zz45 h.b hF hql,hat,Int.toNat_natCast,nd_bit1 hd hidx j,if_pos rfl])
   rw [ndBuild,i1];dsimp only;rw [i2];dsimp only;have e6:(⟨((n - (d+1):Nat):Int),(ns.getD q z93).f1,(ns.getD q z93).f2⟩:S93)=ns.getD q z93:=by rw [← hat]
   rw [e6];unfold ndNode;rw [if_neg (h.ne q hql)];rcases hend with ⟨hq2,rfl⟩ | ⟨rfl,rfl⟩
   ·rw [zz35 h hm2 hq2,if_pos (by rw [List.length_take];omega)]
   ·rw [if_neg (ndAt_not h hql (Nat.le_refl _)),zz37 ns m2 hql]
    simp
    omega
  ·have hin':2≤r→((n - d:Nat):Int)≤(ns.getD (r - 2).toNat z93).f0:=fun hh=>by
    have:=hin hh
    have:(ns.getD (r - 2).toNat z93).f0≠((n - (d+1):Nat):Int):=fun e=>hat ⟨hh,e⟩
    omega
   have hv2:ndVisit ns F r (ndIota m')=ndIota m':=by
    refine zz30 _ _ _ _ ?_
    by_cases h2:r<2
    ·omega
    ·obtain ⟨q,rfl⟩:∃ q:Nat,r=2+(q:Int):=⟨(r - 2).toNat,by omega⟩
     by_cases hs:q<m
     ·omega
     ·rw [zz44 h.b hF (by omega) _ (by rw [ndIota_mem];omega)] at hv
      have:(q:Int)∈ndIota m':=by rw [← hv];simp
      rw [ndIota_mem] at this;omega
   have i1:=ih idx r m m' (by omega) hx1 h0 hr hin' hm hm' hv (fun j hj=>by rw [hj0 j];exact hvs (2 * j) (by omega))
   have i2:=ih (idx+2 ^ (n - (d+1))) r m' m' (by omega) hx2 h0 hr hin' hm' hm' hv2 (fun j hj=>by rw [hj1 j];exact hvs (2 * j+1) (by omega))
   rw [ndBuild,i1];dsimp only;rw [i2];unfold ndNode;rw [if_pos rfl]
theorem zz47 {n:Nat} {ns:List S93} (h:NdOk n ns) (vs:List Int) (F:Nat) (hF:ns.length≤F) (root:Int) (h0:0≤root) (h1:root<2+(ns.length:Int)) (hv:ndVisit ns F root []=ndIota ns.length) (hvs:∀ j,j<2 ^ n→rd vs ((j:Nat):Int)=ndVal ns j F root):ndBuild vs n n 0 []=(ns,root):=by
 have:=zz46 h vs F hF n 0 root 0 ns.length (Nat.le_refl _) (by simp) h0 h1 (fun hh=>by
  have:=(h.inp (root - 2).toNat (by omega)).1
  simpa using this) (Nat.zero_le _) (Nat.le_refl _) hv (fun j hj=>by simpa using hvs j hj)
 simpa using this
theorem NdOk.snoc {n:Nat} {ns:List S93} (h:NdOk n ns) (x:S93) (hi:0≤x.f0∧x.f0<(n:Int)) (hne:x.f1≠x.f2) (hl:ndRef ns ns.length x.f0 x.f1) (hh:ndRef ns ns.length x.f0 x.f2) (hx:∀ i,i<ns.length→ns.getD i z93≠x):NdOk n (ns ++ [x]):=by
 have g1:∀ i,i<ns.length→(ns ++ [x]).getD i z93=ns.getD i z93:=fun i hi=>zz34 (List.prefix_append _ _) i hi
 have g2:(ns ++ [x]).getD ns.length z93=x:=by simp
 have gr:∀ (i:Nat) (a r:Int),i≤ns.length→ndRef ns i a r→ndRef (ns ++ [x]) i a r:=fun i a r hi ⟨h0,h1,h2⟩=>⟨h0,h1,fun hh=>by rw [g1 _ (by omega)];exact h2 hh⟩
 refine ⟨fun i hi'=>?_,fun i hi'=>?_,fun i hi'=>?_,fun i hi'=>?_,fun i j hij hj=>?_⟩
 ·rw [List.length_append,List.length_singleton] at hi'
  by_cases e:i=ns.length
  ·subst e;rw [g2];exact hi
  ·rw [g1 i (by omega)];exact h.inp i (by omega)
 ·rw [List.length_append,List.length_singleton] at hi'
  by_cases e:i=ns.length
  ·subst e;rw [g2];exact hne
  ·rw [g1 i (by omega)];exact h.ne i (by omega)
 ·rw [List.length_append,List.length_singleton] at hi'
  by_cases e:i=ns.length
  ·subst e;rw [g2];exact gr _ _ _ (Nat.le_refl _) hl
  ·rw [g1 i (by omega)];exact gr _ _ _ (by omega) (h.low i (by omega))
 ·rw [List.length_append,List.length_singleton] at hi'
  by_cases e:i=ns.length
  ·subst e;rw [g2];exact gr _ _ _ (Nat.le_refl _) hh
  ·rw [g1 i (by omega)];exact gr _ _ _ (by omega) (h.high i (by omega))
 ·rw [List.length_append,List.length_singleton] at hj
  by_cases e:j=ns.length
  ·subst e;rw [g2,g1 i (by omega)];exact hx i (by omega)
  ·rw [g1 i (by omega),g1 j (by omega)];exact h.one i j hij (by omega)
structure NdMade (n d:Nat) (vs:List Int) (idx:Nat) (ns:List S93) (p:List S93×Int):Prop where
 pre:ns <+: p.1
 len:p.1.length+1≤ns.length+2 ^ d
 ok:NdOk n p.1
 r0:0≤p.2
 r1:p.2<2+(p.1.length:Int)
 inp:2≤p.2→((n - d:Nat):Int)≤(p.1.getD (p.2 - 2).toNat z93).f0
 new:∀ i,ns.length≤i→i<p.1.length→((n - d:Nat):Int)≤(p.1.getD i z93).f0
 visit:∀ ms F,p.1 <+: ms→NdOk n ms→ms.length≤F→ndVisit ms F p.2 (ndIota ns.length)=ndIota p.1.length
 val:∀ ms F,p.1 <+: ms→NdOk n ms→ms.length≤F→∀ j,j<2 ^ d→ndVal ms (idx+2 ^ (n - d) * j) F p.2=rd vs ((idx+2 ^ (n - d) * j:Nat):Int)
theorem zz48 {n:Nat} (vs:List Int) (hvs:∀ i,0≤rd vs ((i:Nat):Int)∧rd vs ((i:Nat):Int)≤1):∀ (d:Nat) (idx:Nat) (ns:List S93),d≤n→idx<2 ^ (n - d)→NdOk n ns→NdMade n d vs idx ns (ndBuild vs n d idx ns):=by
 intro d;induction d with
 | zero =>
  intro idx ns _ _ h;have hb:=hvs idx
  rw [ndBuild];refine ⟨List.prefix_refl _,by simp,h,hb.1,by show rd vs ((idx:Nat):Int)<_;omega,fun hh=>by have:2≤rd vs ((idx:Nat):Int):=hh;omega,fun i h1 h2=>by have:i<ns.length:=h2;omega,fun ms F _ _ _=>zz30 _ _ _ _ (by show rd vs ((idx:Nat):Int)<_;omega),fun ms F _ _ _ j hj=>?_⟩
  obtain rfl:j=0:=by simpa using hj
  rw [Nat.mul_zero,Nat.add_zero];cases F with
  | zero=>rfl
  | succ F=>rw [ndVal,if_pos (by show rd vs ((idx:Nat):Int)<_;omega)]
 | succ d ih =>
  intro idx ns hd hidx h;have hpw:=nd_pow hd
  have hx1:idx<2 ^ (n - d):=by omega
  have hx2:idx+2 ^ (n - (d+1))<2 ^ (n - d):=by omega
  have hpd:2 ^ (d+1)=2 ^ d+2 ^ d:=by rw [Nat.pow_succ];omega
  have hp0:0<2 ^ d:=Nat.two_pow_pos d
  have hj0:∀ j,idx+2 ^ (n - d) * j=idx+2 ^ (n - (d+1)) * (2 * j):=fun j=>by rw [← Nat.mul_assoc,Nat.mul_comm _ 2,hpw,show 2 * 2 ^ (n - (d+1))=2 ^ (n - (d+1))+2 ^ (n - (d+1)) by omega]
  have hj1:∀ j,idx+2 ^ (n - (d+1))+2 ^ (n - d) * j=idx+2 ^ (n - (d+1)) * (2 * j+1):=fun j=>by rw [Nat.mul_add,Nat.mul_one];have:=hj0 j;omega
  have A:=ih idx ns (by omega) hx1 h
  rw [ndBuild];generalize ndBuild vs n d idx ns=a at A ⊢
  obtain ⟨n1,lo⟩:=a
  have B:=ih (idx+2 ^ (n - (d+1))) n1 (by omega) hx2 A.ok
  dsimp only;generalize ndBuild vs n d (idx+2 ^ (n - (d+1))) n1=b at B ⊢
  obtain ⟨n2,hi⟩:=b
  dsimp only;obtain ⟨apre,alen,aok,ar0,ar1,ainp,anew,avis,aval⟩:=A
  obtain ⟨bpre,blen,bok,br0,br1,binp,bnew,bvis,bval⟩:=B
  dsimp only at *
  have hl1:=apre.length_le
  have hl2:=bpre.length_le
  have hsame:∀ i,i<n1.length→n2.getD i z93=n1.getD i z93:=fun i hi=>zz34 bpre i hi
  have hnew2:∀ i,ns.length≤i→i<n2.length→((n - d:Nat):Int)≤(n2.getD i z93).f0:=fun i h1 h2=>by
   by_cases e:i<n1.length
   ·rw [hsame i e];exact anew i h1 e
   ·exact bnew i (by omega) h2
  unfold ndNode;dsimp only;by_cases heq:lo=hi
  ·subst heq
   rw [if_pos rfl];have hvis:∀ ms F,n2 <+: ms→NdOk n ms→ms.length≤F→ndVisit ms F lo (ndIota ns.length)=ndIota n2.length:=fun ms F hp hk hF=>by
    have e1:=avis ms F (bpre.trans hp) hk hF
    have e2:=bvis ms F hp hk hF
    rw [zz30 _ _ _ _ ar1] at e2;rw [e1,e2]
   refine ⟨apre.trans bpre,by show n2.length+1≤_;omega,bok,br0,br1,fun hh=>?_,fun i h1 h2=>?_,hvis,fun ms F hp hk hF j hj=>?_⟩
   ·have:=binp hh;dsimp only;omega
   ·have:=hnew2 i h1 h2;dsimp only;omega
   ·rcases Nat.mod_two_eq_zero_or_one j with e | e
    ·obtain ⟨i,rfl⟩:∃ i,j=2 * i:=⟨j / 2,by omega⟩
     rw [← hj0 i];exact aval ms F (bpre.trans hp) hk hF i (by omega)
    ·obtain ⟨i,rfl⟩:∃ i,j=2 * i+1:=⟨j / 2,by omega⟩
     rw [← hj1 i];exact bval ms F hp hk hF i (by omega)
  rw [if_neg heq];have hvalx:∀ (q:Nat) ms F,n2 <+: ms→NdOk n ms→ms.length≤F→q<ms.length→ms.getD q z93=⟨((n - (d+1):Nat):Int),lo,hi⟩→∀ j,j<2 ^ (d+1)→ndVal ms (idx+2 ^ (n - (d+1)) * j) F (2+(q:Int))=vs.getD (idx+2 ^ (n - (d+1)) * j) 0:=fun q ms F hp hk hF hq hx j hj=>by
   rw [zz45 hk.b hF hq,hx];dsimp only;rw [Int.toNat_natCast];rcases Nat.mod_two_eq_zero_or_one j with e | e
   ·obtain ⟨i,rfl⟩:∃ i,j=2 * i:=⟨j / 2,by omega⟩
    rw [← hj0 i,nd_bit0 hd hidx,if_neg (by decide)]
    exact aval ms F (bpre.trans hp) hk hF i (by omega)
   ·obtain ⟨i,rfl⟩:∃ i,j=2 * i+1:=⟨j / 2,by omega⟩
    rw [← hj1 i,nd_bit1 hd hidx,if_pos rfl];exact bval ms F hp hk hF i (by omega)
  by_cases hin:ndAt (⟨((n - (d+1):Nat):Int),lo,hi⟩:S93) n2<n2.length
  ·rw [if_pos hin]
   have hx:=ndAt_get _ _ hin
   generalize ndAt (⟨((n - (d+1):Nat):Int),lo,hi⟩:S93) n2=q at hin hx ⊢
   have hold:q<ns.length:=by
    by_cases e:q<ns.length
    ·exact e
    ·have:=hnew2 q (by omega) hin
     rw [hx] at this;dsimp only at this
     omega
   have hrl:=(bok.low q hin).2.1
   have hrh:=(bok.high q hin).2.1
   rw [hx] at hrl hrh;dsimp only at hrl hrh
   have e1:=avis n2 n2.length bpre bok (Nat.le_refl _)
   rw [zz30 _ _ _ _ (by omega)] at e1
   have f1:ns.length=n1.length:=by rw [← zz24 ns.length,e1,zz24]
   have e2:=bvis n2 n2.length (List.prefix_refl _) bok (Nat.le_refl _)
   rw [zz30 _ _ _ _ (by omega)] at e2
   have f2:n1.length=n2.length:=by rw [← zz24 n1.length,e2,zz24]
   refine ⟨apre.trans bpre,by show n2.length+1≤_;omega,bok,by show 0≤2+(q:Int);omega,by dsimp only;omega,fun _=>?_,fun i h1 h2=>?_,fun ms F hp hk hF=>?_,fun ms F hp hk hF j hj=>?_⟩
   ·show ((n - (d+1):Nat):Int)≤(n2.getD (2+(q:Int) - 2).toNat z93).f0
    rw [show (2+(q:Int) - 2).toNat=q by omega,hx]
    exact Int.le_refl _
   ·have:=hnew2 i h1 h2;dsimp only;omega
   ·show ndVisit ms F (2+(q:Int)) _=ndIota n2.length
    rw [zz30 _ _ _ _ (by omega),show ns.length=n2.length by omega]
   ·have hpl:n2.length≤ms.length:=hp.length_le
    exact hvalx q ms F hp hk hF (by omega) (by rw [zz34 hp q hin];exact hx) j hj
  ·rw [if_neg hin]
   have hrow:∀ i,i<n2.length→n2.getD i z93≠⟨((n - (d+1):Nat):Int),lo,hi⟩:=fun i h1 h2=>hin (Nat.lt_of_le_of_lt (ndAt_lt _ _ i h1 h2) h1)
   have hrefl:ndRef n2 n2.length ((n - (d+1):Nat):Int) lo:=⟨ar0,by omega,fun hh=>by
    have:=ainp hh
    rw [hsame _ (by omega)]
    omega⟩
   have hrefh:ndRef n2 n2.length ((n - (d+1):Nat):Int) hi:=⟨br0,by omega,fun hh=>by
    have:=binp hh
    omega⟩
   have hok:NdOk n (n2 ++ [⟨((n - (d+1):Nat):Int),lo,hi⟩]):=bok.snoc _ ⟨by show 0≤((n - (d+1):Nat):Int);omega,by show ((n - (d+1):Nat):Int)<_;omega⟩ heq hrefl hrefh hrow
   have hpre:n2 <+: n2 ++ [(⟨((n - (d+1):Nat):Int),lo,hi⟩:S93)]:=List.prefix_append _ _
   have hlast:(n2 ++ [(⟨((n - (d+1):Nat):Int),lo,hi⟩:S93)]).getD n2.length z93=⟨((n - (d+1):Nat):Int),lo,hi⟩:=by simp
   have hlen:(n2 ++ [(⟨((n - (d+1):Nat):Int),lo,hi⟩:S93)]).length=n2.length+1:=by simp
   refine ⟨(apre.trans bpre).trans hpre,by show (n2 ++ [_]).length+1≤_;rw [hlen];omega,hok,by show 0≤2+(n2.length:Int);omega,by show 2+(n2.length:Int)<2+((n2 ++ [_]).length:Int);rw [hlen];omega,fun _=>?_,fun i h1 h2=>?_,fun ms F hp hk hF=>?_,fun ms F hp hk hF j hj=>?_⟩
   ·show ((n - (d+1):Nat):Int)≤((n2 ++ [_]).getD (2+(n2.length:Int) - 2).toNat z93).f0
    rw [show (2+(n2.length:Int) - 2).toNat=n2.length by omega,hlast]
    exact Int.le_refl _
   ·show ((n - (d+1):Nat):Int)≤((n2 ++ [_]).getD i z93).f0
    have h2':i<(n2 ++ [(⟨((n - (d+1):Nat):Int),lo,hi⟩:S93)]).length:=h2
    rw [hlen] at h2'
    by_cases e:i=n2.length
    ·subst e;rw [hlast];exact Int.le_refl _
    ·rw [zz34 hpre i (by omega)]
     have:=hnew2 i h1 (by omega)
     omega
   ·show ndVisit ms F (2+(n2.length:Int)) _=ndIota (n2 ++ [_]).length
    have hpl:=hp.length_le
    have hpl':n2.length+1≤ms.length:=by rw [← hlen];exact hpl
    have hx:ms.getD n2.length z93=⟨((n - (d+1):Nat):Int),lo,hi⟩:=by rw [zz34 hp _ (by rw [hlen];omega),hlast]
    rw [hlen,zz44 hk.b hF (by omega) _ (by rw [ndIota_mem];omega),hx]
    dsimp only;rw [avis ms F ((bpre.trans hpre).trans hp) hk hF,bvis ms F (hpre.trans hp) hk hF,zz26]
   ·have hpl:=hp.length_le
    have hpl':n2.length+1≤ms.length:=by rw [← hlen];exact hpl
    have hx:ms.getD n2.length z93=⟨((n - (d+1):Nat):Int),lo,hi⟩:=by rw [zz34 hp _ (by rw [hlen];omega),hlast]
    exact hvalx n2.length ms F (hpre.trans hp) hk hF (by omega) hx j hj
theorem NdOk.nil (n:Nat):NdOk n []:=⟨fun i h=>by simp at h,fun i h=>by simp at h,fun i h=>by simp at h,fun i h=>by simp at h,fun i j _ h=>by simp at h⟩
theorem rdNd (ns:List S93) (q:Nat):rd_T93 ns (q:Int)=ns.getD q z93:=rfl
theorem zz50 (ns:List S93) (idx F:Nat) (r:Int) (h:r<2):ndVal ns idx F r=r:=by
 cases F with
 | zero=>rfl
 | succ F=>rw [ndVal,if_pos h]
theorem ndVal_at (ns:List S93) (idx F q:Nat):ndVal ns idx (F+1) (2+(q:Int))=ndVal ns idx F (if (idx >>> (ns.getD q z93).f0.toNat) % 2=1 then (ns.getD q z93).f2 else (ns.getD q z93).f1):=by
 have e:2+(q:Int) - 2=(q:Int):=by omega
 rw [ndVal,if_neg (by omega),e,Int.toNat_natCast]
theorem zz52 {n:Nat} {ns:List S93} (h:NdB n ns) (hn:n≤4) (hl:ns.length≤1000) (idx:Nat) (hi:idx<65536) (root:Int):∀ (F:Nat) (r:Int),0≤r→r<2+(ns.length:Int)→r<(F:Int)+2 →
  Ev (fun k=>spec_ddValue.l0 k idx r n ns root) (ndVal ns idx F r):=by
 intro F;induction F with
 | zero =>
  intro r h0 h1 h2;apply ev_up;simp only [spec_ddValue.l0];exact ev_n (by omega) (ev_eq (Ev.now _) rfl)
 | succ F ih =>
  intro r h0 h1 h2;by_cases hr:r<2
  ·rw [zz50 ns idx _ r hr]
   apply ev_up;simp only [spec_ddValue.l0];exact ev_n (by omega) (Ev.now _)
  obtain ⟨q,rfl⟩:∃ q:Nat,r=2+(q:Int):=⟨(r - 2).toNat,by omega⟩
  have hq:q<ns.length:=by omega
  obtain ⟨i0,i1⟩:=h.inp q hq
  obtain ⟨l0,l1⟩:=h.low q hq
  obtain ⟨g0,g1⟩:=h.high q hq
  apply ev_up;simp only [spec_ddValue.l0];rw [wN (m:=q) (by omega) (by omega)]
  refine ev_p (by omega) (ev_p (by omega) (ev_p (by omega) ?_))
  rw [rdNd,ndVal_at];obtain ⟨m,hm⟩:=nat_of i0
  rw [hm,Int.toNat_natCast];refine Ev.bind (ev_c (zz9 idx m (by omega) (by omega))) (ev_ite (fun c=>?_) (fun c=>?_))
  ·rw [if_neg (by omega)]
   exact ih _ l0 (by omega) (by omega)
  ·rw [if_pos (by omega)]
   exact ih _ g0 (by omega) (by omega)
def ndTab (n:Nat) (ns:List S93) (root:Int):List Int:=rmap (2 ^ n) (fun j=>ndVal ns j ns.length root)
theorem zz54 (n:Nat) (ns:List S93) (root:Int):(ndTab n ns root).length=2 ^ n:=rmap_length _ _
theorem ndTab_rd {n:Nat} {ns:List S93} {root:Int} {j:Nat} (h:j<2 ^ n):rd (ndTab n ns root) (j:Int)=ndVal ns j ns.length root:=rmap_get h 0
theorem pow4 {n:Nat} (h:n≤4):2 ^ n≤16:=Nat.pow_le_pow_right (by decide:0<2) h
theorem zz57 {n:Nat} {ns:List S93} (h:NdB n ns) (hn:n≤4) (hl:ns.length≤1000) (root:Int) (h0:0≤root) (h1:root<2+(ns.length:Int)):∀ (d i:Nat),i+d=2 ^ n →
  Ev (fun k=>spec_ddTable.l0 k i n ns root n (rmap i (fun j=>ndVal ns j ns.length root))) ((n:Int),ndTab n ns root):=by
 have hp:=pow4 hn
 intro d;induction d with
 | zero =>
  intro i hi;apply ev_up;simp only [spec_ddTable.l0];rw [u64w (by omega) (by omega),shl1 n (by omega)]
  refine ev_p (by omega) (ev_n (by omega) (ev_eq (Ev.now _) ?_))
  rw [show i=2 ^ n by omega]
  rfl
 | succ d ih =>
  intro i hi;apply ev_up;simp only [spec_ddTable.l0];rw [u64w (by omega) (by omega),shl1 n (by omega)]
  refine ev_p (by omega) (ev_p (by omega) (Ev.bind (zz52 h hn hl i (by omega) root ns.length root h0 h1 (by omega)) (ev_p (by rw [rmap_length];omega) ?_)))
  rw [wN (m:=i+1) (by omega) (by omega),← rmap_succ]
  exact ih (i+1) (by omega)
theorem zz58 {n:Nat} {ns:List S93} (h:NdB n ns) (hn:n≤4) (hl:ns.length≤1000) (root:Int) (h0:0≤root) (h1:root<2+(ns.length:Int)):Ev (fun k=>spec_ddTable.f k n ns root) ((n:Int),ndTab n ns root):=by
 unfold spec_ddTable.f;exact zz57 h hn hl root h0 h1 (2 ^ n) 0 (by omega)
theorem zz59 {n:Nat} {ns:List S93} (h:NdB n ns) (root:Int) (h0:0≤root) (h1:root<2+(ns.length:Int)):∀ x∈ndTab n ns root,0≤x∧x≤1:=by
 intro x hx;unfold ndTab rmap at hx;obtain ⟨j,_,rfl⟩:=List.mem_map.1 hx
 exact zz39 h j ns.length root h0 h1 (by omega)
theorem rd_bits {l:List Int} (h:∀ x∈l,0≤x∧x≤1) (i:Nat):0≤rd l ((i:Nat):Int)∧rd l ((i:Nat):Int)≤1:=by
 show 0≤l.getD i 0∧l.getD i 0≤1
 rw [List.getD_eq_getElem?_getD];cases hq:l[i]? with
 | none=>simp
 | some x=>exact h x (List.mem_of_getElem? hq)
def bitsL (x n:Nat):List Int:=rmap n (fun i=>(((x >>> i) % 2:Nat):Int))
theorem zz62 (x n:Nat):(bitsL x n).length=n:=rmap_length _ _
theorem zz63 (x n:Nat) (hn:n≤4) (hx:x<65536) (d:Nat):∀ (i:Nat),i+d=n →
  Ev (fun k=>impl_bitList.l0 k x (rmap n (fun j=>if j<i then (((x >>> j) % 2:Nat):Int) else 0)) n i) (bitsL x n):=by
 induction d with
 | zero =>
  intro i hi;apply ev_up;simp only [impl_bitList.l0];refine ev_n (by omega) (ev_eq (Ev.now _) ?_)
  exact rmap_congr (fun k hk=>by rw [if_pos (by omega)])
 | succ d ih =>
  intro i hi;apply ev_up;simp only [impl_bitList.l0];refine ev_p (by omega) (ev_p (by omega) (ev_p (by rw [rmap_length];omega) ?_))
  rw [bit_and1 x i (by omega) (by omega),Int.toNat_natCast,rmap_set (show i<n by omega),wN (n:=(i:Int)+1) (m:=i+1) (by omega) (by omega)]
  have e:rmap n (fun j=>if j=i then (((x >>> i) % 2:Nat):Int) else if j<i then (((x >>> j) % 2:Nat):Int) else 0)=rmap n (fun j=>if j<i+1 then (((x >>> j) % 2:Nat):Int) else 0):=by
   apply rmap_congr
   intro j _;by_cases h:j=i
   ·rw [if_pos h,if_pos (show j<i+1 by omega),h]
   ·by_cases h2:j<i
    ·rw [if_neg h,if_pos h2,if_pos (show j<i+1 by omega)]
    ·rw [if_neg h,if_neg h2,if_neg (show ¬ j<i+1 by omega)]
  rw [e];exact ih (i+1) (by omega)
theorem zz64 (x n:Nat) (hn:n≤4) (hx:x<65536):Ev (fun k=>impl_bitList.f k x n) (bitsL x n):=by
 unfold impl_bitList.f;refine ev_p (by omega) (ev_p (by omega) (Ev.bind (ev_c rfl) ?_))
 rw [Int.toNat_natCast,rmap_const,rmap_length];have:=zz63 x n hn hx n 0 (by omega)
 have e:rmap n (fun j=>if j<0 then (((x >>> j) % 2:Nat):Int) else 0)=rmap n (fun _=>(0:Int)):=rmap_congr (fun j _=>by rw [if_neg (by omega)])
 rw [e] at this;exact this
theorem zz65 {n:Nat} {ns:List S93} (h:NdB n ns) (hn:n≤4) (hl:ns.length≤1000) (idx:Nat) (root:Int):∀ (F:Nat) (r:Int),0≤r→r<2+(ns.length:Int)→r<(F:Int)+2 →
  Ev (fun k=>impl_diagramValue.l0 k (bitsL idx n) r n ns root) (ndVal ns idx F r):=by
 intro F;induction F with
 | zero =>
  intro r h0 h1 h2;apply ev_up;simp only [impl_diagramValue.l0];exact ev_n (by omega) (ev_eq (Ev.now _) rfl)
 | succ F ih =>
  intro r h0 h1 h2;by_cases hr:r<2
  ·rw [zz50 ns idx _ r hr]
   apply ev_up;simp only [impl_diagramValue.l0];exact ev_n (by omega) (Ev.now _)
  obtain ⟨q,rfl⟩:∃ q:Nat,r=2+(q:Int):=⟨(r - 2).toNat,by omega⟩
  have hq:q<ns.length:=by omega
  obtain ⟨i0,i1⟩:=h.inp q hq
  obtain ⟨l0,l1⟩:=h.low q hq
  obtain ⟨g0,g1⟩:=h.high q hq
  apply ev_up;simp only [impl_diagramValue.l0];rw [wN (m:=q) (by omega) (by omega),rdNd,ndVal_at]
  obtain ⟨m,hm⟩:=nat_of i0
  rw [hm,Int.toNat_natCast];have hb:rd (bitsL idx n) (m:Int)=(((idx >>> m) % 2:Nat):Int):=rmap_get (by omega) 0
  rw [hb];refine ev_p (by omega) (ev_p (by omega) (ev_p (by omega) (ev_p (by omega) (ev_p (by rw [zz62];omega) (ev_ite (fun c=>?_) (fun c=>?_))))))
  ·rw [if_pos (by omega)]
   exact ih _ g0 (by omega) (by omega)
  ·rw [if_neg (by omega)]
   exact ih _ l0 (by omega) (by omega)
theorem zz66 {n:Nat} {ns:List S93} (h:NdB n ns) (hn:n≤4) (hl:ns.length≤1000) (idx:Nat) (root:Int) (h0:0≤root) (h1:root<2+(ns.length:Int)):Ev (fun k=>impl_diagramValue.f k n ns root (bitsL idx n)) (ndVal ns idx ns.length root):=by
 unfold impl_diagramValue.f;exact zz65 h hn hl idx root ns.length root h0 h1 (by omega)
theorem zz67 {n:Nat} {ns:List S93} (h:NdB n ns) (hn:n≤4) (hl:ns.length≤1000) (root:Int) (h0:0≤root) (h1:root<2+(ns.length:Int)):∀ (d i:Nat),i+d=2 ^ n →
  Ev (fun k=>impl_tableOfDiagram.l0 k ((2 ^ n:Nat):Int) i n ns root n (rmap (2 ^ n) (fun j=>if j<i then ndVal ns j ns.length root else 0))) ((n:Int),ndTab n ns root):=by
 have hp:=pow4 hn
 intro d;induction d with
 | zero =>
  intro i hi;apply ev_up;simp only [impl_tableOfDiagram.l0];refine ev_n (by omega) (ev_eq (Ev.now _) ?_)
  unfold ndTab;rw [rmap_congr (fun j hj=>by rw [if_pos (by omega)])]
 | succ d ih =>
  intro i hi;apply ev_up;simp only [impl_tableOfDiagram.l0];refine ev_p (by omega) (Ev.bind (zz64 i n hn (by omega)) (Ev.bind (zz66 h hn hl i root h0 h1) (ev_p (by omega) (ev_p (by rw [rmap_length];omega) ?_))))
  rw [wN (m:=i+1) (by omega) (by omega),Int.toNat_natCast,rmap_set (by omega)]
  have e:rmap (2 ^ n) (fun j=>if j=i then ndVal ns i ns.length root else if j<i then ndVal ns j ns.length root else 0)=rmap (2 ^ n) (fun j=>if j<i+1 then ndVal ns j ns.length root else 0):=rmap_congr (fun j _=>by
   by_cases e:j=i
   ·subst e;rw [if_pos rfl,if_pos (by omega)]
   ·rw [if_neg e]
    by_cases e2:j<i
    ·rw [if_pos e2,if_pos (by omega)]
    ·rw [if_neg e2,if_neg (by omega)])
  rw [e];exact ih (i+1) (by omega)
theorem zz68 {n:Nat} {ns:List S93} (h:NdB n ns) (hn:n≤4) (hl:ns.length≤1000) (root:Int) (h0:0≤root) (h1:root<2+(ns.length:Int)):Ev (fun k=>impl_tableOfDiagram.f k n ns root) ((n:Int),ndTab n ns root):=by
 have hp:=pow4 hn
 unfold impl_tableOfDiagram.f;rw [shl1 n (by omega)]
 refine ev_p (by omega) (ev_p (Int.natCast_nonneg _) (ev_p (by rw [Int.toNat_natCast];omega) (Ev.bind (ev_c rfl) ?_)))
 rw [Int.toNat_natCast,rmap_const,rmap_length];have:=zz67 h hn hl root h0 h1 (2 ^ n) 0 (by omega)
 rw [rmap_congr (fun j hj=>by rw [if_neg (by omega)]:∀ j,j<2 ^ n→(if j<0 then ndVal ns j ns.length root else (0:Int))=0)] at this
 exact this
def inB (a b:Int) (x:Int):Bool:=decide (a≤x∧x≤b)
theorem l1All_l0 (l:List Int) (a b:Int) (hl:l.length≤9223372036854775807) (r:List Int):∀ (p:List Int) (i:Int),i=p.length→l=p++r →
  Ev (fun k=>spec_l1All.l0 k a b l l.length i) (r.all (inB a b)):=by
 induction r with
 | nil =>
  intro p i hi e;have hlen:l.length=p.length:=by rw [e];simp
  apply ev_up;simp only [spec_l1All.l0];exact ev_n (by omega) (Ev.now _)
 | cons x r ih =>
  intro p i hi e;have hlen:l.length=p.length+r.length+1:=by rw [e];simp;omega
  have hx:rd l i=x:=by rw [e];exact rdA hi
  have ih':=ih (p ++ [x]) (i+1) (by simp;omega) (by rw [e];simp)
  apply ev_up;simp only [spec_l1All.l0];refine ev_p (by omega) (ev_p (by omega) (ev_p (by omega) ?_))
  rw [hx,l1In_eq];refine Ev.bind (ev_c rfl) ?_
  refine ev_ite (fun h=>?_) (fun h=>?_)
  ·rw [w64 (by omega) (by omega)]
   refine ev_eq ih' ?_
   rw [List.all_cons,show inB a b x=true from h,Bool.true_and]
  ·refine ev_eq (Ev.now _) ?_
   rw [List.all_cons,show inB a b x=false from decide_eq_false (fun hh=>h (decide_eq_true hh)),Bool.false_and]
theorem l1All_ev (l:List Int) (a b:Int) (hl:l.length≤9223372036854775807):Ev (fun k=>spec_l1All.f k l a b) (l.all (inB a b)):=by
 unfold spec_l1All.f;exact l1All_l0 l a b hl l [] 0 rfl rfl
theorem zz72 (a:Int):spec_ttInputs.f a=some (decide (0≤a∧a≤4)):=by
 unfold spec_ttInputs.f;rw [l1In_eq,Option.bind_some]
def tableM (n:Int) (l:List Int):Bool:=decide (0≤n∧n≤4∧l.length=2 ^ n.toNat) && l.all (inB 0 1)
theorem zz74 {n:Int} {l:List Int} (h:tableM n l=true):∃ a:Nat,n=a∧a≤4∧l.length=2 ^ a∧l.length≤16∧∀ x∈l,0≤x∧x≤1:=by
 unfold tableM at h;rw [Bool.and_eq_true,List.all_eq_true] at h;obtain ⟨h1,h2,h3⟩:=of_decide_eq_true h.1
 obtain ⟨a,rfl⟩:=nat_of h1
 simp only [Int.toNat_natCast] at h3;have h8:2 ^ a≤2 ^ 4:=Nat.pow_le_pow_right (by decide) (by omega)
 exact ⟨a,rfl,by omega,h3,by omega,fun x hx=>of_decide_eq_true (h.2 x hx)⟩
theorem zz75 (n:Int) (l:List Int) (hl:l.length≤9223372036854775807):Ev (fun k=>spec_ttGood.f k n l) (tableM n l):=by
 unfold spec_ttGood.f tableM;rw [zz72];refine Ev.bind (ev_c rfl) (ev_ite (fun h=>?_) (fun h=>?_))
 ·have h':=of_decide_eq_true h
  obtain ⟨a,rfl⟩:=nat_of h'.1
  rw [u64w (by omega) (by omega),shl1 a (by omega)]
  refine ev_p (by omega) (ev_ite (fun h2=>?_) (fun h2=>?_))
  ·have h3:l.length=2 ^ a:=by exact_mod_cast h2
   rw [decide_eq_true ⟨h'.1,h'.2,by simpa using h3⟩,Bool.true_and]
   exact Ev.bind (l1All_ev l 0 1 hl) (Ev.now _)
  ·rw [decide_eq_false (fun hh=>h2 (by have:=hh.2.2;simp only [Int.toNat_natCast] at this;exact_mod_cast this)),Bool.false_and]
   exact Ev.now _
 ·rw [decide_eq_false (fun hh=>h (decide_eq_true ⟨hh.1,hh.2.1⟩)),Bool.false_and]
  exact Ev.now _
def cmbV (kind a b:Int):Int:=if kind=1 then a * b else if kind=2 then (if a>b then a else b) else if kind=3 then (a+b) % 2 else (if 1 - a>b then 1 - a else b)
def cmbL (kind:Int):List Int→List Int→List Int
 | a :: l,b :: m=>cmbV kind a b :: cmbL kind l m
 | _,_ => []
theorem zz78 (kind:Int):∀ (l m:List Int),l.length=m.length→(cmbL kind l m).length=l.length:=by
 intro l;induction l with
 | nil=>intro m _;rfl
 | cons a l ih =>
  intro m h;match m,h with
  | b :: m,h=>rw [cmbL,List.length_cons,ih m (by simpa using h),List.length_cons]
theorem cmbV_bit (kind a b:Int) (ha:0≤a∧a≤1) (hb:0≤b∧b≤1):0≤cmbV kind a b∧cmbV kind a b≤1:=by
 obtain rfl | rfl:a=0∨a=1:=by omega
 all_goals obtain rfl | rfl:b=0∨b=1:=by omega
 all_goals (unfold cmbV;split;decide;split;decide;split;decide;decide)
theorem zz80 (kind a b:Int) (ha:0≤a∧a≤1) (hb:0≤b∧b≤1):spec_ttCombine.f kind a b=some (cmbV kind a b):=by
 unfold spec_ttCombine.f cmbV;obtain rfl | rfl:a=0∨a=1:=by omega
 all_goals obtain rfl | rfl:b=0∨b=1:=by omega
 all_goals (split;(first | rfl | (unfold wrap64;rfl));split;(first | rfl | (unfold wrap64;rfl));split;(first | rfl | (unfold wrap64;rfl));(first | rfl | (unfold wrap64;rfl)))
theorem zz81 (kind a:Int) (r:List Int):∀ (s p q o:List Int) (i:Int),i=p.length→q.length=p.length→r.length=s.length→p.length+r.length≤1000→o.length≤p.length→(∀ x∈r,0≤x∧x≤1)→(∀ x∈s,0≤x∧x≤1) →
  Ev (fun k=>spec_CombineTables.l0 k kind (p++r) ((p++r).length:Int) i a (q++s) a o) (a,o++cmbL kind r s,true):=by
 induction r with
 | nil =>
  intro s p q o i hi hq hl hb ho hr hs;apply ev_up;simp only [spec_CombineTables.l0];refine ev_n (by simp;omega) (ev_eq (Ev.now _) (by simp [cmbL]))
 | cons x r ih =>
  intro s p q o i hi hq hl hb ho hr hs;match s,hl with
  | y :: s,hl =>
   simp only [List.length_cons] at hl hb;apply ev_up;simp only [spec_CombineTables.l0];refine ev_p (by simp;omega) (ev_p (by omega) (ev_p (by simp;omega) (ev_p (by simp;omega) ?_)))
   have e1:rd (p++x :: r) i=x:=rdA hi
   have e2:rd (q++y :: s) i=y:=rdA (by omega)
   rw [e1,e2];refine Ev.bind (ev_c (zz80 kind x y (hr x (by simp)) (hs y (by simp)))) (ev_p (by omega) ?_)
   rw [w64 (by omega) (by omega)]
   have:=ih s (p ++ [x]) (q ++ [y]) (o ++ [cmbV kind x y]) (i+1) (by simp;omega) (by simp;omega) (by omega) (by simp;omega) (by simp;omega) (fun z hz=>hr z (by simp [hz])) (fun z hz=>hs z (by simp [hz]))
   simp only [List.append_assoc,List.singleton_append] at this;exact this
def cmbT (kind a:Int) (l:List Int) (b:Int) (m:List Int):Int×List Int×Bool:=if 1≤kind∧kind≤4∧tableM a l=true∧tableM b m=true∧a=b then (a,cmbL kind l m,true) else (0,[],false)
theorem zz83 (kind a:Int) (l:List Int) (b:Int) (m:List Int) (hl:l.length≤9223372036854775807) (hm:m.length≤9223372036854775807):Ev (fun k=>spec_CombineTables.f k kind a l b m) (cmbT kind a l b m):=by
 have hj:¬ (1≤kind∧kind≤4∧tableM a l=true∧tableM b m=true∧a=b)→Ev (fun k=>spec_CombineTables.j0 k kind true a l b m) (cmbT kind a l b m):=fun h=>by
  unfold cmbT;rw [if_neg h];apply ev_up;simp only [spec_CombineTables.j0];exact ev_p (by simp) (Ev.now _)
 unfold spec_CombineTables.f;have e1:spec_l1In.f kind 1 4=some (decide (1≤kind∧kind≤4)):=by
  unfold spec_l1In.f;by_cases h:kind≥1
  ·rw [if_pos h]
   by_cases h2:kind≤4 <;> simp [h,h2]
  ·rw [if_neg h]
   simp [h]
 refine Ev.bind (ev_c e1) (ev_ite (fun c=>?_) (fun c=>hj (fun h=>c (decide_eq_true ⟨h.1,h.2.1⟩))))
 refine Ev.bind (zz75 a l hl) (ev_ite (fun c1=>?_) (fun c1=>hj (fun h=>c1 h.2.2.1)))
 refine Ev.bind (zz75 b m hm) (ev_ite (fun c2=>?_) (fun c2=>hj (fun h=>c2 h.2.2.2.1)))
 have c:=of_decide_eq_true c
 by_cases hab:a=b
 ·subst hab
  obtain ⟨n,rfl,hn,h1,h2,h3⟩:=zz74 c1
  obtain ⟨n2,e,_,g1,g2,g3⟩:=zz74 c2
  obtain rfl:n=n2:=by omega
  unfold cmbT;rw [if_pos ⟨c.1,c.2,c1,c2,rfl⟩];apply ev_up;simp only [spec_CombineTables.j0];refine ev_n (by simp) ?_
  simpa using zz81 kind (n:Int) l m [] [] [] 0 rfl rfl (by omega) (by simp;omega) (by simp) h3 g3
 ·have:(a != b)=true:=by simpa using hab
  rw [this];exact hj (fun h=>hab h.2.2.2.2)
theorem zz84 (l:List Int) (hl:l.length≤9223372036854775807) (r:List Int):∀ (p:List Int) (i:Int),i=p.length→l=p++r →
  Ev (fun k=>impl_areBits.l0 k l l.length i) (r.all (inB 0 1)):=by
 induction r with
 | nil =>
  intro p i hi e;have hlen:l.length=p.length:=by rw [e];simp
  apply ev_up;simp only [impl_areBits.l0];exact ev_n (by omega) (Ev.now _)
 | cons x r ih =>
  intro p i hi e;have hlen:l.length=p.length+r.length+1:=by rw [e];simp;omega
  have hx:rd l i=x:=by rw [e];exact rdA hi
  have ih':=ih (p ++ [x]) (i+1) (by simp;omega) (by rw [e];simp)
  apply ev_up;simp only [impl_areBits.l0];refine ev_p (by omega) (ev_p (by omega) (ev_p (by omega) ?_))
  rw [hx,w64 (n:=i+1) (by omega) (by omega)]
  refine ev_ite (fun h=>?_) (fun h=>ev_ite (fun h2=>?_) (fun h2=>?_))
  ·rw [List.all_cons,show inB 0 1 x=true from decide_eq_true (by omega),Bool.true_and]
   exact ih'
  ·rw [List.all_cons,show inB 0 1 x=true from decide_eq_true (by omega),Bool.true_and]
   exact ih'
  ·rw [List.all_cons,show inB 0 1 x=false from decide_eq_false (by omega),Bool.false_and]
   exact Ev.now _
theorem zz85 (l:List Int) (hl:l.length≤9223372036854775807):Ev (fun k=>impl_areBits.f k l) (l.all (inB 0 1)):=by
 unfold impl_areBits.f;exact zz84 l hl l [] 0 rfl rfl
theorem zz86 (n:Int) (l:List Int) (hl:l.length≤9223372036854775807):Ev (fun k=>impl_IsTable.f k n l) (tableM n l):=by
 unfold impl_IsTable.f tableM;refine ev_ite (fun h1=>ev_ite (fun h2=>?_) (fun h2=>?_)) (fun h1=>?_)
 ·obtain ⟨a,rfl⟩:=nat_of h1
  rw [shl1 a (by omega)]
  refine ev_p (by omega) (ev_ite (fun h3=>?_) (fun h3=>?_))
  ·have h4:l.length=2 ^ a:=by exact_mod_cast h3
   rw [decide_eq_true ⟨h1,h2,by simpa using h4⟩,Bool.true_and]
   exact Ev.bind (zz85 l hl) (Ev.now _)
  ·rw [decide_eq_false (fun hh=>h3 (by have:=hh.2.2;simp only [Int.toNat_natCast] at this;exact_mod_cast this)),Bool.false_and]
   exact Ev.now _
 ·rw [decide_eq_false (fun hh=>h2 hh.2.1),Bool.false_and]
  exact Ev.now _
 ·rw [decide_eq_false (fun hh=>h1 hh.1),Bool.false_and]
  exact Ev.now _
theorem zz87 (kind a:Int) (hk:1≤kind∧kind≤4) (r:List Int):∀ (s p q o:List Int) (i:Int),i=p.length→q.length=p.length→r.length=s.length→p.length+r.length≤1000→o.length≤p.length→(∀ x∈r,0≤x∧x≤1)→(∀ x∈s,0≤x∧x≤1) →
  Ev (fun k=>impl_CombineTables.l0 k o i kind a (p++r) (q++s)) (a,o++cmbL kind r s,true):=by
 induction r with
 | nil =>
  intro s p q o i hi hq hl hb ho hr hs;apply ev_up;simp only [impl_CombineTables.l0];refine ev_n (by simp;omega) (ev_eq (Ev.now _) (by simp [cmbL]))
 | cons x r ih =>
  intro s p q o i hi hq hl hb ho hr hs;match s,hl with
  | y :: s,hl =>
   simp only [List.length_cons] at hl hb;apply ev_up;simp only [impl_CombineTables.l0];refine ev_p (by simp;omega) (ev_p ⟨by omega,by simp;omega⟩ (ev_p ⟨by omega,by simp;omega⟩ ?_))
   have e1:rd (p++x :: r) i=x:=rdA hi
   have e2:rd (q++y :: s) i=y:=rdA (by omega)
   rw [e1,e2,w64 (n:=i+1) (by omega) (by omega)]
   have hnext:∀ v:Int,v=cmbV kind x y→Ev (fun k=>impl_CombineTables.l0 k (o ++ [v]) (i+1) kind a (p++x :: r) (q++y :: s)) (a,o++cmbL kind (x :: r) (y :: s),true):=fun v hv=>by
    subst hv;have:=ih s (p ++ [x]) (q ++ [y]) (o ++ [cmbV kind x y]) (i+1) (by simp;omega) (by simp;omega) (by omega) (by simp;omega) (by simp;omega) (fun z hz=>hr z (by simp [hz])) (fun z hz=>hs z (by simp [hz]))
    simp only [List.append_assoc,List.singleton_append] at this;exact this
   have hx:=hr x (by simp)
   have hy:=hs y (by simp)
   refine ev_ite (fun c=>ev_p (by omega) (hnext _ ?_)) (fun c=>ev_ite (fun c2=>ev_p (by omega) (hnext _ ?_)) (fun c2=>ev_ite (fun c3=>ev_p (by omega) (hnext _ ?_)) (fun c3=>ev_p (by omega) (hnext _ ?_))))
   all_goals unfold cmbV
   ·rw [if_pos c]
    obtain rfl | rfl:x=0∨x=1:=by omega
    all_goals obtain rfl | rfl:y=0∨y=1:=by omega
    all_goals rfl
   ·rw [if_neg c,if_pos c2]
    obtain rfl | rfl:x=0∨x=1:=by omega
    all_goals obtain rfl | rfl:y=0∨y=1:=by omega
    all_goals rfl
   ·rw [if_neg c,if_neg c2,if_pos c3]
    obtain rfl | rfl:x=0∨x=1:=by omega
    all_goals obtain rfl | rfl:y=0∨y=1:=by omega
    all_goals rfl
   ·rw [if_neg c,if_neg c2,if_neg c3]
    obtain rfl | rfl:x=0∨x=1:=by omega
    all_goals obtain rfl | rfl:y=0∨y=1:=by omega
    all_goals (rw [w64 (by omega) (by omega)];rfl)
theorem zz88 (kind a:Int) (l:List Int) (b:Int) (m:List Int) (hl:l.length≤9223372036854775807) (hm:m.length≤9223372036854775807):Ev (fun k=>impl_CombineTables.f k kind a l b m) (cmbT kind a l b m):=by
 have no:¬ (1≤kind∧kind≤4∧tableM a l=true∧tableM b m=true∧a=b)→Ev (fun _:Nat=>some ((0:Int),([]:List Int),false)) (cmbT kind a l b m):=fun h=>by
  unfold cmbT;rw [if_neg h];exact Ev.now _
 unfold impl_CombineTables.f;refine Ev.bind (zz86 a l hl) (ev_ite (fun c1=>?_) (fun c1=>no (fun h=>c1 h.2.2.1)))
 refine Ev.bind (zz86 b m hm) (ev_ite (fun c2=>?_) (fun c2=>no (fun h=>c2 h.2.2.2.1)))
 refine ev_ite (fun hab=>?_) (fun hab=>no (fun h=>hab h.2.2.2.2))
 refine ev_ite (fun hk=>no (fun h=>by omega)) (fun hk=>ev_ite (fun hk2=>no (fun h=>by omega)) (fun hk2=>?_))
 subst hab;obtain ⟨n,rfl,hn,h1,h2,h3⟩:=zz74 c1
 obtain ⟨n2,e,_,g1,g2,g3⟩:=zz74 c2
 obtain rfl:n=n2:=by omega
 unfold cmbT;rw [if_pos ⟨by omega,by omega,c1,c2,rfl⟩]
 simpa using zz87 kind (n:Int) ⟨by omega,by omega⟩ l m [] [] [] 0 rfl rfl (by omega) (by simp;omega) (by simp) h3 g3
theorem zz89 (sn:List Bool) (q:Nat) (i:Int) (h0:0≤i) (h:i≠(q:Int)) (v:Bool):rdOf false (sn.set q v) i=rdOf false sn i:=by
 unfold rdOf;rw [List.getD_eq_getElem?_getD,List.getD_eq_getElem?_getD,List.getElem?_set_ne (by omega)]
theorem zz90 (sn:List Bool) (q:Nat) (h:q<sn.length) (v:Bool):rdOf false (sn.set q v) (q:Int)=v:=by
 unfold rdOf;rw [List.getD_eq_getElem?_getD,Int.toNat_natCast,List.getElem?_set_self h];rfl
theorem zz91 {ns:List S93} (hd:ndDown ns):∀ (F:Nat) (r:Int) (sn:List Bool) (out:List Int) (B:Nat),r<2+(B:Int)→B≤ns.length→sn.length=ns.length→(∀ i:Nat,i<B→(rdOf false sn (i:Int)=true↔(i:Int)∈out)) →
  (ndVisitS ns F r (sn,out)).2=ndVisit ns F r out∧(∀ i:Nat,i<B→(rdOf false (ndVisitS ns F r (sn,out)).1 (i:Int)=true↔(i:Int)∈ndVisit ns F r out))∧(∀ i:Nat,B≤i→rdOf false (ndVisitS ns F r (sn,out)).1 (i:Int)=rdOf false sn (i:Int))∧(∀ x∈ndVisit ns F r out,x∈out∨(0≤x∧x<(B:Int)))∧(ndVisitS ns F r (sn,out)).1.length=ns.length:=by
 intro F;induction F with
 | zero =>
  intro r sn out B _ _ hl hi;exact ⟨rfl,hi,fun _ _=>rfl,fun x hx => .inl hx,hl⟩
 | succ F ih =>
  intro r sn out B hr hB hl hi;rw [ndVisitS,ndVisit];by_cases h2:r<2
  ·rw [if_pos (Or.inl h2),if_pos (Or.inl h2)]
   exact ⟨rfl,hi,fun _ _=>rfl,fun x hx => .inl hx,hl⟩
  obtain ⟨q,hq⟩:∃ q:Nat,r - 2=(q:Int):=⟨(r - 2).toNat,by omega⟩
  have hqB:q<B:=by omega
  rw [hq];by_cases hs:(q:Int)∈out
  ·rw [if_pos (Or.inr ((hi q hqB).2 hs)),if_pos (Or.inr hs)]
   exact ⟨rfl,hi,fun _ _=>rfl,fun x hx => .inl hx,hl⟩
  have hsn:¬ rdOf false sn (q:Int)=true:=fun e=>hs ((hi q hqB).1 e)
  rw [if_neg (fun e=>e.elim h2 hsn),if_neg (fun e=>e.elim h2 hs)]
  obtain ⟨d1,d2⟩:=hd q (by omega)
  dsimp only;rw [Int.toNat_natCast];show _∧_
  have e0:rd_T93 ns (q:Int)=ns.getD q z93:=rfl
  rw [e0] at d1 d2 ⊢
  have hl1:(sn.set q true).length=ns.length:=by rw [List.length_set];exact hl
  obtain ⟨a1,a2,a3,a4,a5⟩:=ih (ns.getD q z93).f1 (sn.set q true) out q d1 (by omega) hl1 (fun i h=>by rw [zz89 sn q i (by omega) (by omega)];exact hi i (by omega))
  generalize hA:ndVisitS ns F (ns.getD q z93).f1 (sn.set q true,out)=st1 at a1 a2 a3 a5 ⊢
  obtain ⟨sn1,out1⟩:=st1
  dsimp only at a1 a2 a3 a5
  rw [← a1] at a2 a4 ⊢
  obtain ⟨b1,b2,b3,b4,b5⟩:=ih (ns.getD q z93).f2 sn1 out1 q d2 (by omega) a5 a2
  generalize hB2:ndVisitS ns F (ns.getD q z93).f2 (sn1,out1)=st2 at b1 b2 b3 b5 ⊢
  obtain ⟨sn2,out2⟩:=st2
  dsimp only at b1 b2 b3 b5 ⊢
  rw [← b1] at b2 b4 ⊢
  refine ⟨rfl,fun i h=>?_,fun i h=>?_,fun x hx=>?_,b5⟩
  ·by_cases hiq:i<q
   ·rw [b2 i hiq]
    simp only [List.mem_append,List.mem_singleton];exact ⟨fun e => .inl e,fun e=>e.elim id (fun e=>by omega)⟩
   ·by_cases hie:i=q
    ·subst hie
     rw [b3 i (Nat.le_refl _),a3 i (Nat.le_refl _),zz90 sn i (by omega)]
     simp
    ·rw [b3 i (by omega),a3 i (by omega),zz89 sn q i (by omega) (by omega),hi i h]
     simp only [List.mem_append,List.mem_singleton];constructor
     ·intro e
      have h1:=(zz29 ns F (ns.getD q z93).f1 out).subset e
      rw [← a1] at h1;have h3:=(zz29 ns F (ns.getD q z93).f2 out1).subset h1
      rw [← b1] at h3;exact .inl h3
     ·rintro (e | e)
      ·rcases b4 _ e with e | e
       ·rcases a4 _ e with e | e
        ·exact e
        ·omega
       ·omega
      ·omega
  ·rw [b3 i (by omega),a3 i (by omega),zz89 sn q i (by omega) (by omega)]
  ·rcases List.mem_append.1 hx with e | e
   ·rcases b4 _ e with e | e
    ·rcases a4 _ e with e | e
     ·exact .inl e
     ·exact .inr (by omega)
    ·exact .inr (by omega)
   ·rw [List.mem_singleton] at e
    exact .inr (by omega)
theorem zz92 {n:Nat} {ns:List S93} (h:NdB n ns) (a root:Int) (hl:ns.length≤40) (h1:root<2+(ns.length:Int)):Ev (fun k=>impl_visitOrder.f k a ns root) (ndVisit ns ns.length root []):=by
 have hd:ndDown ns:=fun i hi=>⟨(h.low i hi).2,(h.high i hi).2⟩
 unfold impl_visitOrder.f;refine ev_p ⟨hl,h1,hd⟩ (ev_eq (Ev.now _) ?_)
 refine (zz91 hd ns.length root _ [] ns.length h1 (Nat.le_refl _) (List.length_replicate ..) (fun i hi=>?_)).1
 simp [rdOf,List.getD_eq_getElem?_getD,hi]
def diagM (a:Int) (ns:List S93) (root:Int):Prop:=0≤a∧a≤4∧ns.length≤40∧0≤root∧root<2+(ns.length:Int)∧NdB a.toNat ns∧ndBuild (ndTab a.toNat ns root) a.toNat a.toNat 0 []=(ns,root)
theorem zz94 (n:Nat) (hn:n≤4) (vs:List Int) (hv:vs.length=2 ^ n):Ev (fun k=>spec_ddMake.f k n vs) ((n:Int),(ndBuild vs n n 0 []).1,(ndBuild vs n n 0 []).2):=by
 unfold spec_ddMake.f;refine ev_p ⟨by omega,by omega,hv⟩ ?_
 rw [Int.toNat_natCast];exact Ev.now _
theorem zz95 (n:Nat) (hn:n≤4) (vs:List Int) (hv:vs.length=2 ^ n):Ev (fun k=>impl_diagramOf.f k n vs) ((n:Int),(ndBuild vs n n 0 []).1,(ndBuild vs n n 0 []).2):=by
 unfold impl_diagramOf.f;refine ev_p ⟨by omega,by omega,hv⟩ ?_
 rw [Int.toNat_natCast];exact Ev.now _
theorem l1In_eqD (a lo hi:Int):spec_l1In.f a lo hi=some (decide (lo≤a∧a≤hi)):=by
 unfold spec_l1In.f;by_cases h:a≥lo
 ·rw [if_pos h]
  by_cases h2:a≤hi
  ·simp [h,h2]
  ·simp [h,h2]
 ·rw [if_neg h]
  simp [h]
theorem zz97 (n root m root2:Int) (r:List S93):∀ (s p:List S93) (i:Int),i=p.length→r.length=s.length→p.length+r.length≤1000 →
  Ev (fun k=>spec_ddSame.l0 k (p++r) ((p++r).length:Int) i m (p++s) root2) (decide (r=s)):=by
 induction r with
 | nil =>
  intro s p i hi hl hb;obtain rfl:s=[]:=List.length_eq_zero_iff.1 hl.symm
  apply ev_up;simp only [spec_ddSame.l0];refine ev_n (by simp;omega) (ev_eq (Ev.now _) (by simp))
 | cons x r ih =>
  intro s p i hi hl hb;match s,hl with
  | y :: s,hl =>
   simp only [List.length_cons] at hl hb;apply ev_up;simp only [spec_ddSame.l0];refine ev_p (by simp;omega) (ev_p (by omega) (ev_p (by simp;omega) (ev_p (by simp;omega) ?_)))
   have e1:rd_T93 (p++x :: r) i=x:=getDA hi
   have e2:rd_T93 (p++y :: s) i=y:=getDA hi
   rw [e1,e2];by_cases hxy:x=y
   ·subst hxy
    refine ev_n (by simp) ?_
    rw [w64 (by omega) (by omega)]
    have:=ih s (p ++ [x]) (i+1) (by simp;omega) (by omega) (by simp;omega)
    simp only [List.append_assoc,List.singleton_append] at this;refine ev_eq this ?_
    by_cases h2:r=s
    ·rw [decide_eq_true h2,decide_eq_true (by rw [h2])]
    ·rw [decide_eq_false h2,decide_eq_false (fun e=>h2 (by injection e))]
   ·rw [decide_eq_false (fun e=>hxy (by injection e))]
    refine ev_p ?_ (Ev.now _)
    have hne:¬ (x.f0=y.f0∧x.f1=y.f1∧x.f2=y.f2):=fun e=>hxy (by cases x;cases y;simp at e ⊢;exact e)
    by_cases a:x.f0=y.f0
    ·by_cases b:x.f1=y.f1
     ·have c:¬ x.f2=y.f2:=fun c=>hne ⟨a,b,c⟩
      simp [a,b,c]
     ·simp [a,b]
    ·simp [a]
theorem zz98 (n root:Int) (ns:List S93) (root2:Int) (ms:List S93) (hb:ns.length≤1000) (hb2:ms.length≤1000):Ev (fun k=>spec_ddSame.f k n ns root n ms root2) (decide ((ms,root2)=(ns,root))):=by
 unfold spec_ddSame.f;refine ev_p (by simp) (ev_ite (fun hr=>?_) (fun hr=>?_))
 ·by_cases hl:ns.length=ms.length
  ·apply ev_up
   simp only [spec_ddSame.j0];refine ev_n (by rw [hl];simp) ?_
   have:=zz97 n root n root2 ns ms [] 0 rfl hl (by simpa using hb)
   refine ev_eq this ?_
   by_cases h:ns=ms
   ·rw [decide_eq_true h,decide_eq_true (by rw [h,hr])]
   ·rw [decide_eq_false h,decide_eq_false (fun e=>h (by injection e with e1 e2;exact e1.symm))]
  ·apply ev_up
   simp only [spec_ddSame.j0];refine ev_p (by simp;omega) (ev_eq (Ev.now _) ?_)
   rw [decide_eq_false];intro e;injection e with e1 e2
   exact hl (by rw [e1])
 ·apply ev_up
  simp only [spec_ddSame.j0];refine ev_p (by simp) (ev_eq (Ev.now _) ?_)
  rw [decide_eq_false];intro e;injection e with e1 e2
  exact hr e2.symm
open Classical in
noncomputable def diagB (a:Int) (ns:List S93) (root:Int):Bool:=decide (diagM a ns root)
open Classical in
theorem zz100 (a:Int) (ns:List S93) (root:Int):diagB a ns root=true↔diagM a ns root:=by
 unfold diagB;exact decide_eq_true_iff
theorem ev_diagB {a:Int} {ns:List S93} {root:Int} {f:Nat→Option Bool} {b:Bool} (h:Ev f b) (e:b=true↔diagM a ns root):Ev f (diagB a ns root):=by
 refine ev_eq h ?_
 rw [Bool.eq_iff_iff,zz100];exact e
theorem zz102 {ns:List S93} (a root:Int) (i:Nat) (r:Int) (hi:i<ns.length) (hl:ns.length≤1000):∃ b:Bool,impl_goodReference.f a ns root (i:Int) r=some b∧(b=true↔ndRef ns i (ns.getD i z93).f0 r):=by
 unfold impl_goodReference.f ndRef;rw [w64 (n:=2+(i:Int)) (by omega) (by omega)]
 by_cases h1:r<0
 ·rw [if_pos h1]
  exact ⟨_,rfl,by simp only [Bool.false_eq_true,false_iff];omega⟩
 rw [if_neg h1];by_cases h2:r≥2+(i:Int)
 ·rw [if_pos h2]
  exact ⟨_,rfl,by simp only [Bool.false_eq_true,false_iff];omega⟩
 rw [if_neg h2];by_cases h3:r<2
 ·rw [if_pos h3]
  exact ⟨_,rfl,by simp only [true_iff];exact ⟨by omega,by omega,fun h=>absurd h (by omega)⟩⟩
 obtain ⟨q,rfl⟩:∃ q:Nat,r=2+(q:Int):=⟨(r - 2).toNat,by omega⟩
 rw [if_neg h3,if_pos (by omega),if_pos (by omega),wN (m:=q) (by omega) (by omega),if_pos (by omega),if_pos (by omega)]
 refine ⟨_,rfl,?_⟩
 rw [decide_eq_true_iff,show (2+(q:Int) - 2).toNat=q by omega]
 exact ⟨fun h=>⟨by omega,by omega,fun _=>h⟩,fun h=>h.2.2 (by omega)⟩
theorem nd_eqb2 (x y:S93):(x.f0 == y.f0 && (x.f1 == y.f1 && (x.f2 == y.f2)))=true↔x=y:=by
 constructor
 ·intro h
  simp only [Bool.and_eq_true,beq_iff_eq] at h;cases x;cases y;simp_all
 ·rintro rfl;simp
theorem zz104 {ns:List S93} (a root:Int) (i:Nat) (hi:i<ns.length) (hl:ns.length≤1000) (x:S93):∀ (d j:Nat),j+d=i →
  ((∀ q,j≤q→q<i→ns.getD q z93≠x)→∀ (R:Bool),Ev (fun k=>impl_IsDiagram.l0 k ns (ns.length:Int) (((i+1:Nat)):Int) a ns root) R→Ev (fun k=>impl_IsDiagram.l1 k i j ns (ns.length:Int) i a ns root x.f0 x.f1 x.f2) R) ∧
  ((∃ q,j≤q∧q<i∧ns.getD q z93=x)→Ev (fun k=>impl_IsDiagram.l1 k i j ns (ns.length:Int) i a ns root x.f0 x.f1 x.f2) false):=by
 intro d;induction d with
 | zero =>
  intro j hj;refine ⟨fun _ R hR=>?_,fun ⟨q,h1,h2,_⟩=>by omega⟩
  apply ev_up;simp only [impl_IsDiagram.l1];rw [wN (n:=(i:Int)+1) (m:=i+1) (by omega) (by omega)]
  exact ev_n (by omega) hR
 | succ d ih =>
  intro j hj;obtain ⟨ih1,ih2⟩:=ih (j+1) (by omega)
  have hstep:∀ R:Bool,ns.getD j z93≠x→Ev (fun k=>impl_IsDiagram.l1 k i ((j+1:Nat):Int) ns (ns.length:Int) i a ns root x.f0 x.f1 x.f2) R→Ev (fun k=>impl_IsDiagram.l1 k i j ns (ns.length:Int) i a ns root x.f0 x.f1 x.f2) R:=fun R hne hR=>by
   apply ev_up;simp only [impl_IsDiagram.l1];refine ev_p (by omega) (ev_p (by omega) (ev_p (by omega) (ev_n ?_ ?_)))
   ·show ¬ ((rd_T93 ns (j:Int)).f0 == x.f0 && ((rd_T93 ns (j:Int)).f1 == x.f1 && ((rd_T93 ns (j:Int)).f2 == x.f2)))=true
    rw [nd_eqb2];exact hne
   ·rw [wN (m:=j+1) (by omega) (by omega)]
    exact hR
  refine ⟨fun h R hR=>hstep R (h j (by omega) (by omega)) (ih1 (fun q h1 h2=>h q (by omega) h2) R hR),fun ⟨q,h1,h2,h3⟩=>?_⟩
  by_cases e:ns.getD j z93=x
  ·apply ev_up
   simp only [impl_IsDiagram.l1];refine ev_p (by omega) (ev_p (by omega) (ev_p (by omega) (ev_p ?_ (Ev.now _))))
   show ((rd_T93 ns (j:Int)).f0 == x.f0 && ((rd_T93 ns (j:Int)).f1 == x.f1 && ((rd_T93 ns (j:Int)).f2 == x.f2)))=true
   rw [nd_eqb2];exact e
  ·exact hstep false e (ih2 ⟨q,Nat.lt_of_le_of_ne h1 (fun hq=>e (by rw [hq];exact h3)),h2,h3⟩)
theorem zz105 (l:List Int) (hl:l.length≤1000):∀ (d i:Nat),i+d=l.length→(∀ q,q<i→rd l (q:Int)=(q:Int))→∃ b:Bool,Ev (fun k=>impl_IsDiagram.l2 k l (l.length:Int) i) b∧(b=true↔∀ q,q<l.length→rd l (q:Int)=(q:Int)):=by
 intro d;induction d with
 | zero =>
  intro i hi hq;refine ⟨true,?_,by simp only [true_iff];exact fun q h=>hq q (by omega)⟩
  apply ev_up;simp only [impl_IsDiagram.l2];exact ev_n (by omega) (Ev.now _)
 | succ d ih =>
  intro i hi hq;by_cases e:(i:Int)=rd l (i:Int)
  ·obtain ⟨b,hb,hbi⟩:=ih (i+1) (by omega) (fun q h=>by
    by_cases hqi:q=i
    ·subst hqi;exact e.symm
    ·exact hq q (by omega))
   refine ⟨b,?_,hbi⟩
   apply ev_up;simp only [impl_IsDiagram.l2];refine ev_p (by omega) (ev_p (by omega) (ev_p (by omega) (ev_p e ?_)))
   rw [wN (m:=i+1) (by omega) (by omega)]
   exact hb
  ·refine ⟨false,?_,by simp only [Bool.false_eq_true,false_iff];exact fun h=>e (h i (by omega)).symm⟩
   apply ev_up;simp only [impl_IsDiagram.l2];exact ev_p (by omega) (ev_p (by omega) (ev_p (by omega) (ev_n e (Ev.now _))))
theorem iota_of {l:List Int} {n:Nat} (hl:l.length=n):(∀ q,q<l.length→rd l (q:Int)=(q:Int))↔l=ndIota n:=by
 subst hl;constructor
 ·intro h
  apply List.ext_getElem?
  intro i;by_cases hi:i<l.length
  ·have h1:=h i hi
   rw [rdN hi] at h1;unfold ndIota;rw [List.getElem?_eq_getElem hi,h1];simp [hi]
  ·rw [List.getElem?_eq_none (by omega),List.getElem?_eq_none (by rw [zz24];omega)]
 ·intro h q hq
  have h2:l[q]?=(ndIota l.length)[q]?:=by rw [← h]
  rw [rdN hq];unfold ndIota at h2;rw [List.getElem?_eq_getElem hq] at h2;simp [hq] at h2
  exact h2
theorem zz107 {n:Nat} {ns:List S93} (hn:n≤4) (hl:ns.length≤40) (root:Int) (h0:0≤root) (h1:root<2+(ns.length:Int)):∀ (d i:Nat),i+d=ns.length →
  (∀ q,q<i→(0≤(ns.getD q z93).f0∧(ns.getD q z93).f0<(n:Int))∧(ns.getD q z93).f1≠(ns.getD q z93).f2∧ndRef ns q (ns.getD q z93).f0 (ns.getD q z93).f1∧ndRef ns q (ns.getD q z93).f0 (ns.getD q z93).f2∧∀ j,j<q→ns.getD j z93≠ns.getD q z93) →
  ∃ b:Bool,Ev (fun k=>impl_IsDiagram.l0 k ns (ns.length:Int) i n ns root) b∧(b=true↔NdB n ns∧ndBuild (ndTab n ns root) n n 0 []=(ns,root)):=by
 have made:NdB n ns∧ndBuild (ndTab n ns root) n n 0 []=(ns,root)→NdOk n ns∧ndVisit ns ns.length root []=ndIota ns.length:=fun ⟨hb,hm⟩=>by
  have h:=zz48 (n:=n) (ndTab n ns root) (rd_bits (zz59 hb root h0 h1)) n 0 [] (Nat.le_refl _) (by simp) (NdOk.nil n)
  rw [hm] at h;exact ⟨h.ok,h.visit ns ns.length (List.prefix_refl _) h.ok (Nat.le_refl _)⟩
 have hno:∀ {f:Nat→Option Bool},Ev f false→¬ NdOk n ns→∃ b:Bool,Ev f b∧(b=true↔NdB n ns∧ndBuild (ndTab n ns root) n n 0 []=(ns,root)):=fun hf hk=>⟨false,hf,by simp only [Bool.false_eq_true,false_iff];exact fun h=>hk (made h).1⟩
 intro d;induction d with
 | zero =>
  intro i hi hq;obtain rfl:i=ns.length:=by omega
  have hk:NdOk n ns:=⟨fun q h=>(hq q h).1,fun q h=>(hq q h).2.1,fun q h=>(hq q h).2.2.1,fun q h=>(hq q h).2.2.2.1,fun p q hpq h=>(hq q h).2.2.2.2 p hpq⟩
  have hv:=zz92 hk.b (n:Int) root hl h1
  have hiff:(NdB n ns∧ndBuild (ndTab n ns root) n n 0 []=(ns,root))↔ndVisit ns ns.length root []=ndIota ns.length:=by
   constructor
   ·exact fun h=>(made h).2
   ·exact fun h=>⟨hk.b,zz47 hk _ ns.length (Nat.le_refl _) root h0 h1 h (fun j hj=>ndTab_rd hj)⟩
  rw [hiff];by_cases hlen:(ndVisit ns ns.length root []).length=ns.length
  ·obtain ⟨b,hb,hbi⟩:=zz105 (ndVisit ns ns.length root []) (by omega) _ 0 (Nat.zero_add _) (fun q h=>by omega)
   refine ⟨b,?_,by rw [hbi];exact iota_of hlen⟩
   apply ev_up;simp only [impl_IsDiagram.l0];exact ev_n (by omega) (Ev.bind hv (ev_p (by omega) hb))
  ·refine ⟨false,?_,by simp only [Bool.false_eq_true,false_iff];exact fun h=>hlen (by rw [h,zz24])⟩
   apply ev_up;simp only [impl_IsDiagram.l0];exact ev_n (by omega) (Ev.bind hv (ev_n (by omega) (Ev.now _)))
 | succ d ih =>
  intro i hi hq;have hin:i<ns.length:=by omega
  have hj2:∀ (f0 f1 f2:Int),Ev (fun k=>impl_IsDiagram.j2 k i ns (ns.length:Int) i true n ns root f0 f1 f2) false:=fun f0 f1 f2=>by
   apply ev_up;simp only [impl_IsDiagram.j2];exact ev_p (by simp) (Ev.now _)
  obtain ⟨b1,e1,hb1⟩:=zz102 (n:Int) root i (ns.getD i z93).f1 hin (by omega)
  obtain ⟨b2,e2,hb2⟩:=zz102 (n:Int) root i (ns.getD i z93).f2 hin (by omega)
  have hgo:∀ R:Bool,(∀ (b:Bool),Ev (fun k=>if (ns.getD i z93).f0<0 then (impl_IsDiagram.j2 k i ns (ns.length:Int) i true n ns root (ns.getD i z93).f0 (ns.getD i z93).f1 (ns.getD i z93).f2) else (if (ns.getD i z93).f0≥(n:Int) then (impl_IsDiagram.j2 k i ns (ns.length:Int) i true n ns root (ns.getD i z93).f0 (ns.getD i z93).f1 (ns.getD i z93).f2) else (if (ns.getD i z93).f1=(ns.getD i z93).f2 then (impl_IsDiagram.j2 k i ns (ns.length:Int) i true n ns root (ns.getD i z93).f0 (ns.getD i z93).f1 (ns.getD i z93).f2) else ((impl_goodReference.f n ns root i (ns.getD i z93).f1).bind fun t228=>(if t228=true then ((impl_goodReference.f n ns root i (ns.getD i z93).f2).bind fun t229=>(impl_IsDiagram.j2 k i ns (ns.length:Int) i (!t229) n ns root (ns.getD i z93).f0 (ns.getD i z93).f1 (ns.getD i z93).f2)) else (impl_IsDiagram.j2 k i ns (ns.length:Int) i true n ns root (ns.getD i z93).f0 (ns.getD i z93).f1 (ns.getD i z93).f2)))))) b→b=R→Ev (fun k=>impl_IsDiagram.l0 k ns (ns.length:Int) i n ns root) R):=fun R b h hb=>by
   subst hb;apply ev_up;simp only [impl_IsDiagram.l0];exact ev_p (by omega) (ev_p (by omega) (ev_p (by omega) h))
  by_cases c1:(ns.getD i z93).f0<0
  ·exact hno (hgo false false (ev_p c1 (hj2 _ _ _)) rfl) (fun h=>by have:=(h.inp i hin).1;omega)
  by_cases c2:(ns.getD i z93).f0≥(n:Int)
  ·exact hno (hgo false false (ev_n c1 (ev_p c2 (hj2 _ _ _))) rfl) (fun h=>by have:=(h.inp i hin).2;omega)
  by_cases c3:(ns.getD i z93).f1=(ns.getD i z93).f2
  ·exact hno (hgo false false (ev_n c1 (ev_n c2 (ev_p c3 (hj2 _ _ _)))) rfl) (fun h=>h.ne i hin c3)
  cases b1 with
  | false=>exact hno (hgo false false (ev_n c1 (ev_n c2 (ev_n c3 (Ev.bind (ev_c e1) (ev_n (by simp) (hj2 _ _ _)))))) rfl) (fun h=>absurd (hb1.2 (h.low i hin)) (by simp))
  | true =>
   cases b2 with
   | false=>exact hno (hgo false false (ev_n c1 (ev_n c2 (ev_n c3 (Ev.bind (ev_c e1) (ev_p rfl (Ev.bind (ev_c e2) (hj2 _ _ _))))))) rfl) (fun h=>absurd (hb2.2 (h.high i hin)) (by simp))
   | true =>
    obtain ⟨hyes,hsame⟩:=zz104 (n:Int) root i hin (by omega) (ns.getD i z93) i 0 (by omega)
    have hstep:∀ R:Bool,Ev (fun k=>impl_IsDiagram.l1 k i ((0:Nat):Int) ns (ns.length:Int) i n ns root (ns.getD i z93).f0 (ns.getD i z93).f1 (ns.getD i z93).f2) R→Ev (fun k=>impl_IsDiagram.l0 k ns (ns.length:Int) i n ns root) R:=fun R hR=>by
     refine hgo R R (ev_n c1 (ev_n c2 (ev_n c3 (Ev.bind (ev_c e1) (ev_p rfl (Ev.bind (ev_c e2) ?_)))))) rfl
     apply ev_up;simp only [impl_IsDiagram.j2];exact ev_n (by simp) hR
    by_cases hex:∃ q,0≤q∧q<i∧ns.getD q z93=ns.getD i z93
    ·obtain ⟨q,_,hq2,hq3⟩:=hex
     exact hno (hstep false (hsame ⟨q,Nat.zero_le _,hq2,hq3⟩)) (fun h=>h.one q i hq2 hin hq3)
    ·obtain ⟨b,hb,hbi⟩:=ih (i+1) (by omega) (fun q h=>by
      by_cases e:q=i
      ·subst e
       exact ⟨⟨by omega,by omega⟩,c3,hb1.1 rfl,hb2.1 rfl,fun j hj hje=>hex ⟨j,Nat.zero_le _,hj,hje⟩⟩
      ·exact hq q (by omega))
     exact ⟨b,hstep b (hyes (fun q _ h2 h3=>hex ⟨q,Nat.zero_le _,h2,h3⟩) b hb),hbi⟩
theorem zz108 (a:Int) (ns:List S93) (root:Int) (hl:ns.length≤9223372036854775806):Ev (fun k=>impl_IsDiagram.f k a ns root) (diagB a ns root):=by
 have hj:¬ diagM a ns root→Ev (fun k=>impl_IsDiagram.j0 k true a ns root) (diagB a ns root):=fun h=>by
  apply ev_up;simp only [impl_IsDiagram.j0];exact ev_p (by simp) (ev_diagB (Ev.now false) (by simp only [Bool.false_eq_true,false_iff];exact h))
 unfold impl_IsDiagram.f;refine ev_ite (fun c=>hj (fun hd=>by have:=hd.1;omega)) (fun c1=>ev_ite (fun c=>hj (fun hd=>by have:=hd.2.1;omega)) (fun c2=>ev_ite (fun c=>hj (fun hd=>by have:=hd.2.2.1;omega)) (fun c3=>ev_ite (fun c=>hj (fun hd=>by have:=hd.2.2.2.1;omega)) (fun c4=>?_))))
 obtain ⟨n,rfl⟩:=nat_of (show 0≤a by omega)
 rw [w64 (by omega) (by omega)]
 by_cases c5:root>1+(ns.length:Int)
 ·rw [decide_eq_true c5]
  exact hj (fun hd=>by have:=hd.2.2.2.2.1;omega)
 ·rw [decide_eq_false c5]
  obtain ⟨b,hb,hbi⟩:=zz107 (n:=n) (ns:=ns) (by omega) (by omega) root (by omega) (by omega) ns.length 0 (by omega) (fun q h=>by omega)
  apply ev_up;simp only [impl_IsDiagram.j0];refine ev_diagB (ev_n (by simp) hb) ?_
  rw [hbi];unfold diagM;rw [Int.toNat_natCast];exact ⟨fun h=>⟨by omega,by omega,by omega,by omega,by omega,h.1,h.2⟩,fun h=>⟨h.2.2.2.2.2.1,h.2.2.2.2.2.2⟩⟩
theorem zz109 {n:Nat} {ns:List S93} (hn:n≤4) (hl:ns.length≤40) (root:Int) (h0:0≤root) (h1:root<2+(ns.length:Int)):∀ (d i:Nat),i+d=ns.length →
  (∀ q,q<i→(0≤(ns.getD q z93).f0∧(ns.getD q z93).f0<(n:Int))∧(0≤(ns.getD q z93).f1∧(ns.getD q z93).f1<2+(q:Int))∧(0≤(ns.getD q z93).f2∧(ns.getD q z93).f2<2+(q:Int))) →
  ∃ b:Bool,Ev (fun k=>spec_ddGood.l0 k ns (ns.length:Int) i n ns root) b∧(b=true↔NdB n ns∧ndBuild (ndTab n ns root) n n 0 []=(ns,root)):=by
 intro d;induction d with
 | zero =>
  intro i hi hq;obtain rfl:i=ns.length:=by omega
  have hb:NdB n ns:=⟨fun q h=>(hq q h).1,fun q h=>(hq q h).2.1,fun q h=>(hq q h).2.2⟩
  have hm:=zz48 (n:=n) (ndTab n ns root) (rd_bits (zz59 hb root h0 h1)) n 0 [] (Nat.le_refl _) (by simp) (NdOk.nil n)
  have hlen:=hm.len
  have hp:=pow4 hn
  simp only [List.length_nil] at hlen;refine ⟨decide (ndBuild (ndTab n ns root) n n 0 []=(ns,root)),?_,by rw [decide_eq_true_iff];exact ⟨fun h=>⟨hb,h⟩,fun h=>h.2⟩⟩
  apply ev_up;simp only [spec_ddGood.l0];refine ev_n (by omega) (Ev.bind (zz58 hb hn (by omega) root h0 h1) (Ev.bind (zz94 n hn _ (zz54 _ _ _)) (Ev.bind (zz98 n root ns _ _ (by omega) (by dsimp only;omega)) (Ev.now _))))
 | succ d ih =>
  intro i hi hq;by_cases hok:(0≤(ns.getD i z93).f0∧(ns.getD i z93).f0<(n:Int))∧(0≤(ns.getD i z93).f1∧(ns.getD i z93).f1<2+(i:Int))∧(0≤(ns.getD i z93).f2∧(ns.getD i z93).f2<2+(i:Int))
  ·obtain ⟨b,hb,hbi⟩:=ih (i+1) (by omega) (fun q h=>by
    by_cases e:q=i
    ·subst e;exact hok
    ·exact hq q (by omega))
   refine ⟨b,?_,hbi⟩
   apply ev_up;simp only [spec_ddGood.l0];refine ev_p (by omega) (ev_p (by omega) (ev_p (by omega) ?_))
   rw [rdNd,l1In_eqD,l1In_eqD,l1In_eqD,w64 (n:=(n:Int) - 1) (by omega) (by omega),wN (m:=i+1) (by omega) (by omega)]
   obtain ⟨⟨a0,a1⟩,⟨b0,b1⟩,⟨c0,c1⟩⟩:=hok
   refine Ev.bind (ev_c rfl) (ev_p (decide_eq_true ⟨a0,by omega⟩) (Ev.bind (ev_c rfl) (ev_p (decide_eq_true ⟨b0,by omega⟩) (Ev.bind (ev_c rfl) (ev_p (decide_eq_true ⟨c0,by omega⟩) ?_)))))
   exact hb
  ·refine ⟨false,?_,by
    simp only [Bool.false_eq_true,false_iff];rintro ⟨hb,_⟩
    exact hok ⟨hb.inp i (by omega),hb.low i (by omega),hb.high i (by omega)⟩⟩
   apply ev_up;simp only [spec_ddGood.l0];refine ev_p (by omega) (ev_p (by omega) (ev_p (by omega) ?_))
   rw [rdNd,l1In_eqD,l1In_eqD,l1In_eqD,w64 (n:=(n:Int) - 1) (by omega) (by omega),wN (m:=i+1) (by omega) (by omega)]
   refine Ev.bind (ev_c rfl) (ev_ite (fun ha=>Ev.bind (ev_c rfl) (ev_ite (fun hb=>Ev.bind (ev_c rfl) (ev_ite (fun hc=>?_) (fun _=>Ev.now _))) (fun _=>Ev.now _))) (fun _=>Ev.now _))
   have ha:=of_decide_eq_true ha
   have hb:=of_decide_eq_true hb
   have hc:=of_decide_eq_true hc
   exact absurd ⟨⟨ha.1,by omega⟩,⟨hb.1,by omega⟩,⟨hc.1,by omega⟩⟩ hok
theorem zz110 (a:Int) (ns:List S93) (root:Int) (hl:ns.length≤9223372036854775806):Ev (fun k=>spec_ddGood.f k a ns root) (diagB a ns root):=by
 have hno:¬ diagM a ns root→Ev (fun _=>some false) (diagB a ns root):=fun h=>ev_diagB (Ev.now false) (by simp only [Bool.false_eq_true,false_iff];exact h)
 have hj:¬ diagM a ns root→Ev (fun k=>spec_ddGood.j0 k true a ns root) (diagB a ns root):=fun h=>by
  apply ev_up;simp only [spec_ddGood.j0];exact hno h
 unfold spec_ddGood.f;rw [zz72];refine Ev.bind (ev_c rfl) (ev_ite (fun h=>?_) (fun h=>?_))
 ·have h':=of_decide_eq_true h
  obtain ⟨n,rfl⟩:=nat_of h'.1
  refine ev_ite (fun h2=>hj (fun hd=>by have:=hd.2.2.1;omega)) (fun h2=>?_)
  rw [l1In_eqD,w64 (by omega) (by omega)]
  refine Ev.bind (ev_c rfl) ?_
  by_cases hr:0≤root∧root≤(ns.length:Int)+1
  ·rw [decide_eq_true hr]
   obtain ⟨b,hb,hbi⟩:=zz109 (n:=n) (ns:=ns) (by omega) (by omega) root hr.1 (by omega) ns.length 0 (by omega) (fun q h=>by omega)
   apply ev_up;simp only [spec_ddGood.j0];refine ev_diagB (ev_n (by decide) hb) ?_
   rw [hbi];unfold diagM;rw [Int.toNat_natCast];exact ⟨fun h=>⟨by omega,by omega,by omega,by omega,by omega,h.1,h.2⟩,fun h=>⟨h.2.2.2.2.2.1,h.2.2.2.2.2.2⟩⟩
  ·rw [decide_eq_false hr]
   exact hj (fun hd=>hr ⟨hd.2.2.2.1,by have:=hd.2.2.2.2.1;omega⟩)
 ·exact hj (fun hd=>h (decide_eq_true ⟨hd.1,hd.2.1⟩))
open Classical in
noncomputable def cmbD (kind a:Int) (ns:List S93) (ra:Int) (b:Int) (ms:List S93) (rb:Int):Int×List S93×Int×Bool:=
 if diagM a ns ra∧diagM b ms rb∧1≤kind∧kind≤4∧a=b then (a,(ndBuild (cmbL kind (ndTab a.toNat ns ra) (ndTab b.toNat ms rb)) a.toNat a.toNat 0 []).1,(ndBuild (cmbL kind (ndTab a.toNat ns ra) (ndTab b.toNat ms rb)) a.toNat a.toNat 0 []).2,true) else (0,[],0,false)
theorem zz112 {n:Nat} {ns:List S93} {root:Int} (hn:n≤4) (h:NdB n ns) (h0:0≤root) (h1:root<2+(ns.length:Int)):tableM (n:Int) (ndTab n ns root)=true:=by
 unfold tableM;rw [Bool.and_eq_true,decide_eq_true_iff,List.all_eq_true];exact ⟨⟨by omega,by omega,by rw [Int.toNat_natCast];exact zz54 _ _ _⟩,fun x hx=>decide_eq_true (zz59 h root h0 h1 x hx)⟩
theorem zz113 (l:List S93) (x:S93):(ndNode l x).1.length≤l.length+1:=by
 unfold ndNode;split
 ·dsimp only;omega
 ·split
  ·dsimp only;omega
  ·simp
theorem zz114 (vs:List Int) (n:Nat):∀ (d idx:Nat) (ns:List S93),(ndBuild vs n d idx ns).1.length+1≤ns.length+2 ^ d:=by
 intro d;induction d with
 | zero =>
  intro idx ns;rw [ndBuild];simp
 | succ d ih =>
  intro idx ns;rw [ndBuild,Nat.pow_succ];have h1:=ih idx ns
  have h2:=ih (idx+2 ^ (n - (d+1))) (ndBuild vs n d idx ns).1
  have h4:=zz113 (ndBuild vs n d (idx+2 ^ (n - (d+1))) (ndBuild vs n d idx ns).1).1 ⟨((n - (d+1):Nat):Int),(ndBuild vs n d idx ns).2,(ndBuild vs n d (idx+2 ^ (n - (d+1))) (ndBuild vs n d idx ns).1).2⟩
  omega
theorem zz115 (vs:List Int) {n:Nat} (hn:n≤4):(ndBuild vs n n 0 []).1.length≤15:=by
 have hl:=zz114 vs n n 0 []
 have hp:=pow4 hn
 simp only [List.length_nil] at hl;omega
theorem zz116 (kind a:Int) (ns:List S93) (ra:Int) (b:Int) (ms:List S93) (rb:Int):(cmbD kind a ns ra b ms rb).2.1.length≤16:=by
 unfold cmbD;split
 ·rename_i h
  have:=zz115 (cmbL kind (ndTab a.toNat ns ra) (ndTab b.toNat ms rb)) (n:=a.toNat) (by have:=h.1.2.1;have:=h.1.1;omega)
  dsimp only;omega
 ·simp
theorem diag_evs {a:Int} {ns:List S93} {root:Int} (c:diagM a ns root):∃ n:Nat,a=n∧n≤4∧NdB n ns∧tableM (n:Int) (ndTab n ns root)=true∧(ndTab n ns root).length=2 ^ n∧Ev (fun k=>spec_ddGood.f k a ns root) true∧Ev (fun k=>impl_IsDiagram.f k a ns root) true∧Ev (fun k=>spec_ddTable.f k a ns root) ((n:Int),ndTab n ns root)∧Ev (fun k=>impl_tableOfDiagram.f k a ns root) ((n:Int),ndTab n ns root):=by
 have b1:=(zz100 a ns root).2 c
 have hl:ns.length≤9223372036854775806:=by have:=c.2.2.1;omega
 have d1:=zz110 a ns root hl
 have d3:=zz108 a ns root hl
 rw [b1] at d1 d3;obtain ⟨a0,a4,al,r0,r1,hb1,_⟩:=c
 obtain ⟨n,rfl⟩:=nat_of a0
 rw [Int.toNat_natCast] at hb1;exact ⟨n,rfl,by omega,hb1,zz112 (by omega) hb1 r0 r1,zz54 n ns root,d1,d3,zz58 hb1 (by omega) (by omega) root r0 r1,zz68 hb1 (by omega) (by omega) root r0 r1⟩
theorem diag_no {a:Int} {ns:List S93} {root:Int} (hl:ns.length≤9223372036854775806) (c:¬ diagM a ns root):Ev (fun k=>spec_ddGood.f k a ns root) false∧Ev (fun k=>impl_IsDiagram.f k a ns root) false:=by
 have b1:diagB a ns root=false:=by rw [Bool.eq_false_iff];exact fun h=>c ((zz100 _ _ _).1 h)
 have d1:=zz110 a ns root hl
 have d3:=zz108 a ns root hl
 rw [b1] at d1 d3;exact ⟨d1,d3⟩
theorem zz119 (kind a:Int) (ns:List S93) (ra:Int) (b:Int) (ms:List S93) (rb:Int) (hl:ns.length≤9223372036854775806) (hm:ms.length≤9223372036854775806) :
  Ev (fun k=>spec_CombineDiagrams.f k kind a ns ra b ms rb) (cmbD kind a ns ra b ms rb)∧Ev (fun k=>impl_CombineDiagrams.f k kind a ns ra b ms rb) (cmbD kind a ns ra b ms rb):=by
 have no:¬ (diagM a ns ra∧diagM b ms rb∧1≤kind∧kind≤4∧a=b)→Ev (fun _:Nat=>some ((0:Int),([]:List S93),(0:Int),false)) (cmbD kind a ns ra b ms rb):=fun h=>by
  unfold cmbD;rw [if_neg h];exact Ev.now _
 unfold spec_CombineDiagrams.f impl_CombineDiagrams.f;by_cases c1:diagM a ns ra
 ·obtain ⟨n,rfl,hn,hb1,m1,l1,d1,d3,t1,t3⟩:=diag_evs c1
  by_cases c2:diagM b ms rb
  ·obtain ⟨m,rfl,hm4,hb2,m2,l2,d2,d4,t2,t4⟩:=diag_evs c2
   have p1:=pow4 hn
   have p2:=pow4 hm4
   have k1:=zz83 kind (n:Int) (ndTab n ns ra) (m:Int) (ndTab m ms rb) (by omega) (by omega)
   have k2:=zz88 kind (n:Int) (ndTab n ns ra) (m:Int) (ndTab m ms rb) (by omega) (by omega)
   refine ⟨Ev.bind d1 (ev_p rfl (Ev.bind d2 (ev_p rfl (Ev.bind t1 (Ev.bind t2 (Ev.bind k1 ?_)))))),Ev.bind d3 (ev_p rfl (Ev.bind d4 (ev_p rfl (Ev.bind t3 (Ev.bind t4 (Ev.bind k2 ?_))))))⟩
   all_goals
    by_cases c:1≤kind∧kind≤4∧(n:Int)=(m:Int)
    ·obtain rfl:n=m:=by omega
     have hvl:(cmbL kind (ndTab n ns ra) (ndTab n ms rb)).length=2 ^ n:=by rw [zz78 _ _ _ (by omega),l1]
     unfold cmbT cmbD;rw [if_pos ⟨c.1,c.2.1,m1,m2,rfl⟩,if_pos ⟨c1,c2,c.1,c.2.1,rfl⟩];simp only [if_true,Int.toNat_natCast];first | exact Ev.bind (zz94 n (by omega) _ hvl) (Ev.now _) | exact Ev.bind (zz95 n (by omega) _ hvl) (Ev.now _)
    ·have e:cmbT kind (n:Int) (ndTab n ns ra) (m:Int) (ndTab m ms rb)=(0,[],false):=by
      unfold cmbT;rw [if_neg (fun h=>c ⟨h.1,h.2.1,h.2.2.2.2⟩)]
     rw [e];exact ev_n (by simp) (no (fun h=>c h.2.2))
  ·obtain ⟨d2,d4⟩:=diag_no hm c2
   exact ⟨Ev.bind d1 (ev_p rfl (Ev.bind d2 (ev_n (by simp) (no (fun h=>c2 h.2.1))))),Ev.bind d3 (ev_p rfl (Ev.bind d4 (ev_n (by simp) (no (fun h=>c2 h.2.1)))))⟩
 ·obtain ⟨d1,d3⟩:=diag_no hl c1
  exact ⟨Ev.bind d1 (ev_n (by simp) (no (fun h=>c1 h.1))),Ev.bind d3 (ev_n (by simp) (no (fun h=>c1 h.1)))⟩
def fixL (i:Nat) (v:Int):List Int→Nat→List Int
 | [],_ => []
 | x :: r,j=>if (((j >>> i) % 2:Nat):Int)=v then x :: fixL i v r (j+1) else fixL i v r (j+1)
def fixC (i:Nat) (v:Int):Nat→Nat→Nat
 | 0,_=>0
 | d+1,j=>(if (((j >>> i) % 2:Nat):Int)=v then 1 else 0)+fixC i v d (j+1)
theorem fixL_len (i:Nat) (v:Int):∀ (l:List Int) (j:Nat),(fixL i v l j).length=fixC i v l.length j:=by
 intro l;induction l with
 | nil=>intro j;rfl
 | cons x r ih =>
  intro j;rw [fixL,List.length_cons,fixC];split
  ·rw [List.length_cons,ih];omega
  ·rw [ih];omega
theorem fixL_sub (i:Nat) (v:Int):∀ (l:List Int) (j:Nat),∀ x∈fixL i v l j,x∈l:=by
 intro l;induction l with
 | nil=>intro j x h;cases h
 | cons y r ih =>
  intro j x h;rw [fixL] at h;split at h
  ·rcases List.mem_cons.1 h with e | e
   ·rw [e];simp
   ·exact List.mem_cons_of_mem _ (ih _ x e)
  ·exact List.mem_cons_of_mem _ (ih _ x h)
theorem zz124:∀ n,n<5→∀ i,i<n→fixC i 0 (2 ^ n) 0=2 ^ (n - 1)∧fixC i 1 (2 ^ n) 0=2 ^ (n - 1):=by decide
theorem zz125 {n i:Nat} (hn:n≤4) (hi:i<n) {v:Int} (hv:0≤v∧v≤1) {l:List Int} (hl:l.length=2 ^ n):(fixL i v l 0).length=2 ^ (n - 1):=by
 rw [fixL_len,hl];obtain rfl | rfl:v=0∨v=1:=by omega
 ·exact (zz124 n (by omega) i hi).1
 ·exact (zz124 n (by omega) i hi).2
theorem zz126 (i:Nat) (hi:i≤4) (v n1:Int) (l:List Int) (hl:l.length≤1000) (r:List Int):∀ (p o:List Int) (x:Int),x=p.length→l=p++r→o.length≤p.length →
  Ev (fun k=>impl_FixInput.l0 k i v l l.length x n1 o) (n1,o++fixL i v r p.length,true):=by
 induction r with
 | nil =>
  intro p o x hx e ho;have hlen:l.length=p.length:=by rw [e];simp
  apply ev_up;simp only [impl_FixInput.l0];exact ev_n (by omega) (ev_eq (Ev.now _) (by simp [fixL]))
 | cons y r ih =>
  intro p o x hx e ho;subst hx;have hlen:l.length=p.length+r.length+1:=by rw [e];simp;omega
  have hy:rd l ((p.length:Nat):Int)=y:=by rw [e];exact rdA rfl
  apply ev_up;simp only [impl_FixInput.l0];refine ev_p (by omega) (ev_p (by omega) (ev_p (by omega) (ev_p (by omega) ?_)))
  rw [hy,bit_and1 p.length i (by omega) (by omega),w64 (n:=((p.length:Nat):Int)+1) (by omega) (by omega),fixL]
  have hn:((p.length:Nat):Int)+1=(((p ++ [y]).length:Nat):Int):=by simp
  refine ev_ite (fun c=>?_) (fun c=>?_)
  ·rw [if_pos c]
   have:=ih (p ++ [y]) (o ++ [y]) _ hn (by rw [e];simp) (by simp;omega)
   simp only [List.append_assoc,List.singleton_append,List.length_append,List.length_singleton] at this;exact ev_p (by omega) this
  ·rw [if_neg c]
   have:=ih (p ++ [y]) o _ hn (by rw [e];simp) (by simp;omega)
   simp only [List.length_append,List.length_singleton] at this;exact this
theorem zz127 (i:Nat) (hi:i≤4) (v n1:Int) (l:List Int) (hl:l.length≤1000) (r:List Int):∀ (p o:List Int) (x:Int),x=p.length→l=p++r→o.length≤p.length →
  Ev (fun k=>spec_FixInput.l0 k i v l l.length x n1 o) (n1,o++fixL i v r p.length,true):=by
 induction r with
 | nil =>
  intro p o x hx e ho;have hlen:l.length=p.length:=by rw [e];simp
  apply ev_up;simp only [spec_FixInput.l0];exact ev_n (by omega) (ev_eq (Ev.now _) (by simp [fixL]))
 | cons y r ih =>
  intro p o x hx e ho;subst hx;have hlen:l.length=p.length+r.length+1:=by rw [e];simp;omega
  have hy:rd l ((p.length:Nat):Int)=y:=by rw [e];exact rdA rfl
  apply ev_up;simp only [spec_FixInput.l0];refine ev_p (by omega) (ev_p (by omega) (ev_p (by omega) ?_))
  rw [hy,w64 (n:=((p.length:Nat):Int)+1) (by omega) (by omega),fixL]
  have hn:((p.length:Nat):Int)+1=(((p ++ [y]).length:Nat):Int):=by simp
  refine Ev.bind (ev_c (zz9 p.length i (by omega) (by omega))) (ev_ite (fun c=>?_) (fun c=>?_))
  ·rw [if_pos c]
   have:=ih (p ++ [y]) (o ++ [y]) _ hn (by rw [e];simp) (by simp;omega)
   simp only [List.append_assoc,List.singleton_append,List.length_append,List.length_singleton] at this;exact ev_p (by omega) this
  ·rw [if_neg c]
   have:=ih (p ++ [y]) o _ hn (by rw [e];simp) (by simp;omega)
   simp only [List.length_append,List.length_singleton] at this;exact this
def fixT (a:Int) (l:List Int) (i v:Int):Int×List Int×Bool:=if tableM a l=true∧0≤i∧i<a∧0≤v∧v≤1 then (a - 1,fixL i.toNat v l 0,true) else (0,[],false)
theorem fixT_evs (a:Int) (l:List Int) (hl:l.length≤9223372036854775807) (i v:Int):Ev (fun k=>impl_FixInput.f k a l i v) (fixT a l i v)∧Ev (fun k=>spec_FixInput.f k a l i v) (fixT a l i v):=by
 have hj1:¬ (tableM a l=true∧0≤i∧i<a∧0≤v∧v≤1)→Ev (fun k=>impl_FixInput.j0 k i v true a l) (fixT a l i v):=fun h=>by
  unfold fixT;rw [if_neg h];apply ev_up;simp only [impl_FixInput.j0];exact ev_p (by simp) (Ev.now _)
 have hj2:¬ (tableM a l=true∧0≤i∧i<a∧0≤v∧v≤1)→Ev (fun k=>spec_FixInput.j0 k i v true a l) (fixT a l i v):=fun h=>by
  unfold fixT;rw [if_neg h];apply ev_up;simp only [spec_FixInput.j0];exact ev_p (by simp) (Ev.now _)
 unfold impl_FixInput.f spec_FixInput.f spec_ttHas.f;by_cases ht:tableM a l=true
 ·have e1:=zz86 a l hl
  have e2:=zz75 a l hl
  rw [ht] at e1 e2;obtain ⟨n,rfl,hn,h1,h2,h3⟩:=zz74 ht
  have hin:∀ q,spec_l1In.f i 0 (wrap64 ((n:Int) - 1))=some q→q=decide (0≤i∧i<(n:Int)):=fun q hq=>by
   rw [l1In_eqD,w64 (by omega) (by omega)] at hq
   injection hq with hq
   rw [← hq];exact decide_eq_decide.2 (by omega)
  constructor
  ·refine Ev.bind e1 (ev_p rfl (ev_ite (fun c=>hj1 (fun h=>by omega)) (fun c=>ev_ite (fun c2=>hj1 (fun h=>by omega)) (fun c2=>ev_ite (fun c3=>hj1 (fun h=>by omega)) (fun c3=>?_)))))
   by_cases c4:v>1
   ·rw [decide_eq_true c4]
    exact hj1 (fun h=>by omega)
   ·rw [decide_eq_false c4]
    obtain ⟨m,rfl⟩:=nat_of (show 0≤i by omega)
    unfold fixT;rw [if_pos ⟨ht,by omega,by omega,by omega,by omega⟩]
    apply ev_up;simp only [impl_FixInput.j0];rw [w64 (n:=(n:Int) - 1) (by omega) (by omega)]
    refine ev_n (by simp) ?_
    have:=zz126 m (by omega) v ((n:Int) - 1) l (by omega) l [] [] 0 rfl rfl (Nat.le_refl _)
    simpa using this
  ·refine Ev.bind (Ev.bind e2 (ev_p rfl (Ev.bind (ev_c (by rw [l1In_eqD])) (Ev.now _)))) ?_
   rw [w64 (by omega) (by omega)]
   by_cases c:0≤i∧i≤(n:Int) - 1
   ·refine ev_p (decide_eq_true c) (Ev.bind (ev_c (by rw [l1In_eqD])) ?_)
    by_cases c2:0≤v∧v≤1
    ·rw [decide_eq_true c2]
     obtain ⟨m,rfl⟩:=nat_of c.1
     unfold fixT;rw [if_pos ⟨ht,by omega,by omega,by omega,by omega⟩]
     apply ev_up;simp only [spec_FixInput.j0];rw [w64 (n:=(n:Int) - 1) (by omega) (by omega)]
     refine ev_n (by simp) ?_
     have:=zz127 m (by omega) v ((n:Int) - 1) l (by omega) l [] [] 0 rfl rfl (Nat.le_refl _)
     simpa using this
    ·rw [decide_eq_false c2]
     exact hj2 (fun h=>c2 ⟨h.2.2.2.1,h.2.2.2.2⟩)
   ·exact ev_n (by simp only [decide_eq_true_eq];exact c) (hj2 (fun h=>c ⟨h.2.1,by omega⟩))
 ·have e1:=zz86 a l hl
  have e2:=zz75 a l hl
  rw [Bool.eq_false_iff.2 ht] at e1 e2;exact ⟨Ev.bind e1 (ev_n (by simp) (hj1 (fun h=>ht h.1))),Ev.bind (Ev.bind e2 (ev_n (by simp) (Ev.now _))) (ev_n (by simp) (hj2 (fun h=>ht h.1)))⟩
open Classical in
noncomputable def fixD (a:Int) (ns:List S93) (root i v:Int):Int×List S93×Int×Bool:=
 if diagM a ns root∧0≤i∧i<a∧0≤v∧v≤1 then (a - 1,(ndBuild (fixL i.toNat v (ndTab a.toNat ns root) 0) (a.toNat - 1) (a.toNat - 1) 0 []).1,(ndBuild (fixL i.toNat v (ndTab a.toNat ns root) 0) (a.toNat - 1) (a.toNat - 1) 0 []).2,true) else (0,[],0,false)
theorem fixD_evs (a:Int) (ns:List S93) (root i v:Int) (hl:ns.length≤9223372036854775806):Ev (fun k=>impl_FixDiagram.f k a ns root i v) (fixD a ns root i v)∧Ev (fun k=>spec_FixDiagram.f k a ns root i v) (fixD a ns root i v):=by
 have no:¬ (diagM a ns root∧0≤i∧i<a∧0≤v∧v≤1)→Ev (fun _:Nat=>some ((0:Int),([]:List S93),(0:Int),false)) (fixD a ns root i v):=fun h=>by
  unfold fixD;rw [if_neg h];exact Ev.now _
 unfold impl_FixDiagram.f spec_FixDiagram.f;by_cases c1:diagM a ns root
 ·obtain ⟨n,rfl,hn,hb1,m1,l1,d1,d3,t1,t3⟩:=diag_evs c1
  have p1:=pow4 hn
  obtain ⟨k1,k2⟩:=fixT_evs (n:Int) (ndTab n ns root) (by omega) i v
  refine ⟨Ev.bind d3 (ev_p rfl (Ev.bind t3 (Ev.bind k1 ?_))),Ev.bind d1 (ev_p rfl (Ev.bind t1 (Ev.bind k2 ?_)))⟩
  all_goals
   by_cases c:0≤i∧i<(n:Int)∧0≤v∧v≤1
   ·obtain ⟨m,rfl⟩:=nat_of c.1
    have hvl:=zz125 hn (show m<n by omega) c.2.2 l1
    unfold fixT fixD;rw [if_pos ⟨m1,c⟩,if_pos ⟨c1,c⟩];simp only [if_true,Int.toNat_natCast];rw [show (n:Int) - 1=((n - 1:Nat):Int) by omega]
    first | exact Ev.bind (zz94 (n - 1) (by omega) _ hvl) (Ev.now _) | exact Ev.bind (zz95 (n - 1) (by omega) _ hvl) (Ev.now _)
   ·have e:fixT (n:Int) (ndTab n ns root) i v=(0,[],false):=by
     unfold fixT;rw [if_neg (fun h=>c h.2)]
    rw [e];exact ev_n (by simp) (no (fun h=>c h.2))
 ·obtain ⟨d1,d3⟩:=diag_no hl c1
  exact ⟨Ev.bind d3 (ev_n (by simp) (no (fun h=>c1 h.1))),Ev.bind d1 (ev_n (by simp) (no (fun h=>c1 h.1)))⟩
theorem zz132 {n:Nat} (hn:n≤4) {vs:List Int} (hv:vs.length=2 ^ n) (hb:∀ x∈vs,0≤x∧x≤1):diagM (n:Int) (ndBuild vs n n 0 []).1 (ndBuild vs n n 0 []).2∧ndTab n (ndBuild vs n n 0 []).1 (ndBuild vs n n 0 []).2=vs:=by
 have hm:=zz48 (n:=n) vs (rd_bits hb) n 0 [] (Nat.le_refl _) (by simp) (NdOk.nil n)
 have h15:=zz115 vs hn
 have ht:ndTab n (ndBuild vs n n 0 []).1 (ndBuild vs n n 0 []).2=vs:=by
  apply List.ext_getElem
  ·rw [zz54,hv]
  ·intro j h1 h2
   have hj:j<2 ^ n:=by rw [zz54] at h1;exact h1
   have e1:=hm.val _ _ (List.prefix_refl _) hm.ok (Nat.le_refl _) j hj
   rw [Nat.sub_self,Nat.pow_zero,Nat.one_mul,Nat.zero_add] at e1;have e2:=ndTab_rd (ns:=(ndBuild vs n n 0 []).1) (root:=(ndBuild vs n n 0 []).2) hj
   rw [rdN (by rw [zz54];exact hj)] at e2
   rw [e2,e1,rdN h2]
 refine ⟨⟨by omega,by omega,by omega,hm.r0,hm.r1,by rw [Int.toNat_natCast];exact hm.ok.b,?_⟩,ht⟩
 rw [Int.toNat_natCast,ht]
theorem zz133 (m:Nat) (hm:m≤7) (o:List Int) (ho:o.length≤1048576) (r:List Int):∀ (p:List Int) (i:Int),i=p.length→o=p++r →
  Ev (fun k=>spec_ddOrder.l0 k o m o o.length i) (okO m p r && decide (o.length=m)):=by
 induction r with
 | nil =>
  intro p i hi e;have hlen:o.length=p.length:=by rw [e];simp
  apply ev_up;simp only [spec_ddOrder.l0];refine ev_n (by omega) (ev_eq (Ev.now _) ?_)
  rw [okO,Bool.true_and,Bool.eq_iff_iff,beq_iff_eq,decide_eq_true_eq];omega
 | cons x r ih =>
  intro p i hi e;have hlen:o.length=p.length+r.length+1:=by rw [e];simp;omega
  have hx:rd o i=x:=by rw [e];exact rdA hi
  have ht:o.take (i:Int).toNat=p:=by rw [e,hi,Int.toNat_natCast];simp
  apply ev_up;simp only [spec_ddOrder.l0];refine ev_p (by omega) (ev_p (by omega) (ev_p (by omega) ?_))
  rw [hx,l1In_eq,w64 (n:=i+1) (by omega) (by omega),w64 (n:=(m:Int) - 1) (by omega) (by omega),ht,okO]
  refine Ev.bind (ev_c rfl) (ev_ite (fun c=>ev_p (by omega) (Ev.bind (zz18 x p (by omega)) (ev_ite (fun c2=>?_) (fun c2=>?_)))) (fun c=>?_))
  ·have c2':=of_decide_eq_true c2
   rw [decide_eq_false (fun h=>h.2.2 c2'),Bool.false_and,Bool.false_and]
   exact Ev.now _
  ·have c':=of_decide_eq_true c
   have c2':¬ x∈p:=fun h=>c2 (decide_eq_true h)
   rw [decide_eq_true (show 0≤x∧x<m∧¬ x∈p from ⟨by omega,by omega,c2'⟩),Bool.true_and]
   exact ih (p ++ [x]) (i+1) (by simp;omega) (by rw [e];simp)
  ·have c':¬ (0≤x∧x≤(m:Int) - 1):=fun h=>c (decide_eq_true h)
   rw [decide_eq_false (fun h=>c' ⟨h.1,by omega⟩),Bool.false_and,Bool.false_and]
   exact Ev.now _
theorem zz134 (m:Nat) (hm:m≤7) (o:List Int) (ho:o.length≤1048576):Ev (fun k=>spec_ddOrder.f k o m) (okO m [] o && decide (o.length=m)):=by
 unfold spec_ddOrder.f;exact zz133 m hm o ho o [] 0 rfl rfl
theorem zz135 (m:Nat) (hm:m≤7) (o:List Int) (ho:o.length≤1048576) (r:List Int):∀ (p:List Int) (i:Int),i=p.length→o=p++r →
  Ev (fun k=>impl_isOrder.l0 k m (rmap m (fun j=>decide ((j:Int)∈p))) o o.length i) (okO m p r):=by
 induction r with
 | nil =>
  intro p i hi e;have hlen:o.length=p.length:=by rw [e];simp
  apply ev_up;simp only [impl_isOrder.l0];exact ev_n (by omega) (Ev.now _)
 | cons x r ih =>
  intro p i hi e;have hlen:o.length=p.length+r.length+1:=by rw [e];simp;omega
  have hx:rd o i=x:=by rw [e];exact rdA hi
  have no:¬ (0≤x∧x<m∧¬ x∈p)→Ev (fun _=>some false) (okO m p (x :: r)):=fun h=>by
   rw [okO,decide_eq_false h,Bool.false_and];exact Ev.now _
  apply ev_up;simp only [impl_isOrder.l0];refine ev_p (by omega) (ev_p (by omega) (ev_p (by omega) ?_))
  rw [hx,w64 (n:=i+1) (by omega) (by omega)]
  refine ev_ite (fun c=>no (fun h=>by omega)) (fun c=>ev_ite (fun c2=>no (fun h=>by omega)) (fun c2=>?_))
  obtain ⟨y,rfl⟩:=nat_of (show 0≤x by omega)
  have hy:y<m:=by omega
  have hr:rdOf false (rmap m (fun j=>decide ((j:Int)∈p))) (y:Int)=decide ((y:Int)∈p):=rmap_get hy _
  rw [hr,Int.toNat_natCast,rmap_set hy];refine ev_p (by omega) (ev_p (by rw [rmap_length];omega) (ev_ite (fun c3=>no (fun h=>h.2.2 (of_decide_eq_true c3))) (fun c3=>?_)))
  have c3':¬ (y:Int)∈p:=fun h=>c3 (decide_eq_true h)
  rw [okO,decide_eq_true (show 0≤(y:Int)∧(y:Int)<m∧¬ (y:Int)∈p from ⟨by omega,by omega,c3'⟩),Bool.true_and]
  have e2:rmap m (fun j=>if j=y then true else decide ((j:Int)∈p))=rmap m (fun j=>decide ((j:Int)∈p ++ [(y:Int)])):=by
   apply rmap_congr
   intro j _;by_cases c4:j=y
   ·rw [if_pos c4,decide_eq_true (by rw [c4];simp)]
   ·rw [if_neg c4]
    refine decide_eq_decide.2 ?_
    rw [List.mem_append,List.mem_singleton];exact ⟨Or.inl,fun h=>h.elim id (fun h2=>absurd (by omega) c4)⟩
  rw [e2];exact ih (p ++ [(y:Int)]) (i+1) (by simp;omega) (by rw [e];simp)
theorem zz136 (m:Nat) (hm:m≤7) (o:List Int) (ho:o.length≤1048576):Ev (fun k=>impl_isOrder.f k o m) (okO m [] o && decide (o.length=m)):=by
 unfold impl_isOrder.f;refine ev_ite (fun c=>?_) (fun c=>?_)
 ·rw [decide_eq_true (show o.length=m by omega),Bool.and_true,Int.toNat_natCast,rmap_const]
  have:=zz135 m hm o ho o [] 0 rfl rfl
  have e:rmap m (fun j=>decide ((j:Int)∈([]:List Int)))=rmap m (fun _=>false):=rmap_congr (fun j _=>by simp)
  rw [e] at this;exact ev_p (by omega) (ev_p (by omega) this)
 ·rw [decide_eq_false (show ¬ o.length=m by omega),Bool.and_false]
  exact Ev.now _
def acN:List Int→Nat→Nat→Nat
 | [],_,_=>0
 | b :: r,x,i=>((x >>> i) % 2) * 2 ^ b.toNat+acN r x (i+1)
def acO:List Int→Nat→Nat→Nat→Nat
 | [],_,_,a=>a
 | b :: r,x,i,a=>acO r x (i+1) (a ||| (((x >>> i) % 2) * 2 ^ b.toNat))
theorem pm_facts:∀ n,n<5→∀ o∈Sep.pm n n [],(o.length=n∧∀ b∈o,0≤b∧b<(n:Int))∧∀ x,x<2 ^ n→acO o x 0 0=acN o x 0∧acN o x 0<2 ^ n:=by decide +kernel
theorem pm_iota:∀ n,n<5→Sep.iota n∈Sep.pm n n []∧∀ x,x<2 ^ n→acN (Sep.iota n) x 0=x:=by decide +kernel
theorem ac_term (x i:Nat) {b:Int} (hb:0≤b∧b<4):((x >>> i) % 2) * 2 ^ b.toNat≤8:=by
 have h1:(x >>> i) % 2≤1:=by omega
 have h2:2 ^ b.toNat≤2 ^ 3:=Nat.pow_le_pow_right (by decide) (by omega)
 have:=Nat.mul_le_mul h1 h2
 omega
def reT (n:Nat) (vs o:List Int):List Int:=rmap (2 ^ n) (fun x=>rd vs ((acN o x 0:Nat):Int))
theorem zz143 (n:Nat) (vs o:List Int):(reT n vs o).length=2 ^ n:=rmap_length _ _
theorem zz144 (x:Nat) (hx:x<16) (o:List Int) (ho:o.length≤4) (hb:∀ b∈o,0≤b∧b<4) (len N M:Int) (vs out:List Int) (hout:out.length≤1000) (R:Int×List Int) (r:List Int):∀ (p:List Int) (acc:Nat),o=p++r→acc+8 * r.length≤1000→acc+acN r x p.length<vs.length →
  Ev (fun k=>spec_ddReorder.l0 k o len ((x:Int)+1) N vs M (out ++ [rd vs ((acc+acN r x p.length:Nat):Int)])) R→Ev (fun k=>spec_ddReorder.l1 k o x acc len x o (o.length:Int) ((p.length:Nat):Int) N vs M out) R:=by
 induction r with
 | nil =>
  intro p acc e h1 h2 h;have hlen:o.length=p.length:=by rw [e];simp
  rw [acN,Nat.add_zero] at h h2;apply ev_up;simp only [spec_ddReorder.l1];refine ev_n (by omega) (ev_p (by omega) (ev_p (by omega) (ev_p (by omega) ?_)))
  rw [w64 (n:=(x:Int)+1) (by omega) (by omega)]
  exact h
 | cons b r ih =>
  intro p acc e h1 h2 h;have hlen:o.length=p.length+r.length+1:=by rw [e];simp;omega
  have hy:rd o ((p.length:Nat):Int)=b:=by rw [e];exact rdA rfl
  have hbb:=hb b (by rw [e];simp)
  have ht:=ac_term x p.length hbb
  rw [List.length_cons] at h1;rw [acN] at h h2;obtain ⟨c,rfl⟩:=nat_of hbb.1
  rw [Int.toNat_natCast] at ht h h2;apply ev_up;simp only [spec_ddReorder.l1];refine ev_p (by omega) (ev_p (by omega) (ev_p (by omega) (Ev.bind (ev_c (zz9 x p.length (by omega) (by omega))) ?_)))
  rw [hy,u64w (n:=(c:Int)) (by omega) (by omega)]
  refine ev_p (by omega) ?_
  rw [shlN _ c (by omega) (by omega),w64 (n:=((p.length:Nat):Int)+1) (by omega) (by omega),w64 (n:=(acc:Int)+_) (by omega) (by omega)]
  have:=ih (p ++ [(c:Int)]) (acc+(x >>> p.length) % 2 * 2 ^ c) (by rw [e];simp) (by omega) (by rw [List.length_append,List.length_singleton];omega) (by rw [List.length_append,List.length_singleton,Nat.add_assoc];exact h)
  rw [List.length_append,List.length_singleton] at this;exact_mod_cast this
theorem zz145 {n:Nat} (hn:n≤4) {o:List Int} (ho:o∈Sep.pm n n []) {vs:List Int} (hv:vs.length=2 ^ n):∀ (d x:Nat),x+d=2 ^ n →
  Ev (fun k=>spec_ddReorder.l0 k o ((2 ^ n:Nat):Int) x n vs n (rmap x (fun y=>rd vs ((acN o y 0:Nat):Int)))) ((n:Int),reT n vs o):=by
 have hp:=pow4 hn
 obtain ⟨⟨f1,f2⟩,f3⟩:=pm_facts n (by omega) o ho
 intro d;induction d with
 | zero =>
  intro x hx;apply ev_up;simp only [spec_ddReorder.l0];refine ev_n (by omega) (ev_eq (Ev.now _) ?_)
  rw [show x=2 ^ n by omega]
  rfl
 | succ d ih =>
  intro x hx;apply ev_up;simp only [spec_ddReorder.l0];refine ev_p (by omega) ?_
  have h3:=(f3 x (by omega)).2
  refine zz144 x (by omega) o (by omega) (fun b hb=>by have:=f2 b hb;omega) _ _ _ vs _ (by rw [rmap_length];omega) _ o [] 0 rfl (by omega) (by rw [Nat.zero_add];show acN o x 0<_;omega) ?_
  have:=ih (x+1) (by omega)
  rw [rmap_succ] at this;simpa using this
theorem zz146 (x:Nat) (hx:x<16) (o:List Int) (ho:o.length≤4) (hb:∀ b∈o,0≤b∧b<4) (len N M:Int) (vs out:List Int) (hxo:x<out.length) (R:Int×List Int) (r:List Int):∀ (p:List Int) (acc:Nat),o=p++r→acc<16→acO r x p.length acc<vs.length →
  Ev (fun k=>impl_reordered.l0 k o len ((x:Int)+1) N vs M (out.set x (rd vs ((acO r x p.length acc:Nat):Int)))) R→Ev (fun k=>impl_reordered.l1 k o x acc len x o (o.length:Int) ((p.length:Nat):Int) N vs M out) R:=by
 induction r with
 | nil =>
  intro p acc e h1 h2 h;have hlen:o.length=p.length:=by rw [e];simp
  rw [acO] at h h2;apply ev_up;simp only [impl_reordered.l1];refine ev_n (by omega) (ev_p (by omega) (ev_p (by omega) (ev_p (by omega) (ev_p (by omega) ?_))))
  rw [w64 (n:=(x:Int)+1) (by omega) (by omega),Int.toNat_natCast]
  exact h
 | cons b r ih =>
  intro p acc e h1 h2 h;have hlen:o.length=p.length+r.length+1:=by rw [e];simp;omega
  have hy:rd o ((p.length:Nat):Int)=b:=by rw [e];exact rdA rfl
  have hbb:=hb b (by rw [e];simp)
  have ht:=ac_term x p.length hbb
  rw [acO] at h h2;obtain ⟨c,rfl⟩:=nat_of hbb.1
  rw [Int.toNat_natCast] at ht h h2;have hor:acc ||| ((x >>> p.length) % 2 * 2 ^ c)<16:=Nat.or_lt_two_pow (n:=4) h1 (by omega)
  apply ev_up;simp only [impl_reordered.l1];refine ev_p (by omega) (ev_p (by omega) (ev_p (by omega) ?_))
  rw [hy];refine ev_p (by omega) ?_
  rw [bit_and1 x p.length (by omega) (by omega),shlN _ c (by omega) (by omega),orN _ _ (by omega) (by omega),w64 (n:=((p.length:Nat):Int)+1) (by omega) (by omega)]
  have:=ih (p ++ [(c:Int)]) (acc ||| ((x >>> p.length) % 2 * 2 ^ c)) (by rw [e];simp) hor (by rw [List.length_append,List.length_singleton];exact h2) (by rw [List.length_append,List.length_singleton];exact h)
  rw [List.length_append,List.length_singleton] at this;exact_mod_cast this
theorem zz147 {n:Nat} (hn:n≤4) {o:List Int} (ho:o∈Sep.pm n n []) {vs:List Int} (hv:vs.length=2 ^ n):∀ (d x:Nat),x+d=2 ^ n →
  Ev (fun k=>impl_reordered.l0 k o ((2 ^ n:Nat):Int) x n vs n (rmap (2 ^ n) (fun j=>if j<x then rd vs ((acN o j 0:Nat):Int) else 0))) ((n:Int),reT n vs o):=by
 have hp:=pow4 hn
 obtain ⟨⟨f1,f2⟩,f3⟩:=pm_facts n (by omega) o ho
 intro d;induction d with
 | zero =>
  intro x hx;apply ev_up;simp only [impl_reordered.l0];refine ev_n (by omega) (ev_eq (Ev.now _) ?_)
  unfold reT;rw [rmap_congr (fun j hj=>by rw [if_pos (by omega)])]
 | succ d ih =>
  intro x hx;apply ev_up;simp only [impl_reordered.l0];refine ev_p (by omega) ?_
  obtain ⟨h2,h3⟩:=f3 x (by omega)
  refine zz146 x (by omega) o (by omega) (fun b hb=>by have:=f2 b hb;omega) _ _ _ vs _ (by rw [rmap_length];omega) _ o [] 0 rfl (by omega) (by show acO o x 0 0<_;omega) ?_
  have:=ih (x+1) (by omega)
  rw [List.length_nil,h2,rmap_set (by omega)]
  have e:rmap (2 ^ n) (fun j=>if j=x then rd vs ((acN o x 0:Nat):Int) else if j<x then rd vs ((acN o j 0:Nat):Int) else 0)=rmap (2 ^ n) (fun j=>if j<x+1 then rd vs ((acN o j 0:Nat):Int) else 0):=rmap_congr (fun j _=>by
   by_cases e:j=x
   ·subst e;rw [if_pos rfl,if_pos (by omega)]
   ·rw [if_neg e]
    by_cases e2:j<x
    ·rw [if_pos e2,if_pos (by omega)]
    ·rw [if_neg e2,if_neg (by omega)])
  rw [e];exact_mod_cast this
theorem reo_evs {n:Nat} (hn:n≤4) {o:List Int} (ho:o∈Sep.pm n n []) {vs:List Int} (hv:vs.length=2 ^ n):Ev (fun k=>impl_reordered.f k n vs o) ((n:Int),reT n vs o)∧Ev (fun k=>spec_ddReorder.f k n vs o) ((n:Int),reT n vs o):=by
 have hp:=pow4 hn
 constructor
 ·unfold impl_reordered.f
  refine ev_p (by omega) (ev_p (by omega) (Ev.bind (ev_c rfl) ?_))
  rw [List.length_replicate,Int.toNat_natCast,hv,rmap_const];have:=zz147 hn ho hv (2 ^ n) 0 (by omega)
  simpa using this
 ·unfold spec_ddReorder.f
  rw [hv];exact zz145 hn ho hv (2 ^ n) 0 (by omega)
def rtM (a:Int) (l o:List Int):Int×List Int×Bool:=if tableM a l=true∧okO a.toNat [] o=true∧o.length=a.toNat then (a,reT a.toNat l o,true) else (0,[],false)
theorem rt_evs (a:Int) (l o:List Int) (hl:l.length≤9223372036854775807) (ho:o.length≤1048576):Ev (fun k=>impl_ReorderTable.f k a l o) (rtM a l o)∧Ev (fun k=>spec_ReorderTable.f k a l o) (rtM a l o):=by
 have e1:=zz86 a l hl
 have e2:=zz75 a l hl
 have no:¬ (tableM a l=true∧okO a.toNat [] o=true∧o.length=a.toNat)→Ev (fun _:Nat=>some ((0:Int),([]:List Int),false)) (rtM a l o):=fun h=>by
  unfold rtM;rw [if_neg h];exact Ev.now _
 unfold impl_ReorderTable.f spec_ReorderTable.f;by_cases ht:tableM a l=true
 ·rw [ht] at e1 e2
  obtain ⟨n,rfl,hn,h1,h2,h3⟩:=zz74 ht
  have e3:=zz136 n (by omega) o ho
  have e4:=zz134 n (by omega) o ho
  by_cases c:okO n [] o=true∧o.length=n
  ·rw [c.1,decide_eq_true c.2] at e3 e4
   have hm:=pm_has n n [] o c.2 c.1
   rw [List.nil_append] at hm;obtain ⟨r1,r2⟩:=reo_evs hn hm h1
   unfold rtM;rw [if_pos ⟨ht,by rw [Int.toNat_natCast];exact c.1,by rw [Int.toNat_natCast];exact c.2⟩,Int.toNat_natCast]
   exact ⟨Ev.bind e1 (ev_p rfl (Ev.bind e3 (ev_p (by simp) (Ev.bind r1 (Ev.now _))))),Ev.bind e2 (ev_p rfl (Ev.bind e4 (ev_p (by simp) (Ev.bind r2 (Ev.now _)))))⟩
  ·have e:(okO n [] o && decide (o.length=n))=false:=by
    rw [Bool.eq_false_iff];intro h;rw [Bool.and_eq_true,decide_eq_true_eq] at h;exact c h
   rw [e] at e3 e4;have no2:=no (fun h=>c (by rw [Int.toNat_natCast] at h;exact h.2))
   exact ⟨Ev.bind e1 (ev_p rfl (Ev.bind e3 (ev_n (by simp) no2))),Ev.bind e2 (ev_p rfl (Ev.bind e4 (ev_n (by simp) no2)))⟩
 ·have e:tableM a l=false:=Bool.eq_false_iff.2 ht
  rw [e] at e1 e2;have no2:=no (fun h=>ht h.1)
  exact ⟨Ev.bind e1 (ev_n (by simp) no2),Ev.bind e2 (ev_n (by simp) no2)⟩
theorem ev_all {α β:Type} (L:List β) (g:Nat→β→Option α) (c:β→α):(∀ o∈L,Ev (fun k=>g k o) (c o))→∃ K,∀ k,K≤k→∀ o∈L,g k o=some (c o):=by
 induction L with
 | nil=>intro _;exact ⟨0,fun _ _ o ho=>by cases ho⟩
 | cons x L ih =>
  intro h;obtain ⟨K1,h1⟩:=ih (fun o ho=>h o (List.mem_cons_of_mem _ ho))
  obtain ⟨K2,h2⟩:=h x List.mem_cons_self
  refine ⟨K1+K2,fun k hk o ho=>?_⟩
  rcases List.mem_cons.1 ho with e | e
  ·rw [e];exact h2 k (by omega)
  ·exact h1 k (by omega) o e
theorem zz152 {c c':List Int→Int} (os:List (List Int)):∀ st,(∀ o∈os,c o=c' o)→os.foldl (impl_BestOrder.pick c) st=os.foldl (impl_BestOrder.pick c') st:=by
 induction os with
 | nil=>intro st _;rfl
 | cons o os ih =>
  intro st h;rw [List.foldl_cons,List.foldl_cons,ih _ (fun y hy=>h y (List.mem_cons_of_mem _ hy))]
  unfold impl_BestOrder.pick;rw [h o List.mem_cons_self]
def bestC (n:Nat) (vs o:List Int):Int:=((ndBuild (reT n vs o) n n 0 []).1.length:Int)
def bestM (n:Nat) (vs:List Int):List Int×Int:=(Sep.pm n n []).foldl (impl_BestOrder.pick (bestC n vs)) ([],-1)
theorem zz155 {n:Nat} (hn:n≤4) {o:List Int} (ho:o∈Sep.pm n n []) {vs:List Int} (hv:vs.length=2 ^ n):Ev (fun k=>impl_BestOrder.cN k n vs o) (bestC n vs o)∧Ev (fun k=>spec_BestOrder.cN k n vs o) (bestC n vs o):=by
 obtain ⟨r1,r2⟩:=reo_evs hn ho hv
 exact ⟨Ev.bind r1 (Ev.bind (zz95 n hn _ (zz143 _ _ _)) (Ev.now _)),Ev.bind r2 (Ev.bind (zz94 n hn _ (zz143 _ _ _)) (Ev.now _))⟩
theorem pick_inv (c:List Int→Int) (hc:∀ o,0≤c o) (os:List (List Int)):∀ (P:List (List Int)) (st:List Int×Int),(st.1∈P∧st.2=c st.1∧∀ o∈P,st.2≤c o) →
  (os.foldl (impl_BestOrder.pick c) st).1∈P++os∧(os.foldl (impl_BestOrder.pick c) st).2=c (os.foldl (impl_BestOrder.pick c) st).1∧∀ o∈P++os,(os.foldl (impl_BestOrder.pick c) st).2≤c o:=by
 induction os with
 | nil=>intro P st h;rw [List.append_nil];exact h
 | cons o os ih =>
  intro P st h;rw [List.foldl_cons];have:=ih (P ++ [o]) (impl_BestOrder.pick c st o) (by
   have h0:=hc st.1
   unfold impl_BestOrder.pick;by_cases d:st.2<0∨c o<st.2
   ·rw [if_pos d]
    refine ⟨by simp,rfl,fun y hy=>?_⟩
    rcases List.mem_append.1 hy with e | e
    ·have:=h.2.2 y e
     show c o≤c y
     have:=h.2.1
     omega
    ·rw [List.mem_singleton.1 e];exact Int.le_refl _
   ·rw [if_neg d]
    refine ⟨List.mem_append.2 (.inl h.1),h.2.1,fun y hy=>?_⟩
    rcases List.mem_append.1 hy with e | e
    ·exact h.2.2 y e
    ·rw [List.mem_singleton.1 e];omega)
  rw [List.append_assoc,List.singleton_append] at this;exact this
theorem zz157 {n:Nat} (hn:n≤4) (vs:List Int):(bestM n vs).1∈Sep.pm n n []∧(bestM n vs).2=bestC n vs (bestM n vs).1∧∀ o∈Sep.pm n n [],(bestM n vs).2≤bestC n vs o:=by
 have hi:=(pm_iota n (by omega)).1
 unfold bestM;cases h:Sep.pm n n [] with
 | nil=>rw [h] at hi;cases hi
 | cons o os =>
  rw [List.foldl_cons];have e:impl_BestOrder.pick (bestC n vs) ([],-1) o=(o,bestC n vs o):=by
   unfold impl_BestOrder.pick;rw [if_pos (Or.inl (by decide))]
  rw [e];exact pick_inv (bestC n vs) (fun o=>Int.natCast_nonneg _) os [o] _ ⟨by simp,rfl,fun y hy=>by rw [List.mem_singleton.1 hy];exact Int.le_refl _⟩
def bestR (a:Int) (l:List Int):List Int×Int×Bool:=if tableM a l=true then ((bestM a.toNat l).1,(bestM a.toNat l).2,true) else ([],0,false)
theorem pm_count:∀ n,n<5→(Sep.pm n n []).length≤24:=by decide +kernel
theorem best_evs (a:Int) (l:List Int) (hl:l.length≤9223372036854775807):Ev (fun k=>impl_BestOrder.f k a l) (bestR a l)∧Ev (fun k=>spec_BestOrder.f k a l) (bestR a l):=by
 have e1:=zz86 a l hl
 have e2:=zz75 a l hl
 unfold impl_BestOrder.f spec_BestOrder.f bestR;by_cases ht:tableM a l=true
 ·rw [if_pos ht]
  rw [ht] at e1 e2;obtain ⟨n,rfl,hn,h1,h2,h3⟩:=zz74 ht
  have hp:=pm_count n (by omega)
  rw [Int.toNat_natCast];obtain ⟨K1,k1⟩:=ev_all (Sep.pm n n []) (fun k o=>impl_BestOrder.cN k n l o) (bestC n l) (fun o ho=>(zz155 hn ho h1).1)
  obtain ⟨K2,k2⟩:=ev_all (Sep.pm n n []) (fun k o=>spec_BestOrder.cN k n l o) (bestC n l) (fun o ho=>(zz155 hn ho h1).2)
  refine ⟨Ev.bind e1 (ev_p rfl ⟨K1+100,fun k hk=>?_⟩),Ev.bind e2 (ev_p rfl ⟨K2+100,fun k hk=>?_⟩)⟩
  ·dsimp only
   rw [if_pos ⟨by omega,by omega,by omega,by omega,fun o ho=>by rw [k1 k (by omega) o ho];rfl⟩]
   have e:impl_BestOrder.at (impl_BestOrder.cost k n l) (Sep.pm n n []) (Sep.pm n n []).length=bestM n l:=by
    unfold impl_BestOrder.at bestM;rw [List.take_length];exact zz152 _ _ (fun o ho=>by unfold impl_BestOrder.cost;rw [k1 k (by omega) o ho];rfl)
   rw [e]
  ·dsimp only
   rw [if_pos ⟨by omega,by omega,by omega,by omega,fun o ho=>by rw [k2 k (by omega) o ho];rfl⟩]
   have e:spec_BestOrder.at (spec_BestOrder.cost k n l) (Sep.pm n n []) (Sep.pm n n []).length=bestM n l:=by
    unfold spec_BestOrder.at bestM;rw [List.take_length];exact zz152 _ _ (fun o ho=>by unfold spec_BestOrder.cost;rw [k2 k (by omega) o ho];rfl)
   rw [e]
 ·rw [if_neg ht]
  have e:tableM a l=false:=Bool.eq_false_iff.2 ht
  rw [e] at e1 e2;exact ⟨Ev.bind e1 (ev_n (by simp) (Ev.now _)),Ev.bind e2 (ev_n (by simp) (Ev.now _))⟩
theorem reT_bits {n:Nat} {vs:List Int} (h:∀ x∈vs,0≤x∧x≤1) (o:List Int):∀ x∈reT n vs o,0≤x∧x≤1:=by
 intro x hx;unfold reT rmap at hx;obtain ⟨j,_,rfl⟩:=List.mem_map.1 hx
 exact rd_bits h _
theorem zz162 {n:Nat} (hn:n≤4) {vs:List Int} (h:∀ x∈vs,0≤x∧x≤1) (o:List Int):tableM (n:Int) (reT n vs o)=true:=by
 unfold tableM;rw [Bool.and_eq_true,decide_eq_true_eq,List.all_eq_true];exact ⟨⟨by omega,by omega,by rw [zz143,Int.toNat_natCast]⟩,fun x hx=>by unfold inB;exact decide_eq_true (reT_bits h o x hx)⟩
theorem reT_iota {n:Nat} (hn:n≤4) {vs:List Int} (hv:vs.length=2 ^ n):reT n vs (Sep.iota n)=vs:=by
 apply List.ext_getElem
 ·rw [zz143,hv]
 ·intro j h1 h2
  have hj:j<2 ^ n:=by rw [zz143] at h1;exact h1
  have e:rd (reT n vs (Sep.iota n)) (j:Int)=rd vs ((acN (Sep.iota n) j 0:Nat):Int):=rmap_get hj 0
  rw [(pm_iota n (by omega)).2 j hj,rdN h1,rdN h2] at e
  exact e
theorem zz164 {a:Int} {ns:List S93} {root:Int} (c:diagM a ns root):Ev (fun k=>impl_TableOf.f k a ns root) (a,ndTab a.toNat ns root,true):=by
 obtain ⟨n,rfl,hn,hb1,m1,l1,d1,d3,t1,t3⟩:=diag_evs c
 unfold impl_TableOf.f;rw [Int.toNat_natCast];exact Ev.bind d3 (ev_p rfl (Ev.bind t3 (Ev.now _)))
theorem zz165 {n:Nat} {vs:List Int} (h:tableM (n:Int) vs=true):Ev (fun k=>impl_DiagramOf.f k n vs) ((n:Int),(ndBuild vs n n 0 []).1,(ndBuild vs n n 0 []).2,true):=by
 obtain ⟨n',e,hn,h1,h2,h3⟩:=zz74 h
 obtain rfl:n=n':=by omega
 have e1:=zz86 (n:Int) vs (by omega)
 rw [h] at e1;unfold impl_DiagramOf.f;exact Ev.bind e1 (ev_p rfl (Ev.bind (zz95 n hn vs h1) (Ev.now _)))
theorem zz166 (a root b root2:Int) (ns:List S93) (hl:ns.length≤1000):∀ (d i:Nat),i+d=ns.length→Ev (fun k=>laws_pSameDiagram.l0 k (ns.length:Int) i a ns root b ns root2) true:=by
 intro d;induction d with
 | zero =>
  intro i hi;apply ev_up;simp only [laws_pSameDiagram.l0];exact ev_n (by omega) (Ev.now _)
 | succ d ih =>
  intro i hi;apply ev_up;simp only [laws_pSameDiagram.l0];refine ev_p (by omega) (ev_p (by omega) (ev_p (by omega) (ev_p (by omega) (ev_n (by simp) ?_))))
  rw [w64 (n:=(i:Int)+1) (by omega) (by omega)]
  exact_mod_cast ih (i+1) (by omega)
theorem pSameD (a root:Int) (ns:List S93) (hl:ns.length≤1000):Ev (fun k=>laws_pSameDiagram.f k a ns root a ns root) true:=by
 unfold laws_pSameDiagram.f;refine ev_p rfl (ev_p rfl ?_)
 apply ev_up;simp only [laws_pSameDiagram.j0];exact ev_n (by simp) (zz166 a root a root ns hl ns.length 0 (by omega))
theorem dgN_ok {code:List Int} (hc:bytesOk code) (inp:Int) (l:List S93) (hl:l.length≤900) (a m:Int) (h0:0≤a) (h1:a≤800000000):∃ l' a' m',dgN code inp (l.length:Int) l a m=some (l',a',m')∧(a≤a'∧a'≤a+10)∧l'.length≤l.length+1:=by
 unfold dgN;by_cases c:(0:Int)<(l.length:Int)
 ·rw [if_pos c]
  obtain ⟨q,a1,m1,e1,ha1,hq0,hq1⟩:=pick_ok hc a m (l.length:Int) h0 (by omega)
  rw [e1,Option.bind_some];dsimp only;rw [if_pos ⟨hq0,by omega⟩]
  obtain ⟨s,a2,m2,e2,ha2,_⟩:=pick_ok hc a1 m1 24 (by omega) (by omega)
  rw [e2,Option.bind_some];dsimp only;by_cases s0:s=0
  ·rw [if_pos s0]
   obtain ⟨z,a3,m3,e3,ha3,_⟩:=among_ok hc a2 m2 [-1,0,1,inp] (by simp) (by omega) (by omega)
   rw [e3,Option.bind_some];exact ⟨_,_,_,rfl,by dsimp only;omega,by rw [List.length_set];omega⟩
  rw [if_neg s0];by_cases s1:s=1
  ·rw [if_pos s1]
   obtain ⟨z,a3,m3,e3,ha3,_⟩:=among_ok hc a2 m2 [-1,0,1,(l.length:Int),wrap64 ((l.length:Int)+2)] (by simp) (by omega) (by omega)
   rw [e3,Option.bind_some];exact ⟨_,_,_,rfl,by dsimp only;omega,by rw [List.length_set];omega⟩
  rw [if_neg s1];by_cases s2:s=2
  ·rw [if_pos s2]
   obtain ⟨z,a3,m3,e3,ha3,_⟩:=among_ok hc a2 m2 [-1,0,1,(l.length:Int),wrap64 ((l.length:Int)+2)] (by simp) (by omega) (by omega)
   rw [e3,Option.bind_some];exact ⟨_,_,_,rfl,by dsimp only;omega,by rw [List.length_set];omega⟩
  rw [if_neg s2];by_cases s3:s=3
  ·rw [if_pos s3,if_pos (by omega)]
   exact ⟨_,_,_,rfl,by omega,by rw [List.length_append,List.length_singleton];omega⟩
  rw [if_neg s3];exact ⟨_,_,_,rfl,by omega,by omega⟩
 ·rw [if_neg c]
  exact ⟨_,_,_,rfl,by omega,by omega⟩
theorem dgE_ok {code:List Int} (hc:bytesOk code) (inp root:Int) (l:List S93) (hl:l.length≤900) (a m:Int) (h0:0≤a) (h1:a≤800000000):∃ n ns r a' m',dgE code inp root l a m=some (n,ns,r,a',m')∧(a≤a'∧a'≤a+10)∧ns.length≤1000:=by
 unfold dgE;obtain ⟨s,a1,m1,e1,ha1,hs0,hs1⟩:=pick_ok hc a m 30 h0 (by omega)
 rw [e1,Option.bind_some];dsimp only;by_cases s0:s=0
 ·rw [if_pos s0]
  obtain ⟨z,a3,m3,e3,ha3,hz⟩:=among_ok hc a1 m1 [-1,0,1,wrap64 ((l.length:Int)+2)] (by simp) (by omega) (by omega)
  rw [e3,Option.bind_some];exact ⟨_,_,_,_,_,rfl,by dsimp only;omega,by omega⟩
 rw [if_neg s0];by_cases s1:s=1
 ·rw [if_pos s1]
  obtain ⟨z,a3,m3,e3,ha3,hz⟩:=among_ok hc a1 m1 [-1,0,wrap64 (inp+1),5] (by simp) (by omega) (by omega)
  rw [e3,Option.bind_some];exact ⟨_,_,_,_,_,rfl,by dsimp only;omega,by omega⟩
 rw [if_neg s1];by_cases s2:s=2
 ·rw [if_pos s2]
  obtain ⟨z,a3,m3,e3,ha3,hz0,hz1⟩:=pick_ok hc a1 m1 2 (by omega) (by omega)
  rw [e3,Option.bind_some];dsimp only;rw [w64 (n:=40+z) (by omega) (by omega),if_pos ⟨by omega,by omega⟩]
  exact ⟨_,_,_,_,_,rfl,by omega,by rw [List.length_append,List.length_replicate];omega⟩
 rw [if_neg s2];exact ⟨_,_,_,_,_,rfl,by omega,by omega⟩
theorem zz170 {code:List Int} (hc:bytesOk code) (a m:Int) (h0:0≤a) (h1:a≤700000000):∃ (n:Int) (ns:List S93) (r a' m':Int),Ev (fun k=>spec_l1Cur_diagram.f k code a m) (n,ns,r,a',m')∧(a≤a'∧a'≤a+80)∧ns.length≤1000:=by
 obtain ⟨n,ys,a1,m1,e1,ha1,hl,hn⟩:=table_ok hc a m h0 (by omega)
 have h15:=zz115 ys hn
 obtain ⟨l,a2,m2,e2,ha2,hl2⟩:=dgN_ok hc (n:Int) (ndBuild ys n n 0 []).1 (by omega) a1 m1 (by omega) (by omega)
 obtain ⟨n3,ns3,r3,a3,m3,e3,ha3,hl3⟩:=dgE_ok hc (n:Int) (ndBuild ys n n 0 []).2 l (by omega) a2 m2 (by omega) (by omega)
 refine ⟨n3,ns3,r3,a3,m3,?_,by omega,hl3⟩
 unfold spec_l1Cur_diagram.f;refine Ev.bind e1 (Ev.bind (zz94 n hn ys hl) ?_)
 dsimp only;rw [e2,Option.bind_some];exact ev_c e3
theorem clampD (n:Int):∃ t:Nat,∃ u:Int,t≤4∧spec_l1Least.f 4 n=some u∧spec_l1Most.f 0 u=some (t:Int):=by
 unfold spec_l1Least.f spec_l1Most.f;by_cases c:4<n
 ·exact ⟨4,4,by omega,by rw [if_pos c],by rw [if_neg (by omega)];rfl⟩
 ·rw [if_neg c]
  by_cases c2:0>n
  ·exact ⟨0,n,by omega,rfl,by rw [if_pos c2];rfl⟩
  ·refine ⟨n.toNat,n,by omega,rfl,?_⟩
   rw [if_neg c2];exact congrArg some (by omega)
theorem zz172 {c:List Int} (hc:bytesOk c):∃ (kind a:Int) (ns:List S93) (ra b:Int) (ms:List S93) (rb:Int),Ev (fun k=>spec_DrawCombineDiagrams.f k c) (kind,a,ns,ra,b,ms,rb)∧ns.length≤1000∧ms.length≤1000:=by
 obtain ⟨n,ns,r,a1,m1,e1,ha1,hl1⟩:=zz170 hc 0 0 (by omega) (by omega)
 obtain ⟨t,u,ht,eu,et⟩:=clampD n
 obtain ⟨ys,a2,m2,e2,ha2,hl2⟩:=zz12 hc t ht a1 m1 (by omega) (by omega)
 have h15:=zz115 ys ht
 obtain ⟨b,a3,m3,e3,ha3⟩:=one_ok hc a2 m2 12 (by omega) (by omega)
 cases b with
 | true =>
  obtain ⟨n4,ns4,r4,a4,m4,e4,ha4,hl4⟩:=zz170 hc a3 m3 (by omega) (by omega)
  obtain ⟨z,a5,m5,e5,ha5,_⟩:=among_ok hc a4 m4 [0,5] (by simp) (by omega) (by omega)
  obtain ⟨w,a6,m6,e6,ha6,_⟩:=among_ok hc a5 m5 [1,2,3,4,z] (by simp) (by omega) (by omega)
  refine ⟨w,n,ns,r,n4,ns4,r4,?_,hl1,hl4⟩
  unfold spec_DrawCombineDiagrams.f;exact Ev.bind e1 (Ev.bind (ev_c eu) (Ev.bind (ev_c et) (Ev.bind e2 (Ev.bind (zz94 t ht ys hl2) (Ev.bind (ev_c e3) (ev_p rfl (Ev.bind e4 (Ev.bind (ev_c e5) (Ev.bind (ev_c e6) (Ev.now _))))))))))
 | false =>
  obtain ⟨z,a5,m5,e5,ha5,_⟩:=among_ok hc a3 m3 [0,5] (by simp) (by omega) (by omega)
  obtain ⟨w,a6,m6,e6,ha6,_⟩:=among_ok hc a5 m5 [1,2,3,4,z] (by simp) (by omega) (by omega)
  refine ⟨w,n,ns,r,(t:Int),(ndBuild ys t t 0 []).1,(ndBuild ys t t 0 []).2,?_,hl1,by omega⟩
  unfold spec_DrawCombineDiagrams.f;exact Ev.bind e1 (Ev.bind (ev_c eu) (Ev.bind (ev_c et) (Ev.bind e2 (Ev.bind (zz94 t ht ys hl2) (Ev.bind (ev_c e3) (ev_n (by simp) (Ev.bind (ev_c e5) (Ev.bind (ev_c e6) (Ev.now _)))))))))
theorem zz173 {c:List Int} (hc:bytesOk c):∃ (n:Int) (ns:List S93) (r i v:Int),Ev (fun k=>spec_DrawFixDiagram.f k c) (n,ns,r,i,v)∧ns.length≤1000:=by
 obtain ⟨n,ns,r,a1,m1,e1,ha1,hl1⟩:=zz170 hc 0 0 (by omega) (by omega)
 obtain ⟨t,et⟩:∃ t,spec_l1Most.f 1 n=some t:=by
  unfold spec_l1Most.f;split <;> exact ⟨_,rfl⟩
 obtain ⟨p,a2,m2,e2,ha2,_⟩:=pick_ok hc a1 m1 16 (by omega) (by omega)
 obtain ⟨q,a3,m3,e3,ha3,_⟩:=pick_ok hc a2 m2 (wrap64 (t+wrap64 (Int.tdiv p 15))) (by omega) (by omega)
 obtain ⟨s,a4,m4,e4,ha4,_⟩:=pick_ok hc a3 m3 24 (by omega) (by omega)
 obtain ⟨z,a5,m5,e5,ha5,_⟩:=among_ok hc a4 m4 [-1,2] (by simp) (by omega) (by omega)
 obtain ⟨w,a6,m6,e6,ha6,_⟩:=among_ok hc a5 m5 [0,1,0,1,z] (by simp) (by omega) (by omega)
 refine ⟨n,ns,r,wrap64 (q - wrap64 (Int.tdiv s 23)),w,?_,hl1⟩
 unfold spec_DrawFixDiagram.f;exact Ev.bind e1 (Ev.bind (ev_c et) (Ev.bind (ev_c e2) (Ev.bind (ev_c e3) (Ev.bind (ev_c e4) (Ev.bind (ev_c e5) (Ev.bind (ev_c e6) (Ev.now _)))))))
theorem zz174 {c:List Int} (hc:bytesOk c):∃ (n:Int) (ys:List Int),Ev (fun k=>spec_DrawBestOrder.f k c) (n,ys)∧ys.length≤32:=by
 obtain ⟨n,ys,a',m',e,_,hl,hn⟩:=zz14 hc 0 0 (by omega) (by omega)
 refine ⟨n,ys,?_,hl⟩
 unfold spec_DrawBestOrder.f spec_DrawDiagramOf.f;exact Ev.bind (Ev.bind e (Ev.now _)) (Ev.now _)
theorem zz175 {code:List Int} (hc:bytesOk code):∀ (d:Nat) (o:List Int) (a m:Int),0≤a→a+2 * d≤1000000000→o.length+d≤1000→∃ o' a' m',rtLoop code d o a m=some (o',a',m')∧(a≤a'∧a'≤a+2 * d)∧o'.length=o.length+d:=by
 intro d;induction d with
 | zero=>intro o a m h0 _ _;exact ⟨o,a,m,rfl,by omega,by omega⟩
 | succ d ih =>
  intro o a m h0 h1 h2;rw [rtLoop,w64 (n:=(o.length:Int)+1) (by omega) (by omega)]
  obtain ⟨k,a1,m1,e1,ha1,hk0,hk1⟩:=pick_ok hc a m ((o.length:Int)+1) h0 (by omega)
  rw [e1,Option.bind_some];dsimp only;rw [if_pos (by omega)]
  have hl:(o.take k.toNat ++ [(o.length:Int)]++o.drop k.toNat).length=o.length+1:=by
   rw [List.length_append,List.length_append,List.length_take,List.length_drop,List.length_singleton];omega
  obtain ⟨o',a',m',e,ha,hl'⟩:=ih (o.take k.toNat ++ [(o.length:Int)]++o.drop k.toNat) a1 m1 (by omega) (by omega) (by omega)
  exact ⟨o',a',m',e,by omega,by omega⟩
theorem rtEnd_ok {code:List Int} (hc:bytesOk code) (o:List Int) (a m:Int) (h0:0≤a) (h1:a≤900000000):∃ o' a' m',rtEnd code o a m=some (o',a',m')∧o'.length=o.length:=by
 unfold rtEnd;by_cases c1:0<(o.length:Int)
 ·rw [if_pos c1]
  obtain ⟨b,a1,m1,e1,ha1⟩:=one_ok hc a m 12 h0 (by omega)
  rw [e1,Option.bind_some];dsimp only;cases b with
  | true =>
   rw [if_pos rfl];obtain ⟨z,a2,m2,e2,ha2,_⟩:=among_ok hc a1 m1 [-1,0,wrap64 ((o.length:Int) - 1),(o.length:Int)] (by simp) (by omega) (by omega)
   rw [e2,Option.bind_some];exact ⟨_,_,_,rfl,by simp⟩
  | false =>
   rw [if_neg (by decide)]
   exact ⟨_,_,_,rfl,rfl⟩
 ·rw [if_neg c1]
  exact ⟨_,_,_,rfl,rfl⟩
theorem zz177 {c:List Int} (hc:bytesOk c):∃ (n:Int) (ys o:List Int),Ev (fun k=>spec_DrawReorderTable.f k c) (n,ys,o)∧ys.length≤32∧o.length≤5:=by
 obtain ⟨n,ys,a1,m1,e1,ha1,hl,hn0,hn1⟩:=zz14 hc 0 0 (by omega) (by omega)
 obtain ⟨o,a2,m2,e2,ha2,hl2⟩:=zz175 hc n.toNat [] a1 m1 (by omega) (by omega) (by rw [List.length_nil];omega)
 obtain ⟨o',a3,m3,e3,hl3⟩:=rtEnd_ok hc o a2 m2 (by omega) (by omega)
 rw [List.length_nil] at hl2;refine ⟨n,ys,o',?_,hl,by omega⟩
 unfold spec_DrawReorderTable.f;exact Ev.bind e1 (ev_p (by omega) (Ev.bind (ev_c e2) (Ev.bind (ev_c e3) (Ev.now _))))
theorem zz178 (l:List Int) (hl:l.length≤9223372036854775806) (r:List Int):∀ (p:List Int) (i:Int),i=p.length→l=p++r→Ev (fun k=>laws_sameInts.l0 k l l l.length i) true:=by
 induction r with
 | nil =>
  intro p i hi e;have hlen:l.length=p.length:=by rw [e];simp
  apply ev_up;simp only [laws_sameInts.l0];exact ev_n (by omega) (Ev.now _)
 | cons x r ih =>
  intro p i hi e;have hlen:l.length=p.length+r.length+1:=by rw [e];simp;omega
  have ih':=ih (p ++ [x]) (i+1) (by simp;omega) (by rw [e];simp)
  apply ev_up;simp only [laws_sameInts.l0];refine ev_p (by omega) (ev_p (by omega) (ev_p (by omega) (ev_p (by omega) (ev_p (by trivial) ?_))))
  rw [w64 (n:=i+1) (by omega) (by omega)]
  exact ih'
theorem zz179 (l:List Int) (hl:l.length≤9223372036854775806):Ev (fun k=>laws_sameInts.f k l l) true:=by
 unfold laws_sameInts.f;exact ev_p rfl (zz178 l hl l [] 0 rfl rfl)
theorem pSameT (a:Int) (l:List Int) (hl:l.length≤9223372036854775806):Ev (fun k=>laws_pSameTable.f k a l a l) true:=by
 unfold laws_pSameTable.f;exact ev_p rfl (Ev.bind (zz179 l hl) (Ev.now _))
theorem ord_l1 (x:Nat) (hx:x<16) (o:List Int) (ho:o.length≤4) (hb:∀ b∈o,0≤b∧b<4) (ys zs:List Int) (r:List Int):∀ (p:List Int) (acc:Nat),o=p++r→acc+8 * r.length≤1000→acc+acN r x p.length<ys.length→rd ys ((acc+acN r x p.length:Nat):Int)=rd zs (x:Int) →
  Ev (fun k=>laws_FnDiagramOrders.l0 k ((x:Int)+1) ys o zs) true→Ev (fun k=>laws_FnDiagramOrders.l1 k acc ((p.length:Nat):Int) ys o zs x) true:=by
 induction r with
 | nil =>
  intro p acc e h1 h2 h3 h;have hlen:o.length=p.length:=by rw [e];simp
  rw [acN,Nat.add_zero] at h2 h3;apply ev_up;simp only [laws_FnDiagramOrders.l1];refine ev_n (by omega) (ev_p (by omega) (ev_p h3 ?_))
  rw [w64 (n:=(x:Int)+1) (by omega) (by omega)]
  exact h
 | cons b r ih =>
  intro p acc e h1 h2 h3 h;have hlen:o.length=p.length+r.length+1:=by rw [e];simp;omega
  have hy:rd o ((p.length:Nat):Int)=b:=by rw [e];exact rdA rfl
  have hbb:=hb b (by rw [e];simp)
  have ht:=ac_term x p.length hbb
  rw [List.length_cons] at h1;rw [acN] at h2 h3;obtain ⟨c,rfl⟩:=nat_of hbb.1
  rw [Int.toNat_natCast] at ht h2 h3;apply ev_up;simp only [laws_FnDiagramOrders.l1];rw [hy,u64w (n:=(c:Int)) (by omega) (by omega),u64w (n:=((p.length:Nat):Int)) (by omega) (by omega)]
  refine ev_p (by omega) (ev_p (by omega) (ev_p (by omega) (ev_p (by omega) ?_)))
  rw [bit_and1 x p.length (by omega) (by omega),shlN _ c (by omega) (by omega),w64 (n:=((p.length:Nat):Int)+1) (by omega) (by omega),w64 (n:=(acc:Int)+_) (by omega) (by omega)]
  have:=ih (p ++ [(c:Int)]) (acc+(x >>> p.length) % 2 * 2 ^ c) (by rw [e];simp) (by omega) (by rw [List.length_append,List.length_singleton];omega) (by rw [List.length_append,List.length_singleton,Nat.add_assoc];exact h3) h
  rw [List.length_append,List.length_singleton] at this;exact_mod_cast this
theorem ord_l0 {n:Nat} (hn:n≤4) {o:List Int} (ho:o∈Sep.pm n n []) {ys:List Int} (hv:ys.length=2 ^ n):∀ (d x:Nat),x+d=2 ^ n→Ev (fun k=>laws_FnDiagramOrders.l0 k x ys o (reT n ys o)) true:=by
 have hp:=pow4 hn
 obtain ⟨⟨f1,f2⟩,f3⟩:=pm_facts n (by omega) o ho
 intro d;induction d with
 | zero =>
  intro x hx;apply ev_up;simp only [laws_FnDiagramOrders.l0];exact ev_n (by rw [zz143];omega) (Ev.now _)
 | succ d ih =>
  intro x hx;apply ev_up;simp only [laws_FnDiagramOrders.l0];refine ev_p (by rw [zz143];omega) (ev_p (by rw [zz143];omega) ?_)
  have h3:=(f3 x (by omega)).2
  refine ord_l1 x (by omega) o (by omega) (fun b hb=>by have:=f2 b hb;omega) ys _ o [] 0 rfl (by omega) (by rw [Nat.zero_add];show acN o x 0<_;omega) ?_ ?_
  ·rw [Nat.zero_add]
   have e:rd (reT n ys o) (x:Int)=rd ys ((acN o x 0:Nat):Int):=rmap_get (show x<2 ^ n by omega) 0
   rw [e];rfl
  ·exact_mod_cast ih (x+1) (by omega)
theorem ord_j5 (a:Int) (l o:List Int):Ev (fun k=>laws_FnDiagramOrders.j5 k l o (rtM a l o).2.2 (rtM a l o).2.1) true:=by
 apply ev_up;simp only [laws_FnDiagramOrders.j5];unfold rtM;by_cases c:tableM a l=true∧okO a.toNat [] o=true∧o.length=a.toNat
 ·rw [if_pos c]
  obtain ⟨n,rfl,hn,h1,h2,h3⟩:=zz74 c.1
  rw [Int.toNat_natCast] at c ⊢
  have hm:=pm_has n n [] o c.2.2 c.2.1
  exact ev_p rfl (ord_l0 hn hm h1 (2 ^ n) 0 (by omega))
 ·rw [if_neg c]
  exact ev_n (by simp) (Ev.now _)
theorem zz184 (a:Int) (l o:List Int):(rtM a l o).2.1.length≤16:=by
 unfold rtM;split
 ·rename_i c
  obtain ⟨n,rfl,hn,h1,h2,h3⟩:=zz74 c.1
  show (reT _ l o).length≤16
  rw [zz143,Int.toNat_natCast];exact pow4 hn
 ·simp
theorem ord_j4 (l1:List Int) (hc:bytesOk l1):Ev (fun k=>laws_FnDiagramOrders.j4 k l1) true:=by
 obtain ⟨n,ys,o,e,h1,h2⟩:=zz177 hc
 obtain ⟨r1,r2⟩:=rt_evs n ys o (by omega) (by omega)
 have hl:=zz184 n ys o
 have hs:=pSameT (rtM n ys o).1 (rtM n ys o).2.1 (by omega)
 have h5:=ord_j5 n ys o
 apply ev_up;simp only [laws_FnDiagramOrders.j4];refine Ev.bind e (Ev.bind r1 (Ev.bind r2 ?_))
 by_cases c:(rtM n ys o).2.2=true
 ·exact ev_p c (ev_p c (Ev.bind hs (ev_p rfl h5)))
 ·exact ev_n c (ev_n c (Ev.bind hs (ev_p rfl h5)))
theorem ord_j3 (l1:List Int) (hc:bytesOk l1) (a:Int) (l:List Int):Ev (fun k=>laws_FnDiagramOrders.j3 k l1 a l (bestR a l).1 (bestR a l).2.2 (bestR a l).2.1) true:=by
 have h4:=ord_j4 l1 hc
 apply ev_up;simp only [laws_FnDiagramOrders.j3];unfold bestR;by_cases ht:tableM a l=true
 ·rw [if_pos ht]
  obtain ⟨n,rfl,hn,h1,h2,h3⟩:=zz74 ht
  rw [Int.toNat_natCast];obtain ⟨b1,b2,b3⟩:=zz157 hn l
  obtain ⟨⟨f1,f2⟩,f3⟩:=pm_facts n (by omega) _ b1
  obtain ⟨r,e,hr,hk⟩:=pm_okO n n [] _ b1
  rw [List.nil_append] at e;have e2:rtM (n:Int) l (bestM n l).1=((n:Int),reT n l (bestM n l).1,true):=by
   unfold rtM;rw [if_pos ⟨ht,by rw [Int.toNat_natCast,e];exact hk,by rw [Int.toNat_natCast];exact f1⟩,Int.toNat_natCast]
  have hr1:=(rt_evs (n:Int) l (bestM n l).1 (by omega) (by omega)).1
  rw [e2] at hr1;have d1:=zz165 (zz162 hn h3 (bestM n l).1)
  have d2:=zz165 ht
  have hb:=b3 _ (pm_iota n (by omega)).1
  unfold bestC at b2 hb;rw [reT_iota hn h1] at hb;exact ev_p rfl (Ev.bind hr1 (Ev.bind d1 (Ev.bind d2 (ev_p rfl (ev_p rfl (ev_p b2.symm (ev_p rfl (ev_n (by dsimp only;omega) h4))))))))
 ·rw [if_neg ht]
  exact ev_n (by simp) h4
theorem zz187 (a:Int) (l:List Int):(bestR a l).1.length≤4:=by
 unfold bestR;split
 ·rename_i c
  obtain ⟨n,rfl,hn,h1,h2,h3⟩:=zz74 c
  rw [Int.toNat_natCast];have:=(pm_facts n (by omega) _ (zz157 hn l).1).1.1
  show (bestM n l).1.length≤4
  omega
 ·simp
theorem ord_j2 (l1:List Int) (hc:bytesOk l1):Ev (fun k=>laws_FnDiagramOrders.j2 k l1) true:=by
 obtain ⟨n,ys,e,h1⟩:=zz174 hc
 obtain ⟨r1,r2⟩:=best_evs n ys (by omega)
 have hl:=zz187 n ys
 have hs:=zz179 (bestR n ys).1 (by omega)
 have h3:=ord_j3 l1 hc n ys
 apply ev_up;simp only [laws_FnDiagramOrders.j2];refine Ev.bind e (Ev.bind r1 (Ev.bind r2 ?_))
 by_cases c:(bestR n ys).2.2=true
 ·exact ev_p c (ev_p c (Ev.bind hs (ev_p rfl (ev_p rfl h3))))
 ·exact ev_n c (ev_n c (Ev.bind hs (ev_p rfl (ev_p rfl h3))))
theorem zz189 (a:Int) (ns:List S93) (root i v:Int) (h:(fixD a ns root i v).2.2.2=true):(fixD a ns root i v).1=wrap64 (a - 1)∧diagM (fixD a ns root i v).1 (fixD a ns root i v).2.1 (fixD a ns root i v).2.2.1:=by
 unfold fixD at h ⊢
 by_cases c:diagM a ns root∧0≤i∧i<a∧0≤v∧v≤1
 ·rw [if_pos c]
  obtain ⟨n,rfl,hn,hb1,m1,l1,d1,d3,t1,t3⟩:=diag_evs c.1
  obtain ⟨n',e,_,_,_,hbit⟩:=zz74 m1
  obtain ⟨m,rfl⟩:=nat_of c.2.1
  have hlen:=zz125 hn (show m<n by omega) c.2.2.2 l1
  have:=(zz132 (n:=n - 1) (by omega) hlen (fun x hx=>hbit x (fixL_sub _ _ _ _ x hx))).1
  rw [Int.toNat_natCast,Int.toNat_natCast];refine ⟨by rw [w64 (by omega) (by omega)],?_⟩
  rw [show (n:Int) - 1=((n - 1:Nat):Int) by omega]
  exact this
 ·rw [if_neg c] at h
  simp at h
theorem zz190 (a:Int) (ns:List S93) (root i v:Int):(fixD a ns root i v).2.1.length≤40:=by
 by_cases c:(fixD a ns root i v).2.2.2=true
 ·exact (zz189 a ns root i v c).2.2.2.1
 ·unfold fixD at c ⊢
  split
  ·rename_i h
   rw [if_pos h] at c;exact absurd rfl c
  ·simp
theorem ord_j1 (l1:List Int) (hc:bytesOk l1):Ev (fun k=>laws_FnDiagramOrders.j1 k l1) true:=by
 obtain ⟨n,ns,r,i,v,e,h1⟩:=zz173 hc
 obtain ⟨r1,r2⟩:=fixD_evs n ns r i v (by omega)
 have hl:=zz190 n ns r i v
 have hs:=pSameD (fixD n ns r i v).1 (fixD n ns r i v).2.2.1 (fixD n ns r i v).2.1 (by omega)
 have h2:=ord_j2 l1 hc
 apply ev_up;simp only [laws_FnDiagramOrders.j1];refine Ev.bind e (Ev.bind r1 (Ev.bind r2 ?_))
 by_cases c:(fixD n ns r i v).2.2.2=true
 ·obtain ⟨f1,f2⟩:=zz189 n ns r i v c
  have hd:=zz108 (fixD n ns r i v).1 (fixD n ns r i v).2.1 (fixD n ns r i v).2.2.1 (by omega)
  rw [(zz100 _ _ _).2 f2] at hd;exact ev_p c (ev_p c (Ev.bind hs (ev_p rfl (ev_p f1 (Ev.bind hd (ev_p rfl h2))))))
 ·exact ev_n c (ev_n c (Ev.bind hs (ev_p rfl h2)))
theorem zz192 (kind:Int):∀ (l m:List Int),(∀ x∈l,0≤x∧x≤1)→(∀ x∈m,0≤x∧x≤1)→∀ x∈cmbL kind l m,0≤x∧x≤1:=by
 intro l;induction l with
 | nil=>intro m _ _ x hx;cases m <;> cases hx
 | cons y l ih =>
  intro m hl hm x hx;cases m with
  | nil=>cases hx
  | cons z m =>
   rcases List.mem_cons.1 hx with e | e
   ·rw [e];exact cmbV_bit kind y z (hl y List.mem_cons_self) (hm z List.mem_cons_self)
   ·exact ih m (fun w hw=>hl w (List.mem_cons_of_mem _ hw)) (fun w hw=>hm w (List.mem_cons_of_mem _ hw)) x e
theorem ord_j0 (l1:List Int) (hc:bytesOk l1) (kind a:Int) (ns:List S93) (ra b:Int) (ms:List S93) (rb:Int):Ev (fun k=>laws_FnDiagramOrders.j0 k l1 kind a ns ra b ms rb (cmbD kind a ns ra b ms rb).2.2.2 (cmbD kind a ns ra b ms rb).1 (cmbD kind a ns ra b ms rb).2.1 (cmbD kind a ns ra b ms rb).2.2.1) true:=by
 have h1:=ord_j1 l1 hc
 apply ev_up;simp only [laws_FnDiagramOrders.j0];unfold cmbD;by_cases c:diagM a ns ra∧diagM b ms rb∧1≤kind∧kind≤4∧a=b
 ·rw [if_pos c]
  obtain ⟨c1,c2,c3,c4,rfl⟩:=c
  have t1:=zz164 c1
  have t2:=zz164 c2
  obtain ⟨n,rfl,hn,_,m1,l1',_⟩:=diag_evs c1
  obtain ⟨n2,e2,_,_,m2,l2',_⟩:=diag_evs c2
  obtain rfl:n=n2:=by omega
  rw [Int.toNat_natCast] at t1 t2 ⊢
  have hp:=pow4 hn
  have hk:=zz88 kind (n:Int) (ndTab n ns ra) (n:Int) (ndTab n ms rb) (by omega) (by omega)
  have e3:cmbT kind (n:Int) (ndTab n ns ra) (n:Int) (ndTab n ms rb)=((n:Int),cmbL kind (ndTab n ns ra) (ndTab n ms rb),true):=by
   unfold cmbT;rw [if_pos ⟨c3,c4,m1,m2,rfl⟩]
  rw [e3] at hk;have hcl:=zz78 kind (ndTab n ns ra) (ndTab n ms rb) (by omega)
  have hb1:=(zz74 m1).choose_spec.2.2.2.2
  have hb2:=(zz74 m2).choose_spec.2.2.2.2
  have hd:=zz165 (n:=n) (vs:=cmbL kind (ndTab n ns ra) (ndTab n ms rb)) (by
   unfold tableM;rw [Bool.and_eq_true,decide_eq_true_eq,List.all_eq_true];exact ⟨⟨by omega,by omega,by rw [Int.toNat_natCast];omega⟩,fun x hx=>by unfold inB;exact decide_eq_true (zz192 kind _ _ hb1 hb2 x hx)⟩)
  have h15:=zz115 (cmbL kind (ndTab n ns ra) (ndTab n ms rb)) hn
  exact ev_p rfl (Ev.bind t1 (Ev.bind t2 (Ev.bind hk (Ev.bind hd (ev_p rfl (ev_p rfl (ev_p rfl (ev_p rfl (Ev.bind (pSameD _ _ _ (by dsimp only;omega)) (ev_p rfl h1))))))))))
 ·rw [if_neg c]
  exact ev_n (by simp) h1
theorem FnDiagramOrders:laws_FnDiagramOrders.Pure:=by
 intro l0 l1 _ h1 h2 _ h3 h4;apply ev_get
 have hc0:=bytes_of h1 h2
 have hc1:=bytes_of h3 h4
 unfold laws_FnDiagramOrders.f;obtain ⟨b,hb⟩:∃ b,laws_big.f l0 l1=some b:=by
  unfold laws_big.f;split <;> exact ⟨_,rfl⟩
 simp only [hb,Option.bind_some];cases b with
 | true=>exact ev_p rfl (Ev.now _)
 | false =>
  refine ev_n (by decide) ?_
  obtain ⟨kind,a,ns,ra,b,ms,rb,e,hl1,hl2⟩:=zz172 hc0
  obtain ⟨r1,r2⟩:=zz119 kind a ns ra b ms rb (by omega) (by omega)
  have hl:=zz116 kind a ns ra b ms rb
  have hs:=pSameD (cmbD kind a ns ra b ms rb).1 (cmbD kind a ns ra b ms rb).2.2.1 (cmbD kind a ns ra b ms rb).2.1 (by omega)
  have h0:=ord_j0 l1 hc1 kind a ns ra b ms rb
  refine Ev.bind e (Ev.bind r2 (Ev.bind r1 ?_))
  by_cases c:(cmbD kind a ns ra b ms rb).2.2.2=true
  ·exact ev_p c (ev_p c (Ev.bind hs (ev_p rfl h0)))
  ·exact ev_n c (ev_n c (Ev.bind hs (ev_p rfl h0)))
end Go.Proofs.Ytlnhpkjioppbiaa.Pure
