/- The pure part of the law FnTables: what the program and the reference compute is the same, for all arguments. Conditions: the numbers are of Go's int, the lengths of slices are. -/
import Derived.Test.YtlnhpkjioppbiaaDoorSFnTablesx15
import Derived.Test.YtlnhpkjioppbiaaDoorVTaKit
set_option linter.unusedVariables false
set_option linter.unusedSimpArgs false
namespace Go.Proofs.YtlnhpkjioppbiaaDoor.Pure
open Go.RowKit Go.Proofs.YtlnhpkjioppbiaaDoor.QFnTables Go.Proofs.YtlnhpkjioppbiaaDoorW.PrintWords Go.Proofs.YtlnhpkjioppbiaaDoorW.PrintLast Go.Proofs.YtlnhpkjioppbiaaDoor.Open Go.Proofs.YtlnhpkjioppbiaaDoor.Kit
theorem rd_mem {ds:List Int} {i:Int} (h0:0≤i) (h1:i<ds.length):rd ds i∈ds:=by
 obtain ⟨n,rfl⟩:=nat_of h0
 have hn:n<ds.length:=by omega
 rw [rdN hn];exact List.getElem_mem hn
def bytesOk (code:List Int):Prop:=code.length≤140737488355328∧∀ x∈code,0≤x∧x≤255
theorem bits255 (y:Int):0≤wrap64 (Go.bits .and .u64 y 255)∧wrap64 (Go.bits .and .u64 y 255)≤255:=by
 show 0≤wrap64 (IntKind.u64.wrap ((BitVec.ofInt 64 y &&& BitVec.ofInt 64 255).toNat:Int))∧wrap64 (IntKind.u64.wrap ((BitVec.ofInt 64 y &&& BitVec.ofInt 64 255).toNat:Int))≤255
 have h:(BitVec.ofInt 64 y &&& BitVec.ofInt 64 255).toNat≤255:=by
  rw [BitVec.toNat_and];exact Nat.le_trans Nat.and_le_right (by decide)
 generalize (BitVec.ofInt 64 y &&& BitVec.ofInt 64 255).toNat=m at h
 rw [u64w (by omega) (by omega),w64 (n:=(m:Int)) (by omega) (by omega)]
 omega
theorem next_ok {code:List Int} (hc:bytesOk code) (at_ mix:Int) (h0:0≤at_) (h1:at_≤4000000000000000000):∃ r m,spec_l1Cur_next.f code at_ mix=some (r,at_+1,m)∧0≤r∧r≤255:=by
 unfold spec_l1Cur_next.f;rw [w64 (n:=at_+1) (by omega) (by omega)]
 by_cases c1:at_<(code.length:Int)
 ·have hm:=hc.2 (rd code at_) (rd_mem h0 c1)
  rw [if_pos c1,if_pos h0,if_pos (by omega),w64 (n:=rd code at_) (by omega) (by omega)]
  exact ⟨_,_,rfl,hm.1,hm.2⟩
 ·rw [if_neg c1,if_neg (by omega)]
  exact ⟨_,_,rfl,(bits255 _).1,(bits255 _).2⟩
theorem pick_ok {code:List Int} (hc:bytesOk code) (at_ mix n:Int) (h0:0≤at_) (h1:at_≤3999999999999999990):∃ r a m,spec_l1Cur_pick.f code at_ mix n=some (r,a,m)∧(at_≤a∧a≤at_+2)∧0≤r∧(r=0∨r<n):=by
 unfold spec_l1Cur_pick.f;by_cases c:n≤1
 ·rw [if_pos c]
  exact ⟨0,at_,mix,rfl,by omega,by omega,.inl rfl⟩
 ·rw [if_neg c]
  obtain ⟨r,m,e,hr0,hr1⟩:=next_ok hc at_ mix h0 (by omega)
  rw [e,Option.bind_some];by_cases c2:n>200
  ·obtain ⟨r2,m2,e2,hs0,hs1⟩:=next_ok hc (at_+1) m (by omega) (by omega)
   rw [if_pos c2,e2,Option.bind_some,if_neg (by omega)]
   dsimp only;rw [w64 (n:=r * 256) (by omega) (by omega),w64 (n:=r * 256+r2) (by omega) (by omega)]
   exact ⟨_,_,_,rfl,by omega,Int.tmod_nonneg _ (by omega),.inr (Int.tmod_lt_of_pos _ (by omega))⟩
  ·rw [if_neg c2,if_neg (by omega)]
   dsimp only;exact ⟨_,_,_,rfl,by omega,Int.tmod_nonneg _ (by omega),.inr (Int.tmod_lt_of_pos _ (by omega))⟩
theorem among_ok {code:List Int} (hc:bytesOk code) (at_ mix:Int) (l:List Int) (hl:0<l.length) (h0:0≤at_) (h1:at_≤3999999999999999990):∃ r a m,spec_l1Cur_among.f code at_ mix l=some (r,a,m)∧(at_≤a∧a≤at_+2)∧r∈l:=by
 unfold spec_l1Cur_among.f;obtain ⟨r,a,m,e,ha,hr0,hr1⟩:=pick_ok hc at_ mix (l.length:Int) h0 h1
 have hr2:r<(l.length:Int):=by omega
 rw [e,Option.bind_some];dsimp only;rw [if_pos hr0,if_pos hr2];exact ⟨_,_,_,rfl,ha,rd_mem hr0 hr2⟩
theorem one_ok {code:List Int} (hc:bytesOk code) (at_ mix n:Int) (h0:0≤at_) (h1:at_≤3999999999999999990):∃ r a m,spec_l1Cur_one.f code at_ mix n=some (r,a,m)∧(at_≤a∧a≤at_+2):=by
 unfold spec_l1Cur_one.f;obtain ⟨r,a,m,e,ha,_⟩:=pick_ok hc at_ mix n h0 h1
 rw [e,Option.bind_some];exact ⟨_,_,_,rfl,ha⟩
theorem bytes_of {l:List Int} (h1:l.length * 1≤140737488351232) (h2:∀ x∈l,(Lit.int .u8 x).wf=true):bytesOk l:=by
 refine ⟨by omega,fun x hx=>?_⟩
 have:=h2 x hx
 simp [Lit.wf,IntKind.min,IntKind.max,IntKind.bits,IntKind.signed] at this
 omega
theorem bit_and1 (a n:Nat) (ha:a<2 ^ 62) (hn:n≤62):Go.bits .and .i64 (shr .i64 (a:Int) (n:Int)) 1=(((a >>> n) % 2:Nat):Int):=by
 rw [shrN a n hn];have h:a >>> n≤a:=Nat.shiftRight_le a n
 have:=andN (a >>> n) 1 (by omega) (by omega)
 rw [Nat.and_one_is_mod] at this;exact this
theorem zz9 (a n:Nat) (ha:a<2 ^ 62) (hn:n≤62):spec_ttBit.f (a:Int) (n:Int)=some (((a >>> n) % 2:Nat):Int):=by
 unfold spec_ttBit.f;rw [u64w (by omega) (by omega),if_pos (by omega),bit_and1 a n ha hn]
theorem zz10 (a i:Nat) (ha:a≤4) (hi:i<16) (c:List Int) (at_ m n:Int) (xs:List Int) (hx:xs.length≤1000) (d:Nat):∀ (s j:Nat),j+d=a→s≤j →
  ∃ b:Int,∀ v,Ev (fun k=>spec_l1Cur_tableOf.l0 k a 8 (wrap64 ((i:Int)+1)) c at_ m n (xs ++ [b])) v→Ev (fun k=>spec_l1Cur_tableOf.l1 k a 8 i s j c at_ m n xs) v:=by
 induction d with
 | zero =>
  intro s j hj hs;refine ⟨Int.tmod (wrap64 (Int.tdiv (s:Int) 2)) 2,fun v hv=>?_⟩
  apply ev_up;simp only [spec_l1Cur_tableOf.l1];exact ev_n (by omega) (ev_p (by omega) hv)
 | succ d ih =>
  intro s j hj hs;obtain ⟨b,hb⟩:=ih (s+(i >>> j) % 2) (j+1) (by omega) (by omega)
  refine ⟨b,fun v hv=>?_⟩
  apply ev_up;simp only [spec_l1Cur_tableOf.l1];refine ev_p (by omega) ?_
  rw [zz9 i j (by omega) (by omega)]
  refine Ev.bind (ev_c rfl) ?_
  rw [wN (m:=s+(i >>> j) % 2) (by push_cast;rfl) (by omega),wN (m:=j+1) (by push_cast;rfl) (by omega)]
  exact hb v hv
theorem zz11 {c:List Int} (hc:bytesOk c) (a:Nat) (ha:a≤4) (x6 n:Int) (d:Nat):∀ (i:Nat) (at_ m:Int) (xs:List Int),i+d=2 ^ a→0≤at_→at_+2 * d≤999000000→xs.length=i →
  ∃ ys a' m',Ev (fun k=>spec_l1Cur_tableOf.l0 k a x6 i c at_ m n xs) (n,ys,a',m')∧(at_≤a'∧a'≤at_+2 * d)∧ys.length=2 ^ a:=by
 have h8:2 ^ a≤2 ^ 4:=Nat.pow_le_pow_right (by decide) ha
 induction d with
 | zero =>
  intro i at_ m xs hi h0 h1 hx;refine ⟨xs,at_,m,?_,by omega,by omega⟩
  apply ev_up;simp only [spec_l1Cur_tableOf.l0];rw [u64w (by omega) (by omega),shl1 a (by omega)]
  exact ev_p (by omega) (ev_n (by omega) (Ev.now _))
 | succ d ih =>
  intro i at_ m xs hi h0 h1 hx;by_cases c8:x6=8
  ·subst c8
   obtain ⟨b,hb⟩:=zz10 a i ha (by omega) c at_ m n xs (by omega) a 0 0 (by omega) (by omega)
   obtain ⟨ys,a',m',e,hr,hl⟩:=ih (i+1) at_ m (xs ++ [b]) (by omega) h0 (by omega) (by simp;omega)
   refine ⟨ys,a',m',?_,by omega,hl⟩
   apply ev_up;simp only [spec_l1Cur_tableOf.l0];rw [u64w (by omega) (by omega),shl1 a (by omega)]
   refine ev_p (by omega) (ev_p (by omega) (ev_p (by trivial) (hb _ ?_)))
   rw [wN (m:=i+1) (by push_cast;rfl) (by omega)]
   exact e
  ·obtain ⟨b,a1,m1,e1,ha1⟩:=one_ok hc at_ m x6 h0 (by omega)
   cases b with
   | true =>
    obtain ⟨ys,a',m',e,hr,hl⟩:=ih (i+1) a1 m1 (xs ++ [1]) (by omega) (by omega) (by omega) (by simp;omega)
    refine ⟨ys,a',m',?_,by omega,hl⟩
    apply ev_up;simp only [spec_l1Cur_tableOf.l0];rw [u64w (by omega) (by omega),shl1 a (by omega),e1,wN (m:=i+1) (by push_cast;rfl) (by omega)]
    exact ev_p (by omega) (ev_p (by omega) (ev_n c8 (Ev.bind (ev_c rfl) (ev_p rfl (ev_p (by omega) e)))))
   | false =>
    obtain ⟨ys,a',m',e,hr,hl⟩:=ih (i+1) a1 m1 (xs ++ [0]) (by omega) (by omega) (by omega) (by simp;omega)
    refine ⟨ys,a',m',?_,by omega,hl⟩
    apply ev_up;simp only [spec_l1Cur_tableOf.l0];rw [u64w (by omega) (by omega),shl1 a (by omega),e1,wN (m:=i+1) (by push_cast;rfl) (by omega)]
    exact ev_p (by omega) (ev_p (by omega) (ev_n c8 (Ev.bind (ev_c rfl) (ev_n (by simp) (ev_p (by omega) e)))))
theorem zz12 {c:List Int} (hc:bytesOk c) (a:Nat) (ha:a≤4) (at_ m:Int) (h0:0≤at_) (h1:at_≤900000000):∃ ys a' m',Ev (fun k=>spec_l1Cur_tableOf.f k c at_ m a) ((a:Int),ys,a',m')∧(at_≤a'∧a'≤at_+40)∧ys.length=2 ^ a:=by
 have h8:2 ^ a≤2 ^ 4:=Nat.pow_le_pow_right (by decide) ha
 obtain ⟨x6,a1,m1,e1,ha1,_⟩:=among_ok hc at_ m [2,2,4,8] (by simp) h0 (by omega)
 obtain ⟨ys,a',m',e,hr,hl⟩:=zz11 hc a ha x6 a (2 ^ a) 0 a1 m1 [] (by omega) (by omega) (by omega) rfl
 refine ⟨ys,a',m',?_,by omega,hl⟩
 unfold spec_l1Cur_tableOf.f;rw [e1];exact Ev.bind (ev_c rfl) e
theorem table_ok {c:List Int} (hc:bytesOk c) (at_ m:Int) (h0:0≤at_) (h1:at_≤800000000):∃ (a:Nat) (ys:List Int) (a' m':Int),Ev (fun k=>spec_l1Cur_table.f k c at_ m) ((a:Int),ys,a',m')∧(at_≤a'∧a'≤at_+50)∧ys.length=2 ^ a∧a≤4:=by
 obtain ⟨r,a1,m1,e1,ha1,hr⟩:=among_ok hc at_ m [0,1,2,2,3,3,4] (by simp) h0 (by omega)
 obtain ⟨a,rfl,ha⟩:∃ a:Nat,r=a∧a≤4:=by
  have:0≤r∧r≤4:=by simp at hr;omega
  exact ⟨r.toNat,by omega,by omega⟩
 obtain ⟨ys,a',m',e,hr2,hl⟩:=zz12 hc a ha a1 m1 (by omega) (by omega)
 refine ⟨a,ys,a',m',?_,by omega,hl,ha⟩
 unfold spec_l1Cur_table.f;rw [e1];exact Ev.bind (ev_c rfl) (Ev.bind e (Ev.now _))
theorem zz14 {c:List Int} (hc:bytesOk c) (at_ m:Int) (h0:0≤at_) (h1:at_≤700000000):∃ (n:Int) (ys:List Int) (a' m':Int),Ev (fun k=>spec_l1Cur_anyTable.f k c at_ m) (n,ys,a',m')∧(at_≤a'∧a'≤at_+60)∧ys.length≤32 ∧ -1≤n∧n≤5:=by
 obtain ⟨a,ys,a1,m1,e1,ha1,hl,ha⟩:=table_ok hc at_ m h0 (by omega)
 have h8:2 ^ a≤2 ^ 4:=Nat.pow_le_pow_right (by decide) ha
 have h9:=Nat.two_pow_pos a
 obtain ⟨p,a2,m2,e2,ha2,_⟩:=pick_ok hc a1 m1 30 (by omega) (by omega)
 by_cases c0:p=0
 ·obtain ⟨q,a3,m3,e3,ha3,hq⟩:=among_ok hc a2 m2 [-1,wrap64 ((a:Int)+1)] (by simp) (by omega) (by omega)
  have hq2 : -1≤q∧q≤5:=by
   rw [w64 (n:=(a:Int)+1) (by omega) (by omega)] at hq
   simp at hq
   omega
  refine ⟨q,ys,a3,m3,?_,by omega,by omega,hq2.1,hq2.2⟩
  unfold spec_l1Cur_anyTable.f;refine Ev.bind e1 ?_
  dsimp only;rw [e2];refine Ev.bind (ev_c rfl) (ev_p c0 ?_)
  dsimp only;rw [e3];exact Ev.bind (ev_c rfl) (Ev.now _)
 by_cases c1:p=1
 ·obtain ⟨i,a3,m3,e3,ha3,hi0,hi1⟩:=pick_ok hc a2 m2 (ys.length:Int) (by omega) (by omega)
  obtain ⟨q,a4,m4,e4,ha4,hq⟩:=among_ok hc a3 m3 [-1,2] (by simp) (by omega) (by omega)
  refine ⟨a,ys.set i.toNat q,a4,m4,?_,by omega,by rw [List.length_set];omega,by omega,by omega⟩
  unfold spec_l1Cur_anyTable.f;refine Ev.bind e1 ?_
  dsimp only;rw [e2];refine Ev.bind (ev_c rfl) (ev_n c0 (ev_p c1 ?_))
  dsimp only;rw [e3];refine Ev.bind (ev_c rfl) ?_
  dsimp only;rw [e4];exact Ev.bind (ev_c rfl) (ev_p hi0 (ev_p (by omega) (Ev.now _)))
 by_cases c2:p=2
 ·refine ⟨a,ys.drop (1:Int).toNat,a2,m2,?_,by omega,by rw [List.length_drop];omega,by omega,by omega⟩
  unfold spec_l1Cur_anyTable.f;refine Ev.bind e1 ?_
  dsimp only;rw [e2];exact Ev.bind (ev_c rfl) (ev_n c0 (ev_n c1 (ev_p c2 (ev_p (by omega) (Ev.now _)))))
 by_cases c3:p=3
 ·refine ⟨5,List.replicate 32 0,a2,m2,?_,by omega,by rw [List.length_replicate];omega,by omega,by omega⟩
  unfold spec_l1Cur_anyTable.f;refine Ev.bind e1 ?_
  dsimp only;rw [e2];exact Ev.bind (ev_c rfl) (ev_n c0 (ev_n c1 (ev_n c2 (ev_p c3 (ev_p (by omega) (Ev.now _))))))
 ·refine ⟨a,ys,a2,m2,?_,by omega,by omega,by omega,by omega⟩
  unfold spec_l1Cur_anyTable.f;refine Ev.bind e1 ?_
  dsimp only;rw [e2];exact Ev.bind (ev_c rfl) (ev_n c0 (ev_n c1 (ev_n c2 (ev_n c3 (Ev.now _)))))
theorem tmod2 (s:Nat) (h:s≤1000):0≤Int.tmod (wrap64 (Int.tdiv (s:Int) 2)) 2∧Int.tmod (wrap64 (Int.tdiv (s:Int) 2)) 2≤1:=by
 have e:Int.tdiv (s:Int) 2=(s:Int) / 2:=Int.tdiv_eq_ediv_of_nonneg (by omega)
 rw [e,w64 (by omega) (by omega),Int.tmod_eq_emod_of_nonneg (by omega)]
 omega
theorem zz16 {xs:List Int} {b:Int} (h:∀ x∈xs,0≤x∧x≤1) (hb:0≤b∧b≤1):∀ x∈xs ++ [b],0≤x∧x≤1:=by
 intro x hx;rcases List.mem_append.1 hx with h1 | h1
 ·exact h x h1
 ·rw [List.mem_singleton] at h1
  rw [h1];exact hb
theorem zz17 (a i:Nat) (ha:a≤4) (hi:i<16) (c:List Int) (at_ m n:Int) (xs:List Int) (hx:xs.length≤1000) (d:Nat):∀ (s j:Nat),j+d=a→s≤j →
  ∃ b:Int,(0≤b∧b≤1)∧∀ v,Ev (fun k=>spec_l1Cur_tableOf.l0 k a 8 (wrap64 ((i:Int)+1)) c at_ m n (xs ++ [b])) v→Ev (fun k=>spec_l1Cur_tableOf.l1 k a 8 i s j c at_ m n xs) v:=by
 induction d with
 | zero =>
  intro s j hj hs;refine ⟨Int.tmod (wrap64 (Int.tdiv (s:Int) 2)) 2,tmod2 s (by omega),fun v hv=>?_⟩
  apply ev_up;simp only [spec_l1Cur_tableOf.l1];exact ev_n (by omega) (ev_p (by omega) hv)
 | succ d ih =>
  intro s j hj hs;obtain ⟨b,hbb,hb⟩:=ih (s+(i >>> j) % 2) (j+1) (by omega) (by omega)
  refine ⟨b,hbb,fun v hv=>?_⟩
  apply ev_up;simp only [spec_l1Cur_tableOf.l1];refine ev_p (by omega) ?_
  rw [zz9 i j (by omega) (by omega)]
  refine Ev.bind (ev_c rfl) ?_
  rw [wN (m:=s+(i >>> j) % 2) (by push_cast;rfl) (by omega),wN (m:=j+1) (by push_cast;rfl) (by omega)]
  exact hb v hv
theorem zz18 {c:List Int} (hc:bytesOk c) (a:Nat) (ha:a≤4) (x6 n:Int) (d:Nat):∀ (i:Nat) (at_ m:Int) (xs:List Int),i+d=2 ^ a→0≤at_→at_+2 * d≤999000000→xs.length=i→(∀ x∈xs,0≤x∧x≤1) →
  ∃ ys a' m',Ev (fun k=>spec_l1Cur_tableOf.l0 k a x6 i c at_ m n xs) (n,ys,a',m')∧(at_≤a'∧a'≤at_+2 * d)∧ys.length=2 ^ a∧∀ x∈ys,0≤x∧x≤1:=by
 have h8:2 ^ a≤2 ^ 4:=Nat.pow_le_pow_right (by decide) ha
 induction d with
 | zero =>
  intro i at_ m xs hi h0 h1 hx hxb;refine ⟨xs,at_,m,?_,by omega,by omega,hxb⟩
  apply ev_up;simp only [spec_l1Cur_tableOf.l0];rw [u64w (by omega) (by omega),shl1 a (by omega)]
  exact ev_p (by omega) (ev_n (by omega) (Ev.now _))
 | succ d ih =>
  intro i at_ m xs hi h0 h1 hx hxb;by_cases c8:x6=8
  ·subst c8
   obtain ⟨b,hbb,hb⟩:=zz17 a i ha (by omega) c at_ m n xs (by omega) a 0 0 (by omega) (by omega)
   obtain ⟨ys,a',m',e,hr,hl,hy⟩:=ih (i+1) at_ m (xs ++ [b]) (by omega) h0 (by omega) (by simp;omega) (zz16 hxb hbb)
   refine ⟨ys,a',m',?_,by omega,hl,hy⟩
   apply ev_up;simp only [spec_l1Cur_tableOf.l0];rw [u64w (by omega) (by omega),shl1 a (by omega)]
   refine ev_p (by omega) (ev_p (by omega) (ev_p (by trivial) (hb _ ?_)))
   rw [wN (m:=i+1) (by push_cast;rfl) (by omega)]
   exact e
  ·obtain ⟨b,a1,m1,e1,ha1⟩:=one_ok hc at_ m x6 h0 (by omega)
   cases b with
   | true =>
    obtain ⟨ys,a',m',e,hr,hl,hy⟩:=ih (i+1) a1 m1 (xs ++ [1]) (by omega) (by omega) (by omega) (by simp;omega) (zz16 hxb (by omega))
    refine ⟨ys,a',m',?_,by omega,hl,hy⟩
    apply ev_up;simp only [spec_l1Cur_tableOf.l0];rw [u64w (by omega) (by omega),shl1 a (by omega),e1,wN (m:=i+1) (by push_cast;rfl) (by omega)]
    exact ev_p (by omega) (ev_p (by omega) (ev_n c8 (Ev.bind (ev_c rfl) (ev_p rfl (ev_p (by omega) e)))))
   | false =>
    obtain ⟨ys,a',m',e,hr,hl,hy⟩:=ih (i+1) a1 m1 (xs ++ [0]) (by omega) (by omega) (by omega) (by simp;omega) (zz16 hxb (by omega))
    refine ⟨ys,a',m',?_,by omega,hl,hy⟩
    apply ev_up;simp only [spec_l1Cur_tableOf.l0];rw [u64w (by omega) (by omega),shl1 a (by omega),e1,wN (m:=i+1) (by push_cast;rfl) (by omega)]
    exact ev_p (by omega) (ev_p (by omega) (ev_n c8 (Ev.bind (ev_c rfl) (ev_n (by simp) (ev_p (by omega) e)))))
theorem zz19 {c:List Int} (hc:bytesOk c) (a:Nat) (ha:a≤4) (at_ m:Int) (h0:0≤at_) (h1:at_≤900000000):∃ ys a' m',Ev (fun k=>spec_l1Cur_tableOf.f k c at_ m a) ((a:Int),ys,a',m')∧(at_≤a'∧a'≤at_+40)∧ys.length=2 ^ a∧∀ x∈ys,0≤x∧x≤1:=by
 have h8:2 ^ a≤2 ^ 4:=Nat.pow_le_pow_right (by decide) ha
 obtain ⟨x6,a1,m1,e1,ha1,_⟩:=among_ok hc at_ m [2,2,4,8] (by simp) h0 (by omega)
 obtain ⟨ys,a',m',e,hr,hl,hy⟩:=zz18 hc a ha x6 a (2 ^ a) 0 a1 m1 [] (by omega) (by omega) (by omega) rfl (by simp)
 refine ⟨ys,a',m',?_,by omega,hl,hy⟩
 unfold spec_l1Cur_tableOf.f;rw [e1];exact Ev.bind (ev_c rfl) e
theorem zz20 {c:List Int} (hc:bytesOk c) (at_ m:Int) (h0:0≤at_) (h1:at_≤800000000):∃ (a:Nat) (ys:List Int) (a' m':Int),Ev (fun k=>spec_l1Cur_table.f k c at_ m) ((a:Int),ys,a',m')∧(at_≤a'∧a'≤at_+50)∧ys.length=2 ^ a∧a≤4∧∀ x∈ys,0≤x∧x≤1:=by
 obtain ⟨r,a1,m1,e1,ha1,hr⟩:=among_ok hc at_ m [0,1,2,2,3,3,4] (by simp) h0 (by omega)
 obtain ⟨a,rfl,ha⟩:∃ a:Nat,r=a∧a≤4:=by
  have:0≤r∧r≤4:=by simp at hr;omega
  exact ⟨r.toNat,by omega,by omega⟩
 obtain ⟨ys,a',m',e,hr2,hl,hy⟩:=zz19 hc a ha a1 m1 (by omega) (by omega)
 refine ⟨a,ys,a',m',?_,by omega,hl,ha,hy⟩
 unfold spec_l1Cur_table.f;rw [e1];exact Ev.bind (ev_c rfl) (Ev.bind e (Ev.now _))
theorem l1In_eq (a b c:Int):spec_l1In.f a b c=some (decide (b≤a∧a≤c)):=by
 unfold spec_l1In.f;by_cases h:b≤a
 ·rw [if_pos h];simp [h]
 ·rw [if_neg h];simp [h]
def inB (a b:Int) (x:Int):Bool:=decide (a≤x∧x≤b)
theorem l1All_l0 (l:List Int) (a b:Int) (hl:l.length≤9223372036854775807) (r:List Int):∀ (p:List Int) (i:Int),i=p.length→l=p++r →
  Ev (fun k=>spec_l1All.l0 k a b l l.length i) (r.all (inB a b)):=by
 induction r with
 | nil =>
  intro p i hi e;have hlen:l.length=p.length:=by rw [e];simp
  apply ev_up;simp only [spec_l1All.l0];exact ev_n (by omega) (Ev.now _)
 | cons x r ih =>
  intro p i hi e;have hlen:l.length=p.length+r.length+1:=by rw [e];simp;omega
  have hx:rd l i=x:=by rw [e];exact rdA hi
  have ih':=ih (p ++ [x]) (i+1) (by simp;omega) (by rw [e];simp)
  apply ev_up;simp only [spec_l1All.l0];refine ev_p (by omega) (ev_p (by omega) (ev_p (by omega) ?_))
  rw [hx,l1In_eq];refine Ev.bind (ev_c rfl) ?_
  refine ev_ite (fun h=>?_) (fun h=>?_)
  ·rw [w64 (by omega) (by omega)]
   refine ev_eq ih' ?_
   rw [List.all_cons,show inB a b x=true from h,Bool.true_and]
  ·refine ev_eq (Ev.now _) ?_
   rw [List.all_cons,show inB a b x=false from decide_eq_false (fun hh=>h (decide_eq_true hh)),Bool.false_and]
theorem l1All_ev (l:List Int) (a b:Int) (hl:l.length≤9223372036854775807):Ev (fun k=>spec_l1All.f k l a b) (l.all (inB a b)):=by
 unfold spec_l1All.f;exact l1All_l0 l a b hl l [] 0 rfl rfl
theorem zz25 (a:Int):spec_ttInputs.f a=some (decide (0≤a∧a≤4)):=by
 unfold spec_ttInputs.f;rw [l1In_eq,Option.bind_some]
def tableM (n:Int) (l:List Int):Bool:=decide (0≤n∧n≤4∧l.length=2 ^ n.toNat) && l.all (inB 0 1)
theorem zz27 {n:Int} {l:List Int} (h:tableM n l=true):∃ a:Nat,n=a∧a≤4∧l.length=2 ^ a∧l.length≤16∧∀ x∈l,0≤x∧x≤1:=by
 unfold tableM at h;rw [Bool.and_eq_true,List.all_eq_true] at h;obtain ⟨h1,h2,h3⟩:=of_decide_eq_true h.1
 obtain ⟨a,rfl⟩:=nat_of h1
 simp only [Int.toNat_natCast] at h3;have h8:2 ^ a≤2 ^ 4:=Nat.pow_le_pow_right (by decide) (by omega)
 exact ⟨a,rfl,by omega,h3,by omega,fun x hx=>of_decide_eq_true (h.2 x hx)⟩
theorem zz28 (l:List Int) (hl:l.length≤9223372036854775807) (r:List Int):∀ (p:List Int) (i:Int),i=p.length→l=p++r →
  Ev (fun k=>impl_areBits.l0 k l l.length i) (r.all (inB 0 1)):=by
 induction r with
 | nil =>
  intro p i hi e;have hlen:l.length=p.length:=by rw [e];simp
  apply ev_up;simp only [impl_areBits.l0];exact ev_n (by omega) (Ev.now _)
 | cons x r ih =>
  intro p i hi e;have hlen:l.length=p.length+r.length+1:=by rw [e];simp;omega
  have hx:rd l i=x:=by rw [e];exact rdA hi
  have ih':=ih (p ++ [x]) (i+1) (by simp;omega) (by rw [e];simp)
  apply ev_up;simp only [impl_areBits.l0];refine ev_p (by omega) (ev_p (by omega) (ev_p (by omega) ?_))
  rw [hx,w64 (n:=i+1) (by omega) (by omega)]
  refine ev_ite (fun h=>?_) (fun h=>ev_ite (fun h2=>?_) (fun h2=>?_))
  ·rw [List.all_cons,show inB 0 1 x=true from decide_eq_true (by omega),Bool.true_and]
   exact ih'
  ·rw [List.all_cons,show inB 0 1 x=true from decide_eq_true (by omega),Bool.true_and]
   exact ih'
  ·rw [List.all_cons,show inB 0 1 x=false from decide_eq_false (by omega),Bool.false_and]
   exact Ev.now _
theorem zz29 (l:List Int) (hl:l.length≤9223372036854775807):Ev (fun k=>impl_areBits.f k l) (l.all (inB 0 1)):=by
 unfold impl_areBits.f;exact zz28 l hl l [] 0 rfl rfl
theorem zz30 (n:Int) (l:List Int) (hl:l.length≤9223372036854775807):Ev (fun k=>impl_IsTable.f k n l) (tableM n l):=by
 unfold impl_IsTable.f tableM;refine ev_ite (fun h1=>ev_ite (fun h2=>?_) (fun h2=>?_)) (fun h1=>?_)
 ·obtain ⟨a,rfl⟩:=nat_of h1
  rw [shl1 a (by omega)]
  refine ev_p (by omega) (ev_ite (fun h3=>?_) (fun h3=>?_))
  ·have h4:l.length=2 ^ a:=by exact_mod_cast h3
   rw [decide_eq_true ⟨h1,h2,by simpa using h4⟩,Bool.true_and]
   exact Ev.bind (zz29 l hl) (Ev.now _)
  ·rw [decide_eq_false (fun hh=>h3 (by have:=hh.2.2;simp only [Int.toNat_natCast] at this;exact_mod_cast this)),Bool.false_and]
   exact Ev.now _
 ·rw [decide_eq_false (fun hh=>h2 hh.2.1),Bool.false_and]
  exact Ev.now _
 ·rw [decide_eq_false (fun hh=>h1 hh.1),Bool.false_and]
  exact Ev.now _
theorem zz31 (n:Int) (l:List Int) (hl:l.length≤9223372036854775807):Ev (fun k=>spec_ttGood.f k n l) (tableM n l):=by
 unfold spec_ttGood.f tableM;rw [zz25];refine Ev.bind (ev_c rfl) (ev_ite (fun h=>?_) (fun h=>?_))
 ·have h':=of_decide_eq_true h
  obtain ⟨a,rfl⟩:=nat_of h'.1
  rw [u64w (by omega) (by omega),shl1 a (by omega)]
  refine ev_p (by omega) (ev_ite (fun h2=>?_) (fun h2=>?_))
  ·have h3:l.length=2 ^ a:=by exact_mod_cast h2
   rw [decide_eq_true ⟨h'.1,h'.2,by simpa using h3⟩,Bool.true_and]
   exact Ev.bind (l1All_ev l 0 1 hl) (Ev.now _)
  ·rw [decide_eq_false (fun hh=>h2 (by have:=hh.2.2;simp only [Int.toNat_natCast] at this;exact_mod_cast this)),Bool.false_and]
   exact Ev.now _
 ·rw [decide_eq_false (fun hh=>h (decide_eq_true ⟨hh.1,hh.2.1⟩)),Bool.false_and]
  exact Ev.now _
theorem zz32 (n:Int):(strOfNums [n]).size=1:=rfl
theorem zz33 (a b:List Int):strOfNums (a++b)=strOfNums a++strOfNums b:=by
 apply ByteArray.ext
 simp [strOfNums,ByteArray.data_append]
theorem zz34 (a:List Int):(strOfNums a).size=a.length:=by
 simp [strOfNums,ByteArray.size]
def numD (n:Int):List Int:=if n<10 then [48+n] else [48+n / 10,48+n % 10]
theorem l1Num_ev (n:Int) (h0:0≤n) (h1:n<100):Ev (fun k=>spec_l1Num.f k n) (strOfNums (numD n)):=by
 unfold numD;by_cases h:n<10
 ·rw [if_pos h]
  apply ev_up;simp only [spec_l1Num.f];refine ev_p h (ev_eq (Ev.now _) ?_)
  rw [w64 (by omega) (by omega)]
  congr 2
  omega
 ·rw [if_neg h]
  apply ev_up;simp only [spec_l1Num.f];have e1:Int.tdiv n 10=n / 10:=Int.tdiv_eq_ediv_of_nonneg h0
  have e2:Int.tmod n 10=n % 10:=Int.tmod_eq_emod_of_nonneg h0
  rw [e1,e2,w64 (n:=n / 10) (by omega) (by omega),w64 (n:=48+n % 10) (by omega) (by omega)]
  have hd:Ev (fun k=>spec_l1Num.f k (n / 10)) (strOfNums [48+n / 10]):=by
   apply ev_up;simp only [spec_l1Num.f];refine ev_p (by omega) (ev_eq (Ev.now _) ?_)
   rw [w64 (by omega) (by omega)]
   congr 2
   omega
  refine ev_n h (Ev.bind hd (Ev.bind (ev_c rfl) (ev_p (by rw [zz34,zz34];simp) (ev_eq (Ev.now _) ?_))))
  rw [← zz33,show (48+n % 10) % 256=48+n % 10 by omega]
  rfl
theorem zz37 (n:Int) (h0:0≤n) (h1:n<100):(⟨(Lib.decDigits n.toNat).toArray⟩:ByteArray)=strOfNums (numD n):=by
 obtain ⟨m,rfl⟩:=nat_of h0
 rw [Int.toNat_natCast];have hm:m<100:=by omega
 have:∀ m:Fin 100,(⟨(Lib.decDigits m.val).toArray⟩:ByteArray)=strOfNums (numD (m.val:Int)):=by decide +kernel
 exact this ⟨m,hm⟩
theorem itoa_num (n:Int) (h0:0≤n) (h1:n<100):strconv_Itoa.f n=some (strOfNums (numD n)):=by
 unfold strconv_Itoa.f;rw [if_pos ⟨h0,h1⟩,zz37 n h0 h1]
def textTb (a:Int) (l:List Int):List Int:=(48+a) :: 58 :: l.map (fun x=>48+x)
theorem zz40 {x:Int} (h:x<10):numD x=[48+x]:=if_pos h
theorem zz41 (l:List Int) (hl:l.length≤1000) (hb:∀ x∈l,0≤x∧x≤1) (r:List Int):∀ p,l=p++r→Ev (fun k=>impl_digitsOf.l0 k (p.map (fun x=>48+x)) l (l.length:Int) ((p.length:Nat):Int)) (strOfNums (l.map (fun x=>48+x))):=by
 induction r with
 | nil =>
  intro p e;have hlen:l.length=p.length:=by rw [e];simp
  rw [List.append_nil] at e;apply ev_up;simp only [impl_digitsOf.l0];refine ev_n (by omega) ?_
  rw [e];exact Ev.now _
 | cons x r ih =>
  intro p e;have hlen:l.length=p.length+r.length+1:=by rw [e];simp;omega
  have hr:rd l ((p.length:Nat):Int)=x:=by rw [e];exact rdA rfl
  have hx:=hb x (by rw [e];simp)
  have:=ih (p ++ [x]) (by rw [e];simp)
  apply ev_up;simp only [impl_digitsOf.l0];rw [hr,w64 (n:=48+x) (by omega) (by omega),show (48+x) % 256=48+x by omega,wN (n:=((p.length:Nat):Int)+1) (m:=p.length+1) (by omega) (by omega)]
  refine ev_p (by omega) (ev_p (by omega) (ev_p (by omega) (ev_p (by rw [List.length_map];omega) ?_)))
  rw [List.map_append,List.length_append,List.length_singleton] at this;exact this
theorem zz42 (l:List Int) (hl:l.length≤1000) (hb:∀ x∈l,0≤x∧x≤1):Ev (fun k=>impl_digitsOf.f k l) (strOfNums (l.map (fun x=>48+x))):=by
 unfold impl_digitsOf.f;exact zz41 l hl hb l [] rfl
def textTR (a:Int) (l:List Int):ByteArray×Bool:=if tableM a l=true then (strOfNums (textTb a l),true) else (⟨#[]⟩,false)
theorem lit58:(⟨#[58]⟩:ByteArray)=strOfNums [58]:=rfl
theorem zz45 (a:Int) (l:List Int) (hl:l.length≤9223372036854775807):Ev (fun k=>impl_TableText.f k a l) (textTR a l):=by
 unfold impl_TableText.f textTR;refine Ev.bind (zz30 a l hl) ?_
 by_cases h:tableM a l=true
 ·rw [if_pos h]
  obtain ⟨n,rfl,hn,h1,h2,h3⟩:=zz27 h
  refine ev_p h (Ev.bind (ev_c (itoa_num (n:Int) (by omega) (by omega))) ?_)
  rw [zz40 (by omega),lit58,← zz33,zz34,zz34]
  refine ev_p (by simp) (Ev.bind (zz42 l (by omega) h3) ?_)
  rw [← zz33,zz34];exact ev_p (by simp;omega) (Ev.now _)
 ·rw [if_neg h]
  exact ev_n h (Ev.now _)
theorem zz46 (l:List Int) (hl:l.length≤1000) (hb:∀ x∈l,0≤x∧x≤1) (r:List Int):∀ p xs,l=p++r→xs.length≤10+p.length→Ev (fun k=>spec_ttText.l0 k (strOfNums xs) l (l.length:Int) ((p.length:Nat):Int)) (strOfNums (xs++r.map (fun x=>48+x))):=by
 induction r with
 | nil =>
  intro p xs e _;have hlen:l.length=p.length:=by rw [e];simp
  apply ev_up;simp only [spec_ttText.l0];refine ev_n (by omega) (ev_eq (Ev.now _) ?_)
  simp
 | cons x r ih =>
  intro p xs e hxs;have hlen:l.length=p.length+r.length+1:=by rw [e];simp;omega
  have hr:rd l ((p.length:Nat):Int)=x:=by rw [e];exact rdA rfl
  have hx:=hb x (by rw [e];simp)
  have hn:=l1Num_ev x hx.1 (by omega)
  rw [zz40 (by omega)] at hn
  have:=ih (p ++ [x]) (xs ++ [48+x]) (by rw [e];simp) (by simp;omega)
  apply ev_up;simp only [spec_ttText.l0];rw [hr,wN (n:=((p.length:Nat):Int)+1) (m:=p.length+1) (by omega) (by omega)]
  refine ev_p (by omega) (ev_p (by omega) (ev_p (by omega) (Ev.bind hn ?_)))
  rw [zz34,zz34,← zz33];refine ev_p (by simp;omega) ?_
  rw [List.length_append,List.length_singleton,List.append_assoc] at this;exact this
theorem zz47 (a:Int) (l:List Int) (h:tableM a l=true):Ev (fun k=>spec_ttText.f k a l) (strOfNums (textTb a l)):=by
 obtain ⟨n,rfl,hn,h1,h2,h3⟩:=zz27 h
 have hx:=l1Num_ev (n:Int) (by omega) (by omega)
 rw [zz40 (by omega)] at hx
 unfold spec_ttText.f;refine Ev.bind hx ?_
 rw [lit58,← zz33,zz34];exact ev_p (by simp) (zz46 l (by omega) h3 l [] _ rfl (by simp))
theorem zz48 (a:Int) (l:List Int) (hl:l.length≤9223372036854775807):Ev (fun k=>spec_TableText.f k a l) (textTR a l):=by
 unfold spec_TableText.f textTR;refine Ev.bind (zz31 a l hl) ?_
 by_cases h:tableM a l=true
 ·rw [if_pos h]
  exact ev_p h (Ev.bind (zz47 a l h) (Ev.now _))
 ·rw [if_neg h]
  exact ev_n h (Ev.now _)
def notR (a:Int) (l:List Int):Int×List Int×Bool:=if tableM a l=true then (a,l.map (fun x=>1 - x),true) else (0,[],false)
def dualR (a:Int) (l:List Int):Int×List Int×Bool:=if tableM a l=true then (a,l.reverse.map (fun x=>1 - x),true) else (0,[],false)
theorem zz51 (a:Int) (l:List Int) (hl:l.length≤1000) (hb:∀ x∈l,0≤x∧x≤1) (r:List Int):∀ p,l=p++r→Ev (fun k=>impl_NotTable.l0 k l (l.length:Int) ((p.length:Nat):Int) a (p.map (fun x=>1 - x))) (a,l.map (fun x=>1 - x),true):=by
 induction r with
 | nil =>
  intro p e;have hlen:l.length=p.length:=by rw [e];simp
  rw [List.append_nil] at e;apply ev_up;simp only [impl_NotTable.l0];refine ev_n (by omega) ?_
  rw [e];exact Ev.now _
 | cons x r ih =>
  intro p e;have hlen:l.length=p.length+r.length+1:=by rw [e];simp;omega
  have hr:rd l ((p.length:Nat):Int)=x:=by rw [e];exact rdA rfl
  have hx:=hb x (by rw [e];simp)
  have:=ih (p ++ [x]) (by rw [e];simp)
  apply ev_up;simp only [impl_NotTable.l0];rw [hr,w64 (n:=1 - x) (by omega) (by omega),wN (n:=((p.length:Nat):Int)+1) (m:=p.length+1) (by omega) (by omega)]
  refine ev_p (by omega) (ev_p (by omega) (ev_p (by omega) (ev_p (by rw [List.length_map];omega) ?_)))
  rw [List.map_append,List.length_append,List.length_singleton] at this;exact this
theorem zz52 (a:Int) (l:List Int) (hl:l.length≤1000) (hb:∀ x∈l,0≤x∧x≤1) (r:List Int):∀ p,l=p++r→Ev (fun k=>spec_NotTable.l0 k l (l.length:Int) ((p.length:Nat):Int) a (p.map (fun x=>1 - x))) (a,l.map (fun x=>1 - x),true):=by
 induction r with
 | nil =>
  intro p e;have hlen:l.length=p.length:=by rw [e];simp
  rw [List.append_nil] at e;apply ev_up;simp only [spec_NotTable.l0];refine ev_n (by omega) ?_
  rw [e];exact Ev.now _
 | cons x r ih =>
  intro p e;have hlen:l.length=p.length+r.length+1:=by rw [e];simp;omega
  have hr:rd l ((p.length:Nat):Int)=x:=by rw [e];exact rdA rfl
  have hx:=hb x (by rw [e];simp)
  have:=ih (p ++ [x]) (by rw [e];simp)
  apply ev_up;simp only [spec_NotTable.l0];rw [hr,w64 (n:=1 - x) (by omega) (by omega),wN (n:=((p.length:Nat):Int)+1) (m:=p.length+1) (by omega) (by omega)]
  refine ev_p (by omega) (ev_p (by omega) (ev_p (by omega) (ev_p (by rw [List.length_map];omega) ?_)))
  rw [List.map_append,List.length_append,List.length_singleton] at this;exact this
theorem zz53 (a:Int) (l:List Int) (hl:l.length≤9223372036854775807):Ev (fun k=>impl_NotTable.f k a l) (notR a l):=by
 unfold impl_NotTable.f notR;refine Ev.bind (zz30 a l hl) ?_
 by_cases h:tableM a l=true
 ·rw [if_pos h]
  obtain ⟨n,rfl,hn,h1,h2,h3⟩:=zz27 h
  exact ev_p h (zz51 n l (by omega) h3 l [] rfl)
 ·rw [if_neg h]
  exact ev_n h (Ev.now _)
theorem zz54 (a:Int) (l:List Int) (hl:l.length≤9223372036854775807):Ev (fun k=>spec_NotTable.f k a l) (notR a l):=by
 unfold spec_NotTable.f notR;refine Ev.bind (zz31 a l hl) ?_
 by_cases h:tableM a l=true
 ·rw [if_pos h]
  obtain ⟨n,rfl,hn,h1,h2,h3⟩:=zz27 h
  exact ev_p h (zz52 n l (by omega) h3 l [] rfl)
 ·rw [if_neg h]
  exact ev_n h (Ev.now _)
theorem rd_rev {l p r:List Int} {x:Int} (e:l.reverse=p++x :: r):rd l ((r.length:Nat):Int)=x:=by
 have:l=r.reverse++x :: p.reverse:=by
  have:=congrArg List.reverse e
  simpa using this
 rw [this];exact rdA (by simp)
theorem zz56 (a:Int) (l:List Int) (hl:l.length≤1000) (hb:∀ x∈l,0≤x∧x≤1) (r:List Int):∀ p z,l.reverse=p++r→z.length=r.length→Ev (fun k=>impl_DualTable.l0 k (l.length:Int) ((p.length:Nat):Int) a l a (p.map (fun x=>1 - x)++z)) (a,l.reverse.map (fun x=>1 - x),true):=by
 induction r with
 | nil =>
  intro p z e hz;obtain rfl:z=[]:=List.length_eq_zero_iff.1 hz
  have hlen:l.length=p.length:=by rw [← List.length_reverse,e];simp
  rw [List.append_nil] at e;apply ev_up;simp only [impl_DualTable.l0];refine ev_n (by omega) ?_
  rw [e,List.append_nil];exact Ev.now _
 | cons x r ih =>
  intro p z e hz;match z,hz with
  | y :: z,hz =>
  have hlen:l.length=p.length+r.length+1:=by rw [← List.length_reverse,e];simp;omega
  have hr:=rd_rev e
  have hx:=hb x (by rw [← List.mem_reverse,e];simp)
  have:=ih (p ++ [x]) z (by rw [e];simp) (by simpa using hz)
  apply ev_up;simp only [impl_DualTable.l0];rw [w64 (n:=(l.length:Int) - 1) (by omega) (by omega),wN (n:=(l.length:Int) - 1 - ((p.length:Nat):Int)) (m:=r.length) (by omega) (by omega),hr,w64 (n:=1 - x) (by omega) (by omega),wN (n:=((p.length:Nat):Int)+1) (m:=p.length+1) (by omega) (by omega),setA (by simp)]
  refine ev_p (by omega) (ev_p (by omega) (ev_p (by omega) (ev_p (by omega) (ev_p (by simp;omega) ?_))))
  rw [List.map_append,List.length_append,List.length_singleton] at this;exact this
theorem zz57 (a:Int) (l:List Int) (hl:l.length≤1000) (hb:∀ x∈l,0≤x∧x≤1) (r:List Int):∀ p,l.reverse=p++r→Ev (fun k=>spec_DualTable.l0 k ((r.length:Int) - 1) a l a (p.map (fun x=>1 - x))) (a,l.reverse.map (fun x=>1 - x),true):=by
 induction r with
 | nil =>
  intro p e;rw [List.append_nil] at e;apply ev_up;simp only [spec_DualTable.l0];refine ev_n (by simp) ?_
  rw [e];exact Ev.now _
 | cons x r ih =>
  intro p e;have hlen:l.length=p.length+r.length+1:=by rw [← List.length_reverse,e];simp;omega
  have hr:=rd_rev e
  have hx:=hb x (by rw [← List.mem_reverse,e];simp)
  have:=ih (p ++ [x]) (by rw [e];simp)
  apply ev_up;simp only [spec_DualTable.l0];rw [List.length_cons,show (((r.length+1:Nat):Int) - 1)=((r.length:Nat):Int) by omega,hr,w64 (n:=1 - x) (by omega) (by omega),w64 (n:=((r.length:Nat):Int) - 1) (by omega) (by omega)]
  refine ev_p (by omega) (ev_p (by omega) (ev_p (by omega) (ev_p (by rw [List.length_map];omega) ?_)))
  rw [List.map_append] at this;exact this
theorem zz58 (a:Int) (l:List Int) (hl:l.length≤9223372036854775807):Ev (fun k=>impl_DualTable.f k a l) (dualR a l):=by
 unfold impl_DualTable.f dualR;refine Ev.bind (zz30 a l hl) ?_
 by_cases h:tableM a l=true
 ·rw [if_pos h]
  obtain ⟨n,rfl,hn,h1,h2,h3⟩:=zz27 h
  refine ev_p h (ev_p (by omega) (ev_p (by omega) (Ev.bind (ev_c rfl) ?_)))
  rw [List.length_replicate,Int.toNat_natCast];exact zz56 n l (by omega) h3 l.reverse [] _ rfl (by simp)
 ·rw [if_neg h]
  exact ev_n h (Ev.now _)
theorem zz59 (a:Int) (l:List Int) (hl:l.length≤9223372036854775807):Ev (fun k=>spec_DualTable.f k a l) (dualR a l):=by
 unfold spec_DualTable.f dualR;refine Ev.bind (zz31 a l hl) ?_
 by_cases h:tableM a l=true
 ·rw [if_pos h]
  obtain ⟨n,rfl,hn,h1,h2,h3⟩:=zz27 h
  refine ev_p h ?_
  rw [w64 (by omega) (by omega)]
  have:=zz57 n l (by omega) h3 l.reverse [] rfl
  rw [List.length_reverse] at this;exact this
 ·rw [if_neg h]
  exact ev_n h (Ev.now _)
def mkB (l:List UInt8):ByteArray:=⟨l.toArray⟩
theorem mkB_size (l:List UInt8):(mkB l).size=l.length:=by simp [mkB,ByteArray.size]
theorem mkB_data (l:List UInt8):(mkB l).data.toList=l:=by simp [mkB]
theorem zz63 (l:List UInt8):(mkB l).toList=l:=by rw [Lib.toList_data,mkB_data]
theorem mkB_self (a:ByteArray):mkB a.data.toList=a:=by
 apply Go.WideShapes.bytes_inj
 rw [mkB_data]
theorem mkB_bt {p r:List UInt8} {x:UInt8} {i:Int} (hi:i=p.length):bt (mkB (p++x :: r)) i=(x.toNat:Int):=by
 subst hi;unfold bt;rw [dif_pos (by rw [mkB_size];simp)]
 simp [mkB,ByteArray.getElem_eq_getElem_data]
theorem ext_list (s:ByteArray) (a b:Nat):(s.extract a b).data.toList=(s.data.toList.take b).drop a:=by
 simp [ByteArray.data_extract,Array.toList_extract,List.extract_eq_take_drop,List.drop_take]
theorem zz67 {p m r:List UInt8} {a b:Nat} (ha:a=p.length) (hb:b=p.length+m.length):(mkB (p++(m++r))).extract a b=mkB m:=by
 apply Go.WideShapes.bytes_inj
 rw [ext_list,mkB_data,mkB_data,ha,hb,← List.append_assoc,List.take_left' (by simp),List.drop_left' rfl]
def splitA (c:UInt8) (cur:List UInt8):List UInt8→List (List UInt8)
 | [] => [cur]
 | x :: r=>if x=c then cur :: splitA c [] r else splitA c (cur ++ [x]) r
theorem zz69 (c:UInt8) (b:List UInt8) (a:List UInt8):∀ cur,c∉a→splitA c cur (a++c :: b)=(cur++a) :: splitA c [] b:=by
 induction a with
 | nil=>intro cur _;simp [splitA]
 | cons x a ih =>
  intro cur h;rw [List.mem_cons,not_or] at h;rw [List.cons_append,splitA,if_neg (fun e=>h.1 e.symm),ih _ h.2]
  simp
theorem zz70 (c:UInt8) (a:List UInt8):∀ cur,c∉a→splitA c cur a=[cur++a]:=by
 induction a with
 | nil=>intro cur _;simp [splitA]
 | cons x a ih =>
  intro cur h;rw [List.mem_cons,not_or] at h;rw [splitA,if_neg (fun e=>h.1 e.symm),ih _ h.2]
  simp
theorem zz71 (c:UInt8) (r:List UInt8):∀ cur,∀ x∈splitA c cur r,x.length≤cur.length+r.length:=by
 induction r with
 | nil=>intro cur x hx;simp [splitA] at hx;rw [hx];simp
 | cons y r ih =>
  intro cur x hx;rw [splitA] at hx;split at hx
  ·rcases List.mem_cons.1 hx with e | e
   ·rw [e];omega
   ·have:=ih [] x e
    simp at this ⊢
    omega
  ·have:=ih _ x hx
   simp at this ⊢
   omega
theorem zz72 (bs:List UInt8) (c:UInt8) (ci:Int) (hci:ci=(c.toNat:Int)) (hb:bs.length≤1048576) (r:List UInt8):∀ (p cur:List UInt8) (acc:List ByteArray),bs=p++(cur++r)→acc.length≤p.length →
  Ev (fun k=>spec_l1Split.l0 k (mkB bs) ci acc (p.length:Int) ((p.length+cur.length:Nat):Int)) (acc++(splitA c cur r).map mkB):=by
 induction r with
 | nil =>
  intro p cur acc e ha;have hlen:bs.length=p.length+cur.length:=by rw [e];simp
  apply ev_up;simp only [spec_l1Split.l0];rw [mkB_size];refine ev_n (by omega) (ev_p (by omega) (ev_p (by omega) (ev_p (by omega) (ev_eq (Ev.now _) ?_))))
  have:(mkB bs).extract (p.length:Int).toNat (bs.length)=mkB cur:=by
   rw [e];exact zz67 (by simp) (by simp)
  rw [this,splitA];rfl
 | cons x r ih =>
  intro p cur acc e ha;have hlen:bs.length=p.length+cur.length+r.length+1:=by rw [e];simp;omega
  have hbt:bt (mkB bs) ((p.length+cur.length:Nat):Int)=(x.toNat:Int):=by
   rw [e,← List.append_assoc];exact mkB_bt (by simp)
  apply ev_up;simp only [spec_l1Split.l0];rw [mkB_size,hbt,hci,wN (n:=((p.length+cur.length:Nat):Int)+1) (m:=p.length+cur.length+1) (by omega) (by omega)]
  refine ev_p (by omega) (ev_p (by omega) (ev_ite (fun h=>?_) (fun h=>?_)))
  ·have hx:x=c:=UInt8.toNat_inj.1 (by omega)
   refine ev_p (by omega) (ev_p (by omega) (ev_p (by omega) (ev_p (by omega) ?_)))
   have h2:(mkB bs).extract (p.length:Int).toNat (((p.length+cur.length:Nat):Int)).toNat=mkB cur:=by
    rw [e];exact zz67 (by simp) (by omega)
   have:=ih (p++(cur ++ [x])) [] (acc ++ [mkB cur]) (by rw [e];simp) (by simp;omega)
   rw [h2,← hci];rw [splitA,if_pos hx];simp only [List.length_append,List.length_singleton,List.length_nil,Nat.add_zero,← Nat.add_assoc,List.append_assoc] at this;exact this
  ·have hx:x≠c:=fun hh=>h (by rw [hh])
   have:=ih p (cur ++ [x]) acc (by rw [e];simp) ha
   rw [splitA,if_neg hx,← hci];simp only [List.length_append,List.length_singleton,← Nat.add_assoc] at this;exact this
theorem zz73 (bs:List UInt8) (c:UInt8) (ci:Int) (hci:ci=(c.toNat:Int)) (hb:bs.length≤1048576):Ev (fun k=>spec_l1Split.f k (mkB bs) ci) ((splitA c [] bs).map mkB):=by
 unfold spec_l1Split.f;exact zz72 bs c ci hci hb bs [] [] [] rfl (by simp)
def dV:List UInt8→Nat→Option Nat
 | [],v=>some v
 | c :: r,v=>if c.toNat<48∨57<c.toNat then none else dV r (10 * v+(c.toNat - 48))
def numL (mx:Nat) (w:List UInt8):Option Nat:=if 1≤w.length∧w.length≤mx∧¬ (w.head?=some 48∧1<w.length) then dV w 0 else none
def rv:Option Nat→Int
 | some n=>n
 | none => -1
theorem zz77 (w:List UInt8) (hl:w.length≤18) (r:List UInt8):∀ (p:List UInt8) (v:Nat),w=p++r→v<10 ^ p.length→Ev (fun k=>spec_l1Read.l0 k (mkB w) (v:Int) (p.length:Int)) (rv (dV r v)):=by
 induction r with
 | nil =>
  intro p v e hv;have hlen:w.length=p.length:=by rw [e];simp
  apply ev_up;simp only [spec_l1Read.l0];rw [mkB_size];exact ev_n (by omega) (Ev.now _)
 | cons x r ih =>
  intro p v e hv;have hlen:w.length=p.length+r.length+1:=by rw [e];simp;omega
  have hbt:bt (mkB w) (p.length:Int)=(x.toNat:Int):=by rw [e];exact mkB_bt rfl
  have hp:10 ^ (p.length+1)≤10 ^ 18:=Nat.pow_le_pow_right (by omega) (by omega)
  have hs:10 ^ (p.length+1)=10 ^ p.length * 10:=Nat.pow_succ ..
  apply ev_up;simp only [spec_l1Read.l0];rw [mkB_size,hbt,dV];refine ev_p (by omega) (ev_p (by omega) (ev_ite (fun h=>?_) (fun h=>ev_ite (fun h2=>?_) (fun h2=>?_))))
  ·rw [if_pos (by omega)]
   exact Ev.now _
  ·rw [if_pos (by omega)]
   exact Ev.now _
  ·rw [if_neg (by omega),w64 (n:=10 * (v:Int)) (by omega) (by omega),wN (n:=10 * (v:Int)+((x.toNat:Int) - 48) % 256) (m:=10 * v+(x.toNat - 48)) (by omega) (by omega),wN (n:=(p.length:Int)+1) (m:=p.length+1) (by omega) (by omega)]
   have:=ih (p ++ [x]) (10 * v+(x.toNat - 48)) (by rw [e];simp) (by rw [List.length_append,List.length_singleton];omega)
   rw [List.length_append,List.length_singleton] at this;exact this
theorem l1In_q (a b c:Int):spec_l1In.f a b c=some (decide (b≤a∧a≤c)):=by
 unfold spec_l1In.f;split
 ·congr 1
  exact decide_eq_decide.2 ⟨fun h=>⟨by omega,h⟩,fun h=>h.2⟩
 ·rw [decide_eq_false (by omega)]
theorem zz79 (w:List UInt8):Ev (fun k=>spec_l1Read.f k (mkB w)) (rv (numL 6 w)):=by
 unfold spec_l1Read.f;rw [l1In_q,mkB_size];refine Ev.bind (ev_c rfl) (ev_ite (fun h=>?_) (fun h=>?_))
 ·have h':=of_decide_eq_true h
  match w with
  | []=>simp at h'
  | x :: r =>
   have hbt:bt (mkB (x :: r)) 0=(x.toNat:Int):=mkB_bt (p:=[]) rfl
   rw [hbt];have go:numL 6 (x :: r)=dV (x :: r) 0→Ev (fun k=>spec_l1Read.j0 k (mkB (x :: r)) false) (rv (numL 6 (x :: r))):=fun e=>by
    rw [e];apply ev_up;simp only [spec_l1Read.j0];exact ev_n (by simp) (zz77 (x :: r) (by omega) (x :: r) [] 0 rfl (by simp))
   refine ev_p (by omega) (ev_ite (fun h2=>?_) (fun h2=>?_))
   ·have hx:x=48:=UInt8.toNat_inj.1 (show x.toNat=48 by omega)
    by_cases h3:(((x :: r).length:Int)>1)
    ·rw [decide_eq_true h3]
     have:numL 6 (x :: r)=none:=by
      unfold numL;rw [if_neg];rintro ⟨_,_,hn⟩
      exact hn ⟨by rw [hx];rfl,by omega⟩
     rw [this];apply ev_up;simp only [spec_l1Read.j0];exact ev_p (by trivial) (Ev.now _)
    ·rw [decide_eq_false h3]
     refine go ?_
     unfold numL;rw [if_pos ⟨by omega,by omega,fun hh=>h3 (by omega)⟩]
   ·refine go ?_
    have hne:¬ ((x :: r).head?=some 48∧1<(x :: r).length):=by
     rintro ⟨hh,_⟩
     rw [List.head?_cons] at hh;injection hh with hh
     exact h2 (by rw [hh];decide)
    unfold numL;rw [if_pos ⟨by omega,by omega,hne⟩]
 ·have:numL 6 w=none:=by
   unfold numL;rw [if_neg];rintro ⟨h1,h2,_⟩
   exact h (decide_eq_true (by omega))
  rw [this];apply ev_up;simp only [spec_l1Read.j0];exact ev_p (by trivial) (Ev.now _)
def u8 (xs:List Int):List UInt8:=xs.map (fun n=>UInt8.ofNat n.toNat)
theorem u8_cons (a:Int) (b:List Int):u8 (a :: b)=UInt8.ofNat a.toNat :: u8 b:=rfl
theorem u8_text (xs:List Int):strOfNums xs=mkB (u8 xs):=rfl
theorem u8_dig {c:UInt8} {n:Int} (h:n=c.toNat):UInt8.ofNat n.toNat=c:=by
 apply UInt8.toNat_inj.1
 have:=c.toNat_lt
 rw [h];simp
theorem zz84 (n:Int) (h0:0≤n) (h1:n<100):numL 6 (u8 (numD n))=some n.toNat:=by
 obtain ⟨m,rfl⟩:=nat_of h0
 have:∀ m:Fin 100,numL 6 (u8 (numD (m.val:Int)))=some m.val:=by decide +kernel
 exact this ⟨m,by omega⟩
def gB (c:UInt8):Int:=(c.toNat:Int) - 48
def rejT:Int×List Int×Bool:=(0,[],false)
theorem zz87 (bs:List UInt8) (hb:bs.length≤1000) (a:Int) (r:List UInt8):∀ (h q:List UInt8),bs=h++(q++r)→h.length=2→Ev (fun k=>impl_ParseTable.l0 k (mkB bs) ((2+q.length:Nat):Int) a (q.map gB)) (if tableM a ((q++r).map gB)=true then (a,(q++r).map gB,true) else rejT):=by
 induction r with
 | nil =>
  intro h q e hh;have hlen:bs.length=2+q.length:=by rw [e];simp;omega
  apply ev_up;simp only [impl_ParseTable.l0];rw [mkB_size,List.append_nil];refine ev_n (by omega) (Ev.bind (zz30 a (q.map gB) (by rw [List.length_map];omega)) ?_)
  by_cases c:tableM a (q.map gB)=true
  ·rw [if_pos c]
   first | exact ev_p c (Ev.now _)|(rw [if_pos c];exact Ev.now _)
  ·rw [if_neg c]
   first | exact ev_n c (Ev.now _)|(rw [if_neg c];exact Ev.now _)
 | cons x r ih =>
  intro h q e hh;have hlen:bs.length=2+q.length+r.length+1:=by rw [e];simp;omega
  have hbt:bt (mkB bs) ((2+q.length:Nat):Int)=(x.toNat:Int):=by
   rw [e,← List.append_assoc];exact mkB_bt (by simp;omega)
  have hx:=x.toNat_lt
  have:=ih h (q ++ [x]) (by rw [e];simp) hh
  apply ev_up;simp only [impl_ParseTable.l0];rw [mkB_size,hbt,w64 (n:=(x.toNat:Int)) (by omega) (by omega),w64 (n:=(x.toNat:Int) - 48) (by omega) (by omega),wN (n:=((2+q.length:Nat):Int)+1) (m:=2+q.length+1) (by omega) (by omega)]
  refine ev_p (by omega) (ev_p (by omega) (ev_p (by rw [List.length_map];omega) ?_))
  rw [List.map_append,List.length_append,List.length_singleton,List.append_assoc,← Nat.add_assoc] at this;exact this
def parseI:List UInt8→Int×List Int×Bool
 | b0 :: b1 :: c :: r=>if 48≤b0.toNat∧b0.toNat≤52∧b1=58 then (if tableM (gB b0) ((c :: r).map gB)=true then (gB b0,(c :: r).map gB,true) else rejT) else rejT
 | _=>rejT
theorem zz89 (bs:List UInt8) (hb:bs.length≤1000):Ev (fun k=>impl_ParseTable.f k (mkB bs)) (parseI bs):=by
 have jt:Ev (fun k=>impl_ParseTable.j0 k (mkB bs) true) rejT:=by
  apply ev_up;simp only [impl_ParseTable.j0];exact ev_p (by trivial) (Ev.now _)
 unfold impl_ParseTable.f;rw [mkB_size];match bs,hb,jt with
 | [],_,jt=>exact ev_p (by simp) jt
 | [_],_,jt=>exact ev_p (by simp) jt
 | [_,_],_,jt=>exact ev_p (by simp) jt
 | b0 :: b1 :: c :: r,hb,jt =>
  have e0:bt (mkB (b0 :: b1 :: c :: r)) 0=(b0.toNat:Int):=mkB_bt (p:=[]) rfl
  have e1:bt (mkB (b0 :: b1 :: c :: r)) 1=(b1.toNat:Int):=mkB_bt (p:=[b0]) rfl
  rw [e0,e1,parseI];refine ev_n (by simp;omega) (ev_p (by simp;omega) (ev_ite (fun c1=>?_) (fun c1=>ev_ite (fun c2=>?_) (fun c2=>ev_p (by simp;omega) ?_))))
  ·rw [if_neg (by omega)]
   exact jt
  ·rw [if_neg (by omega)]
   exact jt
  ·by_cases c3:b1=58
   ·subst c3
    rw [if_pos ⟨by omega,by omega,rfl⟩,show (((58:UInt8).toNat:Int) != 58)=false from rfl]
    apply ev_up;simp only [impl_ParseTable.j0];rw [mkB_size,e0,show ((b0.toNat:Int) - 48) % 256=gB b0 by unfold gB;omega]
    refine ev_n (by simp) (ev_p (by simp;omega) ?_)
    exact zz87 (b0 :: 58 :: c :: r) hb (gB b0) (c :: r) [b0,58] [] rfl rfl
   ·rw [if_neg (fun h=>c3 h.2.2)]
    have:(((b1.toNat:Nat):Int) != 58)=true:=by
     rw [bne_iff_ne];intro h;exact c3 (UInt8.toNat_inj.1 (show b1.toNat=58 by omega))
    rw [this];exact jt
def parseS (bs:List UInt8):Int×List Int×Bool:=match splitA 58 [] bs with
 | [w0,w1]=>if w1.length≤16 then (if tableM (rv (numL 6 w0)) (w1.map gB)=true then (if u8 (textTb (rv (numL 6 w0)) (w1.map gB))=bs then (rv (numL 6 w0),w1.map gB,true) else rejT) else rejT) else rejT
 | _=>rejT
theorem zz91 (bs w0 w1:List UInt8) (hb:w1.length≤1000) (a:Int) (r:List UInt8):∀ (q:List UInt8),w1=q++r→Ev (fun k=>spec_ttParse.l0 k (mkB bs) ([w0,w1].map mkB) ((q.length:Nat):Int) a (q.map gB)) (if tableM a (w1.map gB)=true then (if u8 (textTb a (w1.map gB))=bs then (a,w1.map gB,true) else rejT) else rejT):=by
 have e1:rdOf ByteArray.empty ([w0,w1].map mkB) 1=mkB w1:=rfl
 induction r with
 | nil =>
  intro q e;rw [List.append_nil] at e;subst e;apply ev_up;simp only [spec_ttParse.l0];rw [e1,mkB_size];refine ev_p (by simp) (ev_n (by omega) (Ev.bind (zz31 a (w1.map gB) (by rw [List.length_map];omega)) ?_))
  by_cases c:tableM a (w1.map gB)=true
  ·rw [if_pos c]
   have ht:Ev (fun k=>(spec_ttText.f k a (w1.map gB)).bind fun t395=>(if t395.toList=(mkB bs).toList then (some (a,w1.map gB,true)) else (some (0,([]:List Int),false)))) (if u8 (textTb a (w1.map gB))=bs then (a,w1.map gB,true) else rejT):=by
    refine Ev.bind (zz47 a _ c) ?_
    rw [u8_text,zz63,zz63];by_cases c2:u8 (textTb a (w1.map gB))=bs
    ·rw [if_pos c2]
     first | exact ev_p c2 (Ev.now _)|(rw [if_pos c2];exact Ev.now _)
    ·rw [if_neg c2]
     first | exact ev_n c2 (Ev.now _)|(rw [if_neg c2];exact Ev.now _)
   first | exact ev_p c ht | exact ht
  ·rw [if_neg c]
   first | exact ev_n c (Ev.now _)|(rw [if_neg c];exact Ev.now _)
 | cons x r ih =>
  intro q e;have hlen:w1.length=q.length+r.length+1:=by rw [e];simp;omega
  have hbt:bt (mkB w1) ((q.length:Nat):Int)=(x.toNat:Int):=by
   rw [e];exact mkB_bt rfl
  have hx:=x.toNat_lt
  have:=ih (q ++ [x]) (by rw [e];simp)
  apply ev_up;simp only [spec_ttParse.l0];rw [e1,mkB_size,hbt,w64 (n:=(x.toNat:Int)) (by omega) (by omega),w64 (n:=(x.toNat:Int) - 48) (by omega) (by omega),wN (n:=((q.length:Nat):Int)+1) (m:=q.length+1) (by omega) (by omega)]
  refine ev_p (by simp) (ev_p (by omega) (ev_p (by omega) (ev_p (by rw [List.length_map];omega) ?_)))
  rw [List.map_append,List.length_append,List.length_singleton] at this;exact this
theorem zz92 (bs:List UInt8) (hb:bs.length≤1000):Ev (fun k=>spec_ParseTable.f k (mkB bs)) (parseS bs):=by
 have jt:∀ x4,Ev (fun k=>spec_ttParse.j0 k (mkB bs) x4 true) rejT:=fun x4=>by
  apply ev_up;simp only [spec_ttParse.j0];exact ev_p (by trivial) (Ev.now _)
 have hs:=zz73 bs 58 58 rfl (by omega)
 have hbd:=zz71 58 bs []
 have key:Ev (fun k=>spec_ttParse.f k (mkB bs)) (parseS bs):=by
  unfold spec_ttParse.f parseS;match h:splitA 58 [] bs with
  | [w0,w1] =>
   rw [h] at hs hbd;have hw:=hbd w1 (by simp)
   refine Ev.bind hs (ev_p rfl (ev_p (by simp) ?_))
   show Ev (fun k=>spec_ttParse.j0 k (mkB bs) ([w0,w1].map mkB) (decide (((mkB w1).size:Int)>16))) (if w1.length≤16 then (if tableM (rv (numL 6 w0)) (w1.map gB)=true then (if u8 (textTb (rv (numL 6 w0)) (w1.map gB))=bs then (rv (numL 6 w0),w1.map gB,true) else rejT) else rejT) else rejT)
   rw [mkB_size];by_cases c:w1.length≤16
   ·rw [if_pos c,decide_eq_false (by omega)]
    apply ev_up;simp only [spec_ttParse.j0];exact ev_n (by simp) (ev_p (by simp) (Ev.bind (zz79 w0) (zz91 bs w0 w1 (by omega) _ w1 [] rfl)))
   ·rw [if_neg c,decide_eq_true (by omega)]
    exact jt _
  | []=>rw [h] at hs;exact Ev.bind hs (ev_n (by simp) (jt _))
  | [_]=>rw [h] at hs;exact Ev.bind hs (ev_n (by simp) (jt _))
  | _ :: _ :: _ :: _=>rw [h] at hs;exact Ev.bind hs (ev_n (by simp;omega) (jt _))
 unfold spec_ParseTable.f;exact Ev.bind key (Ev.now _)
theorem gB_dig {x:Int} (h0:0≤x) (h1:x≤9):gB (UInt8.ofNat (48+x).toNat)=x:=by
 obtain ⟨n,rfl⟩:=nat_of h0
 have:∀ m:Fin 10,gB (UInt8.ofNat (48+(m.val:Int)).toNat)=(m.val:Int):=by decide +kernel
 exact this ⟨n,by omega⟩
theorem gB_digs (l:List Int) (hb:∀ x∈l,0≤x∧x≤1):(u8 (l.map (fun x=>48+x))).map gB=l∧58∉u8 (l.map (fun x=>48+x)):=by
 induction l with
 | nil=>exact ⟨rfl,by simp [u8]⟩
 | cons x r ih =>
  have hi:=ih (fun y hy=>hb y (List.mem_cons_of_mem _ hy))
  have hx:=hb x List.mem_cons_self
  rw [List.map_cons,u8_cons,List.map_cons,hi.1,gB_dig hx.1 (by omega)]
  refine ⟨rfl,?_⟩
  rw [List.mem_cons,not_or];refine ⟨?_,hi.2⟩
  obtain h | h:x=0∨x=1:=by omega
  all_goals (subst h;decide)
theorem u8_back (l:List UInt8):u8 (l.map (fun x=>48+gB x))=l:=by
 induction l with
 | nil=>rfl
 | cons x r ih =>
  rw [List.map_cons,u8_cons,ih,u8_dig (c:=x) (by unfold gB;omega)]
theorem zz96 {a:Int} {l:List Int} (h:tableM a l=true):parseI (u8 (textTb a l))=(a,l,true):=by
 obtain ⟨n,rfl,hn,h1,h2,h3⟩:=zz27 h
 have hd:=(gB_digs l h3).1
 have hp:=Nat.two_pow_pos n
 match l,h1,h3,hd,h with
 | [],h1,_,_,_=>simp at h1;omega
 | x :: r,_,h3,hd,h =>
  have hn0:=gB_dig (x:=(n:Int)) (by omega) (by omega)
  have hv:(UInt8.ofNat (48+(n:Int)).toNat).toNat=48+n:=by
   have:=hn0
   unfold gB at this;omega
  have e:u8 (textTb (n:Int) (x :: r))=UInt8.ofNat (48+(n:Int)).toNat :: 58 :: u8 ((x :: r).map (fun x=>48+x)):=rfl
  rw [e];rw [List.map_cons,u8_cons] at hd ⊢
  rw [parseI,if_pos ⟨by omega,by omega,rfl⟩,hd,hn0,if_pos h]
theorem zz97 {a:Int} {l:List Int} (h:tableM a l=true):parseS (u8 (textTb a l))=(a,l,true):=by
 obtain ⟨n,rfl,hn,h1,h2,h3⟩:=zz27 h
 have hd:=gB_digs l h3
 have hno:58∉u8 (numD (n:Int)):=by
  have:∀ m:Fin 100,58∉u8 (numD (m.val:Int)):=by decide +kernel
  exact this ⟨n,by omega⟩
 have e:u8 (textTb (n:Int) l)=u8 (numD (n:Int))++58 :: u8 (l.map (fun x=>48+x)):=by
  rw [zz40 (by omega)]
  rfl
 have hs:splitA 58 [] (u8 (textTb (n:Int) l))=[u8 (numD (n:Int)),u8 (l.map (fun x=>48+x))]:=by
  rw [e,zz69 58 _ _ [] hno,zz70 58 _ [] hd.2];rfl
 have hr:rv (numL 6 (u8 (numD (n:Int))))=(n:Int):=by
  rw [zz84 _ (by omega) (by omega)]
  simp only [rv];omega
 unfold parseS;rw [hs];show (if (u8 (l.map (fun x=>48+x))).length≤16 then _ else rejT)=_
 rw [hd.1,hr,if_pos (by unfold u8;rw [List.length_map,List.length_map];omega),if_pos h,if_pos rfl]
theorem zz98 (bs:List UInt8):parseI bs=rejT∨∃ a l,tableM a l=true∧bs=u8 (textTb a l):=by
 match bs with
 | []=>exact Or.inl rfl
 | [_]=>exact Or.inl rfl
 | [_,_]=>exact Or.inl rfl
 | b0 :: b1 :: c :: r =>
  rw [parseI];by_cases c1:48≤b0.toNat∧b0.toNat≤52∧b1=58
  ·rw [if_pos c1]
   by_cases c2:tableM (gB b0) ((c :: r).map gB)=true
   ·refine Or.inr ⟨_,_,c2,?_⟩
    have e:=u8_back (c :: r)
    show _=UInt8.ofNat (48+gB b0).toNat :: 58 :: u8 (((c :: r).map gB).map (fun x=>48+x))
    rw [List.map_map];show _=UInt8.ofNat (48+gB b0).toNat :: 58 :: u8 ((c :: r).map (fun x=>48+gB x))
    rw [e,u8_dig (c:=b0) (by unfold gB;omega),c1.2.2]
   ·exact Or.inl (if_neg c2)
  ·exact Or.inl (if_neg c1)
theorem zz99 (bs:List UInt8):parseS bs=rejT∨∃ a l,tableM a l=true∧bs=u8 (textTb a l):=by
 unfold parseS;match splitA 58 [] bs with
 | []=>exact Or.inl rfl
 | [_]=>exact Or.inl rfl
 | _ :: _ :: _ :: _=>exact Or.inl rfl
 | [w0,w1] =>
  simp only [];by_cases c1:w1.length≤16
  ·rw [if_pos c1]
   by_cases c2:tableM (rv (numL 6 w0)) (w1.map gB)=true
   ·rw [if_pos c2]
    by_cases c3:u8 (textTb (rv (numL 6 w0)) (w1.map gB))=bs
    ·exact Or.inr ⟨_,_,c2,c3.symm⟩
    ·exact Or.inl (if_neg c3)
   ·exact Or.inl (if_neg c2)
  ·exact Or.inl (if_neg c1)
theorem zz100 (bs:List UInt8):parseS bs=parseI bs:=by
 rcases zz98 bs with h | ⟨a,l,h,rfl⟩
 ·rcases zz99 bs with h2 | ⟨a,l,h2,rfl⟩
  ·rw [h,h2]
  ·rw [zz97 h2,zz96 h2]
 ·rw [zz97 h,zz96 h]
def idxOf:List Int→Nat
 | []=>0
 | b :: r=>b.toNat+2 * idxOf r
theorem idxOf_lt (l:List Int) (h:∀ b∈l,0≤b∧b≤1):idxOf l<2 ^ l.length:=by
 induction l with
 | nil=>simp [idxOf]
 | cons b r ih =>
  have h1:=ih (fun x hx=>h x (by simp [hx]))
  have h2:=h b (by simp)
  rw [idxOf,List.length_cons,Nat.pow_succ];omega
theorem zz103 (l:List Int) (hl:l.length≤16) (hb:∀ b∈l,0≤b∧b≤1) (r:List Int):∀ (p:List Int) (n i:Nat),i=p.length→l=p++r→n<2 ^ i →
  Ev (fun k=>spec_ttIndex.l0 k n l l.length i) ((n+2 ^ i * idxOf r:Nat):Int):=by
 induction r with
 | nil =>
  intro p n i hi e hn;have hlen:l.length=p.length:=by rw [e];simp
  apply ev_up;simp only [spec_ttIndex.l0];refine ev_n (by omega) (ev_eq (Ev.now _) ?_)
  simp [idxOf]
 | cons x r ih =>
  intro p n i hi e hn;have hlen:l.length=p.length+r.length+1:=by rw [e];simp;omega
  have hx:rd l i=x:=by rw [e];exact rdA (by omega)
  have hxb:=hb x (by rw [e];simp)
  obtain ⟨b,rfl⟩:=nat_of hxb.1
  have h8:2 ^ i≤2 ^ 16:=Nat.pow_le_pow_right (by decide) (by omega)
  have h9:2 ^ (i+1)=2 * 2 ^ i:=by rw [Nat.pow_succ];omega
  have hbi:b * 2 ^ i≤2 ^ i:=by
   have:b≤1:=by omega
   calc b * 2 ^ i≤1 * 2 ^ i:=Nat.mul_le_mul_right _ this
    _=2 ^ i:=Nat.one_mul _
  apply ev_up;simp only [spec_ttIndex.l0];refine ev_p (by omega) (ev_p (by omega) (ev_p (by omega) ?_))
  rw [hx,u64w (by omega) (by omega),shlN b i (by omega) (by omega),wN (n:=(n:Int)+((b * 2 ^ i:Nat):Int)) (m:=n+b * 2 ^ i) (by omega) (by omega),wN (n:=(i:Int)+1) (m:=i+1) (by omega) (by omega)]
  refine ev_p (by omega) (ev_eq (ih (p ++ [(b:Int)]) (n+b * 2 ^ i) (i+1) (by simp;omega) (by rw [e];simp) (by omega)) ?_)
  rw [idxOf,Int.toNat_natCast,h9,Nat.mul_add,Nat.mul_comm (2 ^ i) b,← Nat.mul_assoc (2 ^ i) 2,Nat.mul_comm (2 ^ i) 2];omega
theorem zz104 (l:List Int) (hl:l.length≤16) (hb:∀ b∈l,0≤b∧b≤1):Ev (fun k=>spec_ttIndex.f k l) ((idxOf l:Nat):Int):=by
 unfold spec_ttIndex.f;refine ev_eq (zz103 l hl hb l [] 0 0 rfl rfl (by omega)) ?_
 simp
def valR (a:Int) (l bits:List Int):Int×Bool:=if tableM a l=true∧(bits.length:Int)=a∧bits.all (inB 0 1)=true then (rd l ((idxOf bits:Nat):Int),true) else (0,false)
theorem zz106 (l:List Int) (hl:l.length≤16) (hb:∀ b∈l,0≤b∧b≤1) (r:List Int):∀ (p:List Int) (n i:Nat),i=p.length→l=p++r→n<2 ^ i →
  Ev (fun k=>impl_numberOf.l0 k n l l.length i) ((n+2 ^ i * idxOf r:Nat):Int):=by
 induction r with
 | nil =>
  intro p n i hi e hn;have hlen:l.length=p.length:=by rw [e];simp
  apply ev_up;simp only [impl_numberOf.l0];refine ev_n (by omega) (ev_eq (Ev.now _) ?_)
  simp [idxOf]
 | cons x r ih =>
  intro p n i hi e hn;have hlen:l.length=p.length+r.length+1:=by rw [e];simp;omega
  have hx:rd l i=x:=by rw [e];exact rdA (by omega)
  have hxb:=hb x (by rw [e];simp)
  have h8:2 ^ i≤2 ^ 16:=Nat.pow_le_pow_right (by decide) (by omega)
  have h9:2 ^ (i+1)=2 * 2 ^ i:=by rw [Nat.pow_succ];omega
  have hor:∃ b:Nat,x=b∧b≤1∧n ||| b * 2 ^ i=n+b * 2 ^ i∧b * 2 ^ i≤2 ^ i:=by
   obtain ⟨b,rfl⟩:=nat_of hxb.1
   refine ⟨b,rfl,by omega,?_,?_⟩
   ·have:=Nat.two_pow_add_eq_or_of_lt hn b
    rw [Nat.mul_comm b,Nat.or_comm,← this,Nat.add_comm]
   ·have hb1:b≤1:=by omega
    calc b * 2 ^ i≤1 * 2 ^ i:=Nat.mul_le_mul_right _ hb1
     _=2 ^ i:=Nat.one_mul _
  obtain ⟨b,rfl,hb1,ho,hbi⟩:=hor
  apply ev_up;simp only [impl_numberOf.l0];refine ev_p (by omega) (ev_p (by omega) (ev_p (by omega) ?_))
  rw [hx,shlN b i (by omega) (by omega),orN n (b * 2 ^ i) (by omega) (by omega),ho,wN (n:=(i:Int)+1) (m:=i+1) (by omega) (by omega)]
  refine ev_eq (ih (p ++ [(b:Int)]) (n+b * 2 ^ i) (i+1) (by simp;omega) (by rw [e];simp) (by omega)) ?_
  rw [idxOf,Int.toNat_natCast,h9,Nat.mul_add,Nat.mul_comm (2 ^ i) b,← Nat.mul_assoc (2 ^ i) 2,Nat.mul_comm (2 ^ i) 2];omega
theorem zz107 (l:List Int) (hl:l.length≤16) (hb:∀ b∈l,0≤b∧b≤1):Ev (fun k=>impl_numberOf.f k l) ((idxOf l:Nat):Int):=by
 unfold impl_numberOf.f;refine ev_eq (zz106 l hl hb l [] 0 0 rfl rfl (by omega)) ?_
 simp
theorem valR_no {a:Int} {l bits:List Int} (h:¬ (tableM a l=true∧(bits.length:Int)=a∧bits.all (inB 0 1)=true)):Ev (fun _:Nat=>some ((0:Int),false)) (valR a l bits):=by
 unfold valR;rw [if_neg h];exact Ev.now _
theorem zz109 (a:Int) (l bits:List Int) (hl:l.length≤9223372036854775807) (hb:bits.length≤9223372036854775807):Ev (fun k=>impl_ValueAt.f k a l bits) (valR a l bits)∧Ev (fun k=>spec_ValueAt.f k a l bits) (valR a l bits):=by
 unfold impl_ValueAt.f spec_ValueAt.f;by_cases h1:tableM a l=true
 ·have i1:=zz30 a l hl
  have s1:=zz31 a l hl
  by_cases h2:(bits.length:Int)=a
  ·have i2:=zz29 bits hb
   have s2:=l1All_ev bits 0 1 hb
   by_cases h3:bits.all (inB 0 1)=true
   ·obtain ⟨n,rfl,hn,g1,g2,g3⟩:=zz27 h1
    have hbl:bits.length≤4:=by omega
    have hbb:∀ x∈bits,0≤x∧x≤1:=fun x hx=>of_decide_eq_true (List.all_eq_true.1 h3 x hx)
    have i3:=zz107 bits (by omega) hbb
    have s3:=zz104 bits (by omega) hbb
    have hlt:=idxOf_lt bits hbb
    have hnb:bits.length=n:=by omega
    rw [hnb,← g1] at hlt;unfold valR;rw [if_pos ⟨h1,h2,h3⟩];exact ⟨Ev.bind i1 (ev_p h1 (ev_p h2 (Ev.bind i2 (ev_p h3 (Ev.bind i3 (ev_p (by omega) (ev_p (by omega) (Ev.now _)))))))),Ev.bind s1 (ev_p h1 (ev_p h2 (Ev.bind s2 (ev_p h3 (Ev.bind s3 (ev_p (by omega) (ev_p (by omega) (Ev.now _))))))))⟩
   ·have no:=valR_no (a:=a) (l:=l) (bits:=bits) (fun h=>h3 h.2.2)
    exact ⟨Ev.bind i1 (ev_p h1 (ev_p h2 (Ev.bind i2 (ev_n h3 no)))),Ev.bind s1 (ev_p h1 (ev_p h2 (Ev.bind s2 (ev_n h3 no))))⟩
  ·have no:=valR_no (a:=a) (l:=l) (bits:=bits) (fun h=>h2 h.2.1)
   exact ⟨Ev.bind i1 (ev_p h1 (ev_n h2 no)),Ev.bind s1 (ev_p h1 (ev_n h2 no))⟩
 ·have no:=valR_no (a:=a) (l:=l) (bits:=bits) (fun h=>h1 h.1)
  exact ⟨Ev.bind (zz30 a l hl) (ev_n h1 no),Ev.bind (zz31 a l hl) (ev_n h1 no)⟩
theorem zz110 {c:List Int} (hc:bytesOk c):∃ (n:Int) (ys:List Int),Ev (fun k=>spec_DrawTableText.f k c) (n,ys)∧ys.length≤32:=by
 obtain ⟨n,ys,a',m',e,_,hl,_⟩:=zz14 hc 0 0 (by omega) (by omega)
 refine ⟨n,ys,?_,hl⟩
 unfold spec_DrawTableText.f spec_DrawIsTable.f;exact Ev.bind (Ev.bind e (Ev.now _)) (Ev.now _)
theorem clampT (n:Int):∃ t:Nat,∃ u:Int,t≤4∧spec_l1Least.f 4 n=some u∧spec_l1Most.f 0 u=some (t:Int):=by
 unfold spec_l1Least.f spec_l1Most.f;by_cases c:4<n
 ·exact ⟨4,4,by omega,by rw [if_pos c],by rw [if_neg (by omega)];rfl⟩
 ·rw [if_neg c]
  by_cases c2:0>n
  ·exact ⟨0,n,by omega,rfl,by rw [if_pos c2];rfl⟩
  ·refine ⟨n.toNat,n,by omega,rfl,?_⟩
   rw [if_neg c2];exact congrArg some (by omega)
theorem zz112 {c:List Int} (hc:bytesOk c):∃ (kind a:Int) (l:List Int) (b:Int) (m:List Int),Ev (fun k=>spec_DrawCombineTables.f k c) (kind,a,l,b,m)∧l.length≤32∧m.length≤32:=by
 obtain ⟨n,ys,a1,m1,e1,ha1,hl1,_⟩:=zz14 hc 0 0 (by omega) (by omega)
 obtain ⟨t,u,ht,eu,et⟩:=clampT n
 obtain ⟨zs,a2,m2,e2,ha2,hl2⟩:=zz12 hc t ht a1 m1 (by omega) (by omega)
 have h8:2 ^ t≤2 ^ 4:=Nat.pow_le_pow_right (by decide) ht
 obtain ⟨b,a3,m3,e3,ha3⟩:=one_ok hc a2 m2 12 (by omega) (by omega)
 unfold spec_DrawCombineTables.f;cases b with
 | true =>
  obtain ⟨n4,ns4,a4,m4,e4,ha4,hl4,_⟩:=zz14 hc a3 m3 (by omega) (by omega)
  obtain ⟨z,a5,m5,e5,ha5,_⟩:=among_ok hc a4 m4 [0,5] (by simp) (by omega) (by omega)
  obtain ⟨w,a6,m6,e6,ha6,_⟩:=among_ok hc a5 m5 [1,2,3,4,z] (by simp) (by omega) (by omega)
  exact ⟨w,n,ys,n4,ns4,Ev.bind e1 (Ev.bind (ev_c eu) (Ev.bind (ev_c et) (Ev.bind e2 (Ev.bind (ev_c e3) (ev_p rfl (Ev.bind e4 (Ev.bind (ev_c e5) (Ev.bind (ev_c e6) (Ev.now _))))))))),hl1,hl4⟩
 | false =>
  obtain ⟨z,a5,m5,e5,ha5,_⟩:=among_ok hc a3 m3 [0,5] (by simp) (by omega) (by omega)
  obtain ⟨w,a6,m6,e6,ha6,_⟩:=among_ok hc a5 m5 [1,2,3,4,z] (by simp) (by omega) (by omega)
  exact ⟨w,n,ys,(t:Int),zs,Ev.bind e1 (Ev.bind (ev_c eu) (Ev.bind (ev_c et) (Ev.bind e2 (Ev.bind (ev_c e3) (ev_n (by simp) (Ev.bind (ev_c e5) (Ev.bind (ev_c e6) (Ev.now _)))))))),hl1,by omega⟩
theorem ext_size (s:ByteArray) (a b:Nat):(s.extract a b).size=min b s.size - a:=by
 simp [ByteArray.size_extract]
theorem zz114 {c:List Int} (hc:bytesOk c) (al:ByteArray) (hal:al.size=4) (d:Nat):∀ (s:ByteArray) (at_ m:Int),d≤5→s.size+d≤1000→0≤at_→at_+6 * d≤900000000 →
  ∃ s' a' m',Ev (fun k=>spec_l1Cur_spoilt.l0 k s al d c at_ m) (s',a',m')∧s'.size≤s.size+d:=by
 induction d with
 | zero =>
  intro s at_ m _ _ _ _;refine ⟨s,at_,m,?_,by omega⟩
  apply ev_up;simp only [spec_l1Cur_spoilt.l0];refine ev_n (by omega) ?_
  apply ev_up;simp only [spec_l1Cur_spoilt.j1];exact ev_n (by simp) (Ev.now _)
 | succ d ih =>
  intro s at_ m hd hs h0 h1;by_cases hz:(s.size:Int)>0
  ·obtain ⟨p,a1,m1,e1,ha1,hp0,hp1⟩:=pick_ok hc at_ m (s.size:Int) h0 (by omega)
   obtain ⟨q,a2,m2,e2,ha2,hq0,hq1⟩:=pick_ok hc a1 m1 (al.size:Int) (by omega) (by omega)
   obtain ⟨w,a3,m3,e3,ha3,hw0,hw1⟩:=pick_ok hc a2 m2 3 (by omega) (by omega)
   have hpl:p<(s.size:Int):=by omega
   have s1:=ext_size s 0 p.toNat
   have s2:=ext_size s p.toNat s.size
   have s3:=ext_size s (p+1).toNat s.size
   have sy:(strOfNums [bt al q]).size=1:=zz32 _
   have hp63:wrap64 (p+1)=p+1:=w64 (by omega) (by omega)
   have start:∀ R,Ev (fun k=>spec_l1Cur_spoilt.j1 k s al ((d+1:Nat):Int) true c at_ m) R→Ev (fun k=>spec_l1Cur_spoilt.l0 k s al ((d+1:Nat):Int) c at_ m) R:=fun R h=>by
    apply ev_up;simp only [spec_l1Cur_spoilt.l0];refine ev_p (by omega) ?_
    rw [decide_eq_true hz];exact h
   have hdw:wrap64 (((d+1:Nat):Int) - 1)=(d:Int):=wN (by omega) (by omega)
   by_cases w0:w=0
   ·obtain ⟨s',a',m',e,hl⟩:=ih ((s.extract 0 p.toNat++strOfNums [bt al q])++s.extract p.toNat s.size) a3 m3 (by omega) (by rw [ByteArray.size_append,ByteArray.size_append];omega) (by omega) (by omega)
    rw [ByteArray.size_append,ByteArray.size_append] at hl;refine ⟨s',a',m',start _ ?_,by omega⟩
    apply ev_up;simp only [spec_l1Cur_spoilt.j1];rw [hdw];refine ev_p (by trivial) (Ev.bind (ev_c e1) (Ev.bind (ev_c e2) ?_))
    dsimp only;refine ev_p hq0 (ev_p (by omega) (Ev.bind (ev_c rfl) (Ev.bind (ev_c e3) ?_)))
    dsimp only;exact ev_p w0 (ev_p hp0 (ev_p (by omega) (ev_p (by omega) (ev_p (by rw [ByteArray.size_append];omega) e))))
   ·by_cases w1:w=1
    ·obtain ⟨s',a',m',e,hl⟩:=ih ((s.extract 0 p.toNat++strOfNums [bt al q])++s.extract (p+1).toNat s.size) a3 m3 (by omega) (by rw [ByteArray.size_append,ByteArray.size_append];omega) (by omega) (by omega)
     rw [ByteArray.size_append,ByteArray.size_append] at hl;refine ⟨s',a',m',start _ ?_,by omega⟩
     apply ev_up;simp only [spec_l1Cur_spoilt.j1];rw [hdw];refine ev_p (by trivial) (Ev.bind (ev_c e1) (Ev.bind (ev_c e2) ?_))
     dsimp only;refine ev_p hq0 (ev_p (by omega) (Ev.bind (ev_c rfl) (Ev.bind (ev_c e3) ?_)))
     dsimp only;refine ev_n w0 (ev_p w1 (ev_p hp0 (ev_p (by omega) (ev_p (by omega) ?_))))
     rw [hp63];exact ev_p (by omega) (ev_p (by omega) (ev_p (by rw [ByteArray.size_append];omega) e))
    ·obtain ⟨s',a',m',e,hl⟩:=ih (s.extract 0 p.toNat++s.extract (p+1).toNat s.size) a3 m3 (by omega) (by rw [ByteArray.size_append];omega) (by omega) (by omega)
     rw [ByteArray.size_append] at hl;refine ⟨s',a',m',start _ ?_,by omega⟩
     apply ev_up;simp only [spec_l1Cur_spoilt.j1];rw [hdw];refine ev_p (by trivial) (Ev.bind (ev_c e1) (Ev.bind (ev_c e2) ?_))
     dsimp only;refine ev_p hq0 (ev_p (by omega) (Ev.bind (ev_c rfl) (Ev.bind (ev_c e3) ?_)))
     dsimp only;refine ev_n w0 (ev_n w1 (ev_p hp0 (ev_p (by omega) ?_)))
     rw [hp63];exact ev_p (by omega) (ev_p (by omega) (ev_p (by omega) e))
  ·refine ⟨s,at_,m,?_,by omega⟩
   apply ev_up;simp only [spec_l1Cur_spoilt.l0];refine ev_p (by omega) ?_
   rw [decide_eq_false hz];apply ev_up;simp only [spec_l1Cur_spoilt.j1];exact ev_n (by simp) (Ev.now _)
theorem zz115 {a:Int} {l:List Int}:(strOfNums (textTb a l)).size=l.length+2:=by
 rw [zz34];simp [textTb]
def pList:List ByteArray:=[(⟨#[]⟩:ByteArray),(⟨#[48,58]⟩:ByteArray),(⟨#[49,58,48]⟩:ByteArray),(⟨#[49,58,48,49,50]⟩:ByteArray),(⟨#[48,50,58,48,49,49,49]⟩:ByteArray),(⟨#[50,58,48,49,49,50]⟩:ByteArray),(⟨#[53,58,48]⟩:ByteArray),(⟨#[58]⟩:ByteArray),(⟨#[50,58,48,49,58,49]⟩:ByteArray),(⟨#[45,49,58,48]⟩:ByteArray)]
theorem zz117 {c:List Int} (hc:bytesOk c):∃ s:ByteArray,Ev (fun k=>spec_DrawParseTable.f k c) s∧s.size≤100:=by
 obtain ⟨a,ys,a1,m1,e1,ha1,hl,ha,hb⟩:=zz20 hc 0 0 (by omega) (by omega)
 have h8:2 ^ a≤2 ^ 4:=Nat.pow_le_pow_right (by decide) ha
 have ht:tableM (a:Int) ys=true:=by
  unfold tableM;rw [Bool.and_eq_true,decide_eq_true_iff,List.all_eq_true];exact ⟨⟨by omega,by omega,by rw [Int.toNat_natCast];exact hl⟩,fun x hx=>decide_eq_true (hb x hx)⟩
 have hts:=zz47 (a:Int) ys ht
 have hsz:=zz115 (a:=(a:Int)) (l:=ys)
 generalize strOfNums (textTb (a:Int) ys)=s at hts hsz
 obtain ⟨p,a2,m2,e2,ha2,_⟩:=pick_ok hc a1 m1 6 (by omega) (by omega)
 have spo:∃ s',Ev (fun k=>spec_DrawParseTable.j0 k s p true c a2 m2) s'∧s'.size≤100:=by
  obtain ⟨q,a3,m3,e3,ha3,hq0,hq1⟩:=pick_ok hc a2 m2 2 (by omega) (by omega)
  obtain ⟨n,rfl⟩:=nat_of hq0
  obtain ⟨s',a4,m4,e4,h4⟩:=zz114 hc (⟨#[48,49,58,50]⟩:ByteArray) rfl (n+1) s a3 m3 (by omega) (by omega) (by omega) (by omega)
  refine ⟨s',?_,by omega⟩
  apply ev_up;simp only [spec_DrawParseTable.j0];refine ev_p (by trivial) (Ev.bind (?_:Ev _ (s',a4,m4)) (Ev.now _))
  unfold spec_l1Cur_spoilt.f;refine Ev.bind (ev_c e3) ?_
  dsimp only;rw [wN (n:=1+(n:Int)) (m:=n+1) (by omega) (by omega)]
  exact e4
 have oth:∃ s',Ev (fun k=>spec_DrawParseTable.j0 k s p false c a2 m2) s'∧s'.size≤100:=by
  by_cases p2:p=2
  ·obtain ⟨q,a3,m3,e3,ha3,hq0,hq1⟩:=pick_ok hc a2 m2 10 (by omega) (by omega)
   have hq:q=0∨q=1∨q=2∨q=3∨q=4∨q=5∨q=6∨q=7∨q=8∨q=9:=by omega
   have hof:spec_l1Cur_of.f c a2 m2 pList=some (rdOf ByteArray.empty pList q,a3,m3):=by
    unfold spec_l1Cur_of.f;rw [show ((pList.length:Nat):Int)=10 from rfl,e3,Option.bind_some]
    dsimp only;rw [if_pos (by omega),if_pos (by omega)]
   refine ⟨rdOf ByteArray.empty pList q,?_,?_⟩
   ·apply ev_up
    simp only [spec_DrawParseTable.j0];refine ev_n (by simp) (ev_p p2 ?_)
    show Ev (fun k=>(spec_l1Cur_of.f c a2 m2 pList).bind fun bt365=>(some bt365.1)) _
    exact Ev.bind (ev_c hof) (Ev.now _)
   ·rcases hq with rfl | rfl | rfl | rfl | rfl | rfl | rfl | rfl | rfl | rfl <;> decide
  ·refine ⟨s,?_,by omega⟩
   apply ev_up;simp only [spec_DrawParseTable.j0];exact ev_n (by simp) (ev_n p2 (Ev.now _))
 unfold spec_DrawParseTable.f;by_cases p0:p=0
 ·obtain ⟨s',hs',h'⟩:=spo
  refine ⟨s',Ev.bind e1 (Ev.bind hts (Ev.bind (ev_c e2) (ev_p p0 ?_))),h'⟩
  dsimp only;rw [show (p == 0)=true from beq_iff_eq.2 p0]
  exact hs'
 ·by_cases p1:p=1
  ·obtain ⟨s',hs',h'⟩:=spo
   refine ⟨s',Ev.bind e1 (Ev.bind hts (Ev.bind (ev_c e2) (ev_n p0 ?_))),h'⟩
   dsimp only;rw [show (p == 1)=true from beq_iff_eq.2 p1]
   exact hs'
  ·obtain ⟨s',hs',h'⟩:=oth
   refine ⟨s',Ev.bind e1 (Ev.bind hts (Ev.bind (ev_c e2) (ev_n p0 ?_))),h'⟩
   dsimp only;rw [show (p == 1)=false by rw [beq_eq_false_iff_ne];exact p1]
   exact hs'
theorem zz118 {c:List Int} (hc:bytesOk c) (T:Int) (hT:T≤20) (n:Int) (ys:List Int) (d:Nat):∀ (xs:List Int) (at_ m:Int),xs.length+d≤20→T≤xs.length+d→0≤at_→at_+6 * d≤900000000 →
  ∃ zs,Ev (fun k=>spec_DrawValueAt.l0 k xs T c at_ m n ys) (n,ys,zs)∧zs.length≤20:=by
 induction d with
 | zero =>
  intro xs at_ m hx hTd h0 h1;by_cases hz:(xs.length:Int)>0
  ·obtain ⟨b,a1,m1,e1,ha1⟩:=one_ok hc at_ m 20 (by omega) (by omega)
   cases b with
   | true =>
    obtain ⟨z,a2,m2,e2,ha2,_⟩:=among_ok hc a1 m1 [-1,2] (by simp) (by omega) (by omega)
    refine ⟨xs.set (0:Int).toNat z,?_,by rw [List.length_set];omega⟩
    apply ev_up;simp only [spec_DrawValueAt.l0];exact ev_n (by omega) (ev_p hz (Ev.bind (ev_c e1) (ev_p rfl (Ev.bind (ev_c e2) (ev_p (by omega) (Ev.now _))))))
   | false =>
    refine ⟨xs,?_,by omega⟩
    apply ev_up;simp only [spec_DrawValueAt.l0];exact ev_n (by omega) (ev_p hz (Ev.bind (ev_c e1) (ev_n (by simp) (Ev.now _))))
  ·refine ⟨xs,?_,by omega⟩
   apply ev_up;simp only [spec_DrawValueAt.l0];exact ev_n (by omega) (ev_n hz (Ev.now _))
 | succ d ih =>
  intro xs at_ m hx hTd h0 h1;by_cases c1:(xs.length:Int)<T
  ·obtain ⟨q,a1,m1,e1,ha1,_⟩:=pick_ok hc at_ m 2 (by omega) (by omega)
   obtain ⟨zs,e,hz⟩:=ih (xs ++ [q]) a1 m1 (by rw [List.length_append,List.length_singleton];omega) (by rw [List.length_append,List.length_singleton];omega) (by omega) (by omega)
   refine ⟨zs,?_,hz⟩
   apply ev_up;simp only [spec_DrawValueAt.l0];exact ev_p c1 (Ev.bind (ev_c e1) (ev_p (by omega) e))
  ·exact ih xs at_ m (by omega) (by omega) h0 (by omega)
theorem zz119 {c:List Int} (hc:bytesOk c):∃ (n:Int) (ys zs:List Int),Ev (fun k=>spec_DrawValueAt.f k c) (n,ys,zs)∧ys.length≤32∧zs.length≤20:=by
 obtain ⟨n,ys,a1,m1,e1,ha1,hl,hn0,hn1⟩:=zz14 hc 0 0 (by omega) (by omega)
 obtain ⟨q,a2,m2,e2,ha2,hq0,hq1⟩:=pick_ok hc a1 m1 24 (by omega) (by omega)
 have ht:Int.tdiv q 23=q / 23:=Int.tdiv_eq_ediv_of_nonneg hq0
 obtain ⟨zs,e,hz⟩:=zz118 hc (n+q / 23) (by omega) n ys 7 [] a2 m2 (by simp) (by simp;omega) (by omega) (by omega)
 refine ⟨n,ys,zs,?_,hl,hz⟩
 unfold spec_DrawValueAt.f;refine Ev.bind e1 (Ev.bind (ev_c e2) ?_)
 dsimp only;rw [ht,w64 (n:=q / 23) (by omega) (by omega),w64 (n:=n+q / 23) (by omega) (by omega)]
 exact e
def cmbV (kind a b:Int):Int:=if kind=1 then a * b else if kind=2 then (if a>b then a else b) else if kind=3 then (a+b) % 2 else (if 1 - a>b then 1 - a else b)
def cmbL (kind:Int):List Int→List Int→List Int
 | a :: l,b :: m=>cmbV kind a b :: cmbL kind l m
 | _,_ => []
theorem zz122 (kind:Int):∀ (l m:List Int),l.length=m.length→(cmbL kind l m).length=l.length:=by
 intro l;induction l with
 | nil=>intro m _;rfl
 | cons a l ih =>
  intro m h;match m,h with
  | b :: m,h=>rw [cmbL,List.length_cons,ih m (by simpa using h),List.length_cons]
theorem zz123 (kind a b:Int) (ha:0≤a∧a≤1) (hb:0≤b∧b≤1):spec_ttCombine.f kind a b=some (cmbV kind a b):=by
 unfold spec_ttCombine.f cmbV;obtain rfl | rfl:a=0∨a=1:=by omega
 all_goals obtain rfl | rfl:b=0∨b=1:=by omega
 all_goals (split;(first | rfl | (unfold wrap64;rfl));split;(first | rfl | (unfold wrap64;rfl));split;(first | rfl | (unfold wrap64;rfl));(first | rfl | (unfold wrap64;rfl)))
theorem zz124 (kind a:Int) (r:List Int):∀ (s p q o:List Int) (i:Int),i=p.length→q.length=p.length→r.length=s.length→p.length+r.length≤1000→o.length≤p.length→(∀ x∈r,0≤x∧x≤1)→(∀ x∈s,0≤x∧x≤1) →
  Ev (fun k=>spec_CombineTables.l0 k kind (p++r) ((p++r).length:Int) i a (q++s) a o) (a,o++cmbL kind r s,true):=by
 induction r with
 | nil =>
  intro s p q o i hi hq hl hb ho hr hs;apply ev_up;simp only [spec_CombineTables.l0];refine ev_n (by simp;omega) (ev_eq (Ev.now _) (by simp [cmbL]))
 | cons x r ih =>
  intro s p q o i hi hq hl hb ho hr hs;match s,hl with
  | y :: s,hl =>
   simp only [List.length_cons] at hl hb;apply ev_up;simp only [spec_CombineTables.l0];refine ev_p (by simp;omega) (ev_p (by omega) (ev_p (by simp;omega) (ev_p (by simp;omega) ?_)))
   have e1:rd (p++x :: r) i=x:=rdA hi
   have e2:rd (q++y :: s) i=y:=rdA (by omega)
   rw [e1,e2];refine Ev.bind (ev_c (zz123 kind x y (hr x (by simp)) (hs y (by simp)))) (ev_p (by omega) ?_)
   rw [w64 (by omega) (by omega)]
   have:=ih s (p ++ [x]) (q ++ [y]) (o ++ [cmbV kind x y]) (i+1) (by simp;omega) (by simp;omega) (by omega) (by simp;omega) (by simp;omega) (fun z hz=>hr z (by simp [hz])) (fun z hz=>hs z (by simp [hz]))
   simp only [List.append_assoc,List.singleton_append] at this;exact this
def cmbT (kind a:Int) (l:List Int) (b:Int) (m:List Int):Int×List Int×Bool:=if 1≤kind∧kind≤4∧tableM a l=true∧tableM b m=true∧a=b then (a,cmbL kind l m,true) else (0,[],false)
theorem zz126 (kind a:Int) (l:List Int) (b:Int) (m:List Int) (hl:l.length≤9223372036854775807) (hm:m.length≤9223372036854775807):Ev (fun k=>spec_CombineTables.f k kind a l b m) (cmbT kind a l b m):=by
 have hj:¬ (1≤kind∧kind≤4∧tableM a l=true∧tableM b m=true∧a=b)→Ev (fun k=>spec_CombineTables.j0 k kind true a l b m) (cmbT kind a l b m):=fun h=>by
  unfold cmbT;rw [if_neg h];apply ev_up;simp only [spec_CombineTables.j0];exact ev_p (by simp) (Ev.now _)
 unfold spec_CombineTables.f;have e1:spec_l1In.f kind 1 4=some (decide (1≤kind∧kind≤4)):=by
  unfold spec_l1In.f;by_cases h:kind≥1
  ·rw [if_pos h]
   by_cases h2:kind≤4 <;> simp [h,h2]
  ·rw [if_neg h]
   simp [h]
 refine Ev.bind (ev_c e1) (ev_ite (fun c=>?_) (fun c=>hj (fun h=>c (decide_eq_true ⟨h.1,h.2.1⟩))))
 refine Ev.bind (zz31 a l hl) (ev_ite (fun c1=>?_) (fun c1=>hj (fun h=>c1 h.2.2.1)))
 refine Ev.bind (zz31 b m hm) (ev_ite (fun c2=>?_) (fun c2=>hj (fun h=>c2 h.2.2.2.1)))
 have c:=of_decide_eq_true c
 by_cases hab:a=b
 ·subst hab
  obtain ⟨n,rfl,hn,h1,h2,h3⟩:=zz27 c1
  obtain ⟨n2,e,_,g1,g2,g3⟩:=zz27 c2
  obtain rfl:n=n2:=by omega
  unfold cmbT;rw [if_pos ⟨c.1,c.2,c1,c2,rfl⟩];apply ev_up;simp only [spec_CombineTables.j0];refine ev_n (by simp) ?_
  simpa using zz124 kind (n:Int) l m [] [] [] 0 rfl rfl (by omega) (by simp;omega) (by simp) h3 g3
 ·have:(a != b)=true:=by simpa using hab
  rw [this];exact hj (fun h=>hab h.2.2.2.2)
theorem zz127 (kind a:Int) (hk:1≤kind∧kind≤4) (r:List Int):∀ (s p q o:List Int) (i:Int),i=p.length→q.length=p.length→r.length=s.length→p.length+r.length≤1000→o.length≤p.length→(∀ x∈r,0≤x∧x≤1)→(∀ x∈s,0≤x∧x≤1) →
  Ev (fun k=>impl_CombineTables.l0 k o i kind a (p++r) (q++s)) (a,o++cmbL kind r s,true):=by
 induction r with
 | nil =>
  intro s p q o i hi hq hl hb ho hr hs;apply ev_up;simp only [impl_CombineTables.l0];refine ev_n (by simp;omega) (ev_eq (Ev.now _) (by simp [cmbL]))
 | cons x r ih =>
  intro s p q o i hi hq hl hb ho hr hs;match s,hl with
  | y :: s,hl =>
   simp only [List.length_cons] at hl hb;apply ev_up;simp only [impl_CombineTables.l0];refine ev_p (by simp;omega) (ev_p ⟨by omega,by simp;omega⟩ (ev_p ⟨by omega,by simp;omega⟩ ?_))
   have e1:rd (p++x :: r) i=x:=rdA hi
   have e2:rd (q++y :: s) i=y:=rdA (by omega)
   rw [e1,e2,w64 (n:=i+1) (by omega) (by omega)]
   have hnext:∀ v:Int,v=cmbV kind x y→Ev (fun k=>impl_CombineTables.l0 k (o ++ [v]) (i+1) kind a (p++x :: r) (q++y :: s)) (a,o++cmbL kind (x :: r) (y :: s),true):=fun v hv=>by
    subst hv;have:=ih s (p ++ [x]) (q ++ [y]) (o ++ [cmbV kind x y]) (i+1) (by simp;omega) (by simp;omega) (by omega) (by simp;omega) (by simp;omega) (fun z hz=>hr z (by simp [hz])) (fun z hz=>hs z (by simp [hz]))
    simp only [List.append_assoc,List.singleton_append] at this;exact this
   have hx:=hr x (by simp)
   have hy:=hs y (by simp)
   refine ev_ite (fun c=>ev_p (by omega) (hnext _ ?_)) (fun c=>ev_ite (fun c2=>ev_p (by omega) (hnext _ ?_)) (fun c2=>ev_ite (fun c3=>ev_p (by omega) (hnext _ ?_)) (fun c3=>ev_p (by omega) (hnext _ ?_))))
   all_goals unfold cmbV
   ·rw [if_pos c]
    obtain rfl | rfl:x=0∨x=1:=by omega
    all_goals obtain rfl | rfl:y=0∨y=1:=by omega
    all_goals rfl
   ·rw [if_neg c,if_pos c2]
    obtain rfl | rfl:x=0∨x=1:=by omega
    all_goals obtain rfl | rfl:y=0∨y=1:=by omega
    all_goals rfl
   ·rw [if_neg c,if_neg c2,if_pos c3]
    obtain rfl | rfl:x=0∨x=1:=by omega
    all_goals obtain rfl | rfl:y=0∨y=1:=by omega
    all_goals rfl
   ·rw [if_neg c,if_neg c2,if_neg c3]
    obtain rfl | rfl:x=0∨x=1:=by omega
    all_goals obtain rfl | rfl:y=0∨y=1:=by omega
    all_goals (rw [w64 (by omega) (by omega)];rfl)
theorem zz128 (kind a:Int) (l:List Int) (b:Int) (m:List Int) (hl:l.length≤9223372036854775807) (hm:m.length≤9223372036854775807):Ev (fun k=>impl_CombineTables.f k kind a l b m) (cmbT kind a l b m):=by
 have no:¬ (1≤kind∧kind≤4∧tableM a l=true∧tableM b m=true∧a=b)→Ev (fun _:Nat=>some ((0:Int),([]:List Int),false)) (cmbT kind a l b m):=fun h=>by
  unfold cmbT;rw [if_neg h];exact Ev.now _
 unfold impl_CombineTables.f;refine Ev.bind (zz30 a l hl) (ev_ite (fun c1=>?_) (fun c1=>no (fun h=>c1 h.2.2.1)))
 refine Ev.bind (zz30 b m hm) (ev_ite (fun c2=>?_) (fun c2=>no (fun h=>c2 h.2.2.2.1)))
 refine ev_ite (fun hab=>?_) (fun hab=>no (fun h=>hab h.2.2.2.2))
 refine ev_ite (fun hk=>no (fun h=>by omega)) (fun hk=>ev_ite (fun hk2=>no (fun h=>by omega)) (fun hk2=>?_))
 subst hab;obtain ⟨n,rfl,hn,h1,h2,h3⟩:=zz27 c1
 obtain ⟨n2,e,_,g1,g2,g3⟩:=zz27 c2
 obtain rfl:n=n2:=by omega
 unfold cmbT;rw [if_pos ⟨by omega,by omega,c1,c2,rfl⟩]
 simpa using zz127 kind (n:Int) ⟨by omega,by omega⟩ l m [] [] [] 0 rfl rfl (by omega) (by simp;omega) (by simp) h3 g3
theorem qInts_l0 (l:List Int) (hl:l.length≤1000) (r:List Int):∀ p,l=p++r→Ev (fun k=>laws_qInts.l0 k l l (l.length:Int) ((p.length:Nat):Int)) true:=by
 induction r with
 | nil =>
  intro p e;have hlen:l.length=p.length:=by rw [e];simp
  apply ev_up;simp only [laws_qInts.l0];exact ev_n (by omega) (Ev.now _)
 | cons x r ih =>
  intro p e;have hlen:l.length=p.length+r.length+1:=by rw [e];simp;omega
  have:=ih (p ++ [x]) (by rw [e];simp)
  rw [List.length_append,List.length_singleton] at this;apply ev_up;simp only [laws_qInts.l0];rw [wN (n:=((p.length:Nat):Int)+1) (m:=p.length+1) (by omega) (by omega)]
  exact ev_p (by omega) (ev_p (by omega) (ev_p (by omega) (ev_p (by omega) (ev_p (by trivial) this))))
theorem zz130 (n:Int) (l:List Int) (hl:l.length≤1000):Ev (fun k=>laws_qTable.f k n l n l) true:=by
 unfold laws_qTable.f laws_qInts.f;exact ev_p rfl (Ev.bind (ev_p rfl (qInts_l0 l hl l [] rfl)) (Ev.now _))
theorem qSum_l0 (l:List Int) (hl:l.length≤1000) (v:Int) (hv:0≤v∧v≤1) (hb:∀ x∈l,x=v) (r:List Int):∀ p,l=p++r→Ev (fun k=>laws_qSum.l0 k ((p.length:Int) * v) l (l.length:Int) ((p.length:Nat):Int)) ((l.length:Int) * v):=by
 induction r with
 | nil =>
  intro p e;have hlen:l.length=p.length:=by rw [e];simp
  apply ev_up;simp only [laws_qSum.l0];refine ev_n (by omega) ?_
  rw [hlen];exact Ev.now _
 | cons x r ih =>
  intro p e;have hlen:l.length=p.length+r.length+1:=by rw [e];simp;omega
  have hr:rd l ((p.length:Nat):Int)=v:=by
   have h:=hb x (by rw [e];simp)
   rw [e,rdA rfl,h]
  have:=ih (p ++ [x]) (by rw [e];simp)
  rw [List.length_append,List.length_singleton] at this;have hm:(p.length:Int) * v+v=((p.length+1:Nat):Int) * v:=by
   rw [Int.natCast_add,Int.add_mul];simp
  have hbd:0≤(p.length:Int) * v∧(p.length:Int) * v≤1000:=by
   obtain h | h:v=0∨v=1:=by omega
   all_goals (rw [h];omega)
  apply ev_up;simp only [laws_qSum.l0];rw [hr,w64 (n:=(p.length:Int) * v+v) (by omega) (by omega),hm,wN (n:=((p.length:Nat):Int)+1) (m:=p.length+1) (by omega) (by omega)]
  exact ev_p (by omega) (ev_p (by omega) (ev_p (by omega) this))
theorem qSum_ev (l:List Int) (hl:l.length≤1000) (v:Int) (hv:0≤v∧v≤1) (hb:∀ x∈l,x=v):Ev (fun k=>laws_qSum.f k l) ((l.length:Int) * v):=by
 unfold laws_qSum.f;have:=qSum_l0 l hl v hv hb l [] rfl
 simpa using this
theorem zz133 {a:Int} {l:List Int} (h:tableM a l=true):tableM a (l.map (fun x=>1 - x))=true∧tableM a (l.reverse.map (fun x=>1 - x))=true:=by
 unfold tableM at h ⊢
 rw [Bool.and_eq_true,decide_eq_true_iff,List.all_eq_true] at h;rw [Bool.and_eq_true,Bool.and_eq_true,decide_eq_true_iff,decide_eq_true_iff,List.all_eq_true,List.all_eq_true,List.length_map,List.length_map,List.length_reverse];have hb:∀ x∈l,0≤x∧x≤1:=fun x hx=>of_decide_eq_true (h.2 x hx)
 refine ⟨⟨h.1,fun x hx=>?_⟩,⟨h.1,fun x hx=>?_⟩⟩
 ·obtain ⟨y,hy,rfl⟩:=List.mem_map.1 hx
  have:=hb y hy
  exact decide_eq_true (by omega)
 ·obtain ⟨y,hy,rfl⟩:=List.mem_map.1 hx
  have:=hb y (List.mem_reverse.1 hy)
  exact decide_eq_true (by omega)
theorem not_not (l:List Int):(l.map (fun x=>1 - x)).map (fun x=>1 - x)=l:=by
 induction l with
 | nil=>rfl
 | cons x r ih =>
  rw [List.map_cons,List.map_cons,ih];congr 1
  omega
theorem cmbL_and:∀ (l:List Int),(∀ x∈l,0≤x∧x≤1)→(∀ x∈cmbL 1 l (l.map (fun x=>1 - x)),x=0)∧(∀ x∈cmbL 2 l (l.map (fun x=>1 - x)),x=1):=by
 intro l;induction l with
 | nil=>intro _;exact ⟨fun x hx=>by simp [cmbL] at hx,fun x hx=>by simp [cmbL] at hx⟩
 | cons a r ih =>
  intro hb;have hi:=ih (fun x hx=>hb x (List.mem_cons_of_mem _ hx))
  have ha:=hb a List.mem_cons_self
  rw [List.map_cons,cmbL,cmbL];refine ⟨fun x hx=>?_,fun x hx=>?_⟩
  ·rcases List.mem_cons.1 hx with e | e
   ·rw [e]
    obtain h | h:a=0∨a=1:=by omega
    all_goals (subst h;decide)
   ·exact hi.1 x e
  ·rcases List.mem_cons.1 hx with e | e
   ·rw [e]
    obtain h | h:a=0∨a=1:=by omega
    all_goals (subst h;decide)
   ·exact hi.2 x e
theorem lawEnd (a:Int) (l:List Int) (h:tableM a l=true):Ev (fun k=>laws_FnTables.j2 k (strOfNums (textTb a l)) true a l a (l.map (fun x=>1 - x)) a (l.map (fun x=>1 - x)) a (l.reverse.map (fun x=>1 - x))) true:=by
 have hl16:l.length≤16:=by
  obtain ⟨_,_,_,_,h2,_⟩:=zz27 h
  exact h2
 have hb:∀ x∈l,0≤x∧x≤1:=by
  obtain ⟨_,_,_,_,_,h3⟩:=zz27 h
  exact h3
 have hnt:=zz133 h
 have hp:=zz89 (u8 (textTb a l)) (by unfold u8 textTb;simp;omega)
 rw [zz96 h,← u8_text] at hp;have hn:=zz53 a (l.map (fun x=>1 - x)) (by rw [List.length_map];omega)
 unfold notR at hn;rw [if_pos hnt.1,not_not] at hn;have hd:=zz58 a (l.reverse.map (fun x=>1 - x)) (by rw [List.length_map,List.length_reverse];omega)
 unfold dualR at hd;rw [if_pos hnt.2,← List.map_reverse,List.reverse_reverse,not_not] at hd;have hlm:(l.map (fun x:Int=>1 - x)).length=l.length:=List.length_map ..
 have hc1:=zz128 1 a l a (l.map (fun x=>1 - x)) (by omega) (by omega)
 have hc2:=zz128 2 a l a (l.map (fun x=>1 - x)) (by omega) (by omega)
 have hs1:=zz126 1 a l a (l.map (fun x=>1 - x)) (by omega) (by omega)
 have hs2:=zz126 2 a l a (l.map (fun x=>1 - x)) (by omega) (by omega)
 have e1:cmbT 1 a l a (l.map (fun x=>1 - x))=(a,cmbL 1 l (l.map (fun x=>1 - x)),true):=if_pos ⟨by omega,by omega,h,hnt.1,rfl⟩
 have e2:cmbT 2 a l a (l.map (fun x=>1 - x))=(a,cmbL 2 l (l.map (fun x=>1 - x)),true):=if_pos ⟨by omega,by omega,h,hnt.1,rfl⟩
 rw [e1] at hc1 hs1;rw [e2] at hc2 hs2;have hz:=cmbL_and l hb
 have n1:(cmbL 1 l (l.map (fun x=>1 - x))).length=l.length:=zz122 1 _ _ (by omega)
 have n2:(cmbL 2 l (l.map (fun x=>1 - x))).length=l.length:=zz122 2 _ _ (by omega)
 have q1:=qSum_ev (cmbL 1 l (l.map (fun x=>1 - x))) (by omega) 0 (by omega) hz.1
 have q2:=qSum_ev (cmbL 2 l (l.map (fun x=>1 - x))) (by omega) 1 (by omega) hz.2
 rw [n1,Int.mul_zero] at q1;rw [n2,Int.mul_one] at q2;have t0:=zz130 a l (by omega)
 have t1:=zz130 a (cmbL 1 l (l.map (fun x=>1 - x))) (by omega)
 have t2:=zz130 a (cmbL 2 l (l.map (fun x=>1 - x))) (by omega)
 apply ev_up;simp only [laws_FnTables.j2];refine ev_p (by trivial) (Ev.bind hp (Ev.bind hn (Ev.bind hd (Ev.bind hc1 (Ev.bind hc2 (Ev.bind hs1 (Ev.bind hs2 ?_)))))))
 refine ev_p (by trivial) (Ev.bind t0 (ev_p (by trivial) (ev_p (by trivial) (Ev.bind t0 (ev_p (by trivial) (ev_p (by trivial) (Ev.bind t0 (ev_p (by trivial) (ev_p (by trivial) (ev_p (by trivial) (ev_p (by trivial) (ev_p (by trivial) (Ev.bind t1 (ev_p (by trivial) (Ev.bind t2 (ev_p (by trivial) (Ev.bind q1 (ev_p (by trivial) (Ev.bind q2 ?_)))))))))))))))))))
 rw [beq_self_eq_true];exact Ev.now _
theorem lawLoop (x6:ByteArray) (x7:Bool) (kind:Int) (hk:1≤kind∧kind≤4) (t0:Int) (t1:List Int) (u0:Int) (u1:List Int) (v0:Int) (v1:List Int) (w0:Int) (w1:List Int) (A B ys:List Int) (aa bb:Int) (hA:A.length≤16) (R:Bool)
  (hR:Ev (fun k=>laws_FnTables.j2 k x6 x7 t0 t1 u0 u1 v0 v1 w0 w1) R) (r:List Int):∀ (s p q u:List Int),A=p++r→B=q++s→ys=u++cmbL kind r s→q.length=p.length→u.length=p.length→r.length=s.length→(∀ x∈r,0≤x∧x≤1)→(∀ x∈s,0≤x∧x≤1) →
  Ev (fun k=>laws_FnTables.l0 k x6 x7 kind ys (ys.length:Int) ((p.length:Nat):Int) t0 t1 u0 u1 v0 v1 w0 w1 aa A bb B) R:=by
 induction r with
 | nil =>
  intro s p q u eA eB eY hq hu hrs _ _;have hy:ys.length=p.length:=by rw [eY];simp [cmbL];omega
  apply ev_up;simp only [laws_FnTables.l0];exact ev_n (by omega) hR
 | cons x r ih =>
  intro s p q u eA eB eY hq hu hrs hr hs;match s,hrs,hs,eB,eY with
  | y :: s,hrs,hs,eB,eY =>
  rw [cmbL] at eY;simp only [List.length_cons] at hrs;have hcl:=zz122 kind r s (by omega)
  have hy:ys.length=p.length+r.length+1:=by rw [eY];simp;omega
  have hAl:A.length=p.length+r.length+1:=by rw [eA];simp;omega
  have hBl:B.length=p.length+r.length+1:=by rw [eB];simp;omega
  have r1:rd ys ((p.length:Nat):Int)=cmbV kind x y:=by rw [eY];exact rdA (by omega)
  have r2:rd A ((p.length:Nat):Int)=x:=by rw [eA];exact rdA rfl
  have r3:rd B ((p.length:Nat):Int)=y:=by rw [eB];exact rdA (by omega)
  have hnext:=ih s (p ++ [x]) (q ++ [y]) (u ++ [cmbV kind x y]) (by rw [eA];simp) (by rw [eB];simp) (by rw [eY];simp) (by simp;omega) (by simp;omega) (by omega) (fun z hz=>hr z (List.mem_cons_of_mem _ hz)) (fun z hz=>hs z (List.mem_cons_of_mem _ hz))
  rw [List.length_append,List.length_singleton] at hnext;have hj:∀ b:Bool,b=true→Ev (fun k=>laws_FnTables.j1 k x6 x7 kind b ys (ys.length:Int) ((p.length:Nat):Int) t0 t1 u0 u1 v0 v1 w0 w1 aa A bb B) R:=fun b hb=>by
   subst hb;apply ev_up;simp only [laws_FnTables.j1];rw [wN (n:=((p.length:Nat):Int)+1) (m:=p.length+1) (by omega) (by omega)]
   exact ev_p (by trivial) hnext
  have hx:=hr x (by simp)
  have hyb:=hs y (by simp)
  apply ev_up;simp only [laws_FnTables.l0];rw [r1,r2,r3];refine ev_p (by omega) (ev_p (by omega) (ev_p (by omega) (ev_p (by omega) (ev_p (by omega) ?_))))
  clear r1 r2 r3 hnext ih eA eB eY hr hs hR
  obtain hk' | hk' | hk' | hk':kind=1∨kind=2∨kind=3∨kind=4:=by omega
  all_goals subst hk'
  all_goals (obtain hx' | hx':x=0∨x=1:=by omega)
  all_goals subst hx'
  all_goals (obtain hy' | hy':y=0∨y=1:=by omega)
  all_goals subst hy'
  all_goals repeat (first | exact hj _ (by decide) | refine ev_p (by decide) ?_ | refine ev_n (by decide) ?_)
theorem FnTables (l0:List Int) (l1:List Int):l0.length≤maxLen→l0.length * 1≤140737488351232→(∀ x∈l0,(Lit.int .u8 x).wf=true)→l1.length≤maxLen→l1.length * 1≤140737488351232→(∀ x∈l1,(Lit.int .u8 x).wf=true)→∃ k,laws_FnTables.f k l0 l1=some true:=by
 intro _ hA hA8 _ hB hB8;have hc:=bytes_of hA hA8
 have hm:=bytes_of hB hB8
 obtain ⟨n,ys,d1,hyl⟩:=zz110 hc
 obtain ⟨kind,a,l,b,m,d2,hl,hml⟩:=zz112 hm
 obtain ⟨s,d3,hsl⟩:=zz117 hm
 obtain ⟨vn,vs,zs,d4,hvl,hzl⟩:=zz119 hm
 have i1:=zz45 n ys (by omega)
 have s1:=zz48 n ys (by omega)
 have i2:=zz53 n ys (by omega)
 have s2:=zz54 n ys (by omega)
 have i3:=zz58 n ys (by omega)
 have s3:=zz59 n ys (by omega)
 have i4:=zz128 kind a l b m (by omega) (by omega)
 have s4:=zz126 kind a l b m (by omega) (by omega)
 have hsz:s.data.toList.length≤1000:=by
  have:s.data.toList.length=s.size:=Array.length_toList
  omega
 have i5:=zz89 s.data.toList hsz
 have s5:=zz92 s.data.toList hsz
 rw [zz100] at s5;rw [mkB_self] at i5 s5;obtain ⟨i6,s6⟩:=zz109 vn vs zs (by omega) (by omega)
 have i7:=zz30 n ys (by omega)
 have e1:(textTR n ys).2=tableM n ys:=by
  unfold textTR;cases tableM n ys <;> rfl
 have e2:(notR n ys).2.2=tableM n ys:=by
  unfold notR;cases tableM n ys <;> rfl
 have e3:(dualR n ys).2.2=tableM n ys:=by
  unfold dualR;cases tableM n ys <;> rfl
 have l2:(notR n ys).2.1.length≤1000:=by
  unfold notR;split
  ·show (ys.map _).length≤1000
   rw [List.length_map];omega
  ·simp
 have l3:(dualR n ys).2.1.length≤1000:=by
  unfold dualR;split
  ·show (ys.reverse.map _).length≤1000
   rw [List.length_map,List.length_reverse];omega
  ·simp
 have l4:(cmbT kind a l b m).2.1.length≤1000:=by
  unfold cmbT;split
  ·rename_i c
   show (cmbL kind l m).length≤1000
   obtain ⟨n1,e,_,g1,_,_⟩:=zz27 c.2.2.1
   obtain ⟨n2,e',_,g2,_,_⟩:=zz27 c.2.2.2.1
   have:n1=n2:=by have:=c.2.2.2.2;omega
   subst this;rw [zz122 kind l m (by omega)]
   omega
  ·simp
 have l5:(parseI s.data.toList).2.1.length≤1000:=by
  rcases zz98 s.data.toList with h | ⟨a,l,h,e⟩
  ·rw [h];simp [rejT]
  ·rw [e,zz96 h]
   obtain ⟨_,_,_,_,g2,_⟩:=zz27 h
   show l.length≤1000
   omega
 have q2:=zz130 (notR n ys).1 (notR n ys).2.1 l2
 have q3:=zz130 (dualR n ys).1 (dualR n ys).2.1 l3
 have q4:=zz130 (cmbT kind a l b m).1 (cmbT kind a l b m).2.1 l4
 have q5:=zz130 (parseI s.data.toList).1 (parseI s.data.toList).2.1 l5
 have hend:Ev (fun k=>laws_FnTables.j2 k (textTR n ys).1 (textTR n ys).2 n ys (notR n ys).1 (notR n ys).2.1 (notR n ys).1 (notR n ys).2.1 (dualR n ys).1 (dualR n ys).2.1) true:=by
  by_cases ht:tableM n ys=true
  ·unfold textTR notR dualR
   rw [if_pos ht,if_pos ht,if_pos ht];exact lawEnd n ys ht
  ·apply ev_up
   simp only [laws_FnTables.j2];exact ev_n (by rw [e1];exact ht) (Ev.now _)
 apply ev_get
 unfold laws_FnTables.f;refine ev_ite (fun _=>Ev.now _) (fun _=>?_)
 refine Ev.bind d1 (Ev.bind i1 (Ev.bind s1 (Ev.bind i2 (Ev.bind s2 (Ev.bind i3 (Ev.bind s3 (Ev.bind d2 (Ev.bind i4 (Ev.bind s4 (Ev.bind d3 (Ev.bind i5 (Ev.bind s5 (Ev.bind d4 (Ev.bind i6 (Ev.bind s6 ?_)))))))))))))))
 dsimp only;refine ev_n (by simp) (ev_p (by trivial) (ev_n (by simp) (Ev.bind q2 (ev_p (by trivial) (ev_n (by simp) (Ev.bind q3 (ev_p (by trivial) (ev_n (by simp) (Ev.bind q4 (ev_p (by trivial) (ev_n (by simp) (Ev.bind q5 (ev_p (by trivial) (ev_n (by simp) (ev_p (by trivial) (Ev.bind i7 ?_))))))))))))))))
 rw [e1,e2,e3];refine ev_n (by simp) (ev_n (by simp) (ev_n (by simp) (ev_ite (fun c5=>?_) (fun _=>?_))))
 ·have cc:1≤kind∧kind≤4∧tableM a l=true∧tableM b m=true∧a=b:=by
   unfold cmbT at c5;split at c5
   ·assumption
   ·exact absurd c5 (by simp)
  have ev:(cmbT kind a l b m).2.1=cmbL kind l m:=by
   unfold cmbT;rw [if_pos cc]
  obtain ⟨n1,en1,_,g1,g2,g3⟩:=zz27 cc.2.2.1
  obtain ⟨n2,en2,_,k1,k2,k3⟩:=zz27 cc.2.2.2.1
  have:n1=n2:=by have:=cc.2.2.2.2;omega
  subst this;rw [← e1];exact lawLoop (textTR n ys).1 (textTR n ys).2 kind ⟨cc.1,cc.2.1⟩ n ys (notR n ys).1 (notR n ys).2.1 (notR n ys).1 (notR n ys).2.1 (dualR n ys).1 (dualR n ys).2.1 l m _ a b g2 true hend l m [] [] [] rfl rfl ev rfl rfl (by omega) g3 k3
 ·rw [← e1]
  exact hend
end Go.Proofs.YtlnhpkjioppbiaaDoor.Pure
