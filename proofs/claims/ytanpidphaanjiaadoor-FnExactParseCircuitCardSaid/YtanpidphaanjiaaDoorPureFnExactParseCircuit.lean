/- The pure part of the law FnExactParseCircuit: what the program and the reference compute is the same, for all arguments. Conditions: the numbers are of Go's int, the lengths of slices are. -/
import Derived.Test.YtanpidphaanjiaaDoorSFnExactParseCircuitx11
import Derived.Test.YtanpidphaanjiaaDoorVPCKit
set_option linter.unusedVariables false
set_option linter.unusedSimpArgs false
namespace Go.Proofs.YtanpidphaanjiaaDoor.Pure
open Go.RowKit Go.Proofs.YtanpidphaanjiaaDoor.QFnExactParseCircuit Go.Proofs.YtanpidphaanjiaaDoorW.PrintWords Go.Proofs.YtanpidphaanjiaaDoorW.PrintLast Go.Proofs.YtanpidphaanjiaaDoor.Open Go.Proofs.YtanpidphaanjiaaDoor.Kit
theorem zz0 (a b:List Int):strOfNums (a++b)=strOfNums a++strOfNums b:=by
 apply ByteArray.ext
 simp [strOfNums,ByteArray.data_append]
theorem zz1 (a:List Int):(strOfNums a).size=a.length:=by
 simp [strOfNums,ByteArray.size]
def mkB (l:List UInt8):ByteArray:=⟨l.toArray⟩
theorem mkB_size (l:List UInt8):(mkB l).size=l.length:=by simp [mkB,ByteArray.size]
theorem mkB_data (l:List UInt8):(mkB l).data.toList=l:=by simp [mkB]
theorem zz5 (l:List UInt8):(mkB l).toList=l:=by rw [Lib.toList_data,mkB_data]
theorem mkB_self (a:ByteArray):mkB a.data.toList=a:=by
 apply Go.WideShapes.bytes_inj
 rw [mkB_data]
theorem mkB_bt {p r:List UInt8} {x:UInt8} {i:Int} (hi:i=p.length):bt (mkB (p++x :: r)) i=(x.toNat:Int):=by
 subst hi;unfold bt;rw [dif_pos (by rw [mkB_size];simp)]
 simp [mkB,ByteArray.getElem_eq_getElem_data]
theorem ext_list (s:ByteArray) (a b:Nat):(s.extract a b).data.toList=(s.data.toList.take b).drop a:=by
 simp [ByteArray.data_extract,Array.toList_extract,List.extract_eq_take_drop,List.drop_take]
theorem zz9 {p m r:List UInt8} {a b:Nat} (ha:a=p.length) (hb:b=p.length+m.length):(mkB (p++(m++r))).extract a b=mkB m:=by
 apply Go.WideShapes.bytes_inj
 rw [ext_list,mkB_data,mkB_data,ha,hb,← List.append_assoc,List.take_left' (by simp),List.drop_left' rfl]
def splitA (c:UInt8) (cur:List UInt8):List UInt8→List (List UInt8)
 | [] => [cur]
 | x :: r=>if x=c then cur :: splitA c [] r else splitA c (cur ++ [x]) r
theorem zz11 (c:UInt8) (r:List UInt8):∀ cur,1≤(splitA c cur r).length∧(splitA c cur r).length≤r.length+1:=by
 induction r with
 | nil=>intro cur;simp [splitA]
 | cons x r ih =>
  intro cur;rw [splitA];split
  ·have:=ih []
   simp only [List.length_cons];omega
  ·have:=ih (cur ++ [x])
   simp only [List.length_cons];omega
theorem zz12 (c:UInt8) (r cur:List UInt8):∃ h t,splitA c cur r=h :: t:=by
 have:=zz11 c r cur
 match e:splitA c cur r with
 | []=>rw [e] at this;simp at this
 | h :: t=>exact ⟨h,t,rfl⟩
theorem zz13 (c:UInt8) (b:List UInt8) (a:List UInt8):∀ cur,c∉a→splitA c cur (a++c :: b)=(cur++a) :: splitA c [] b:=by
 induction a with
 | nil=>intro cur _;simp [splitA]
 | cons x a ih =>
  intro cur h;rw [List.mem_cons,not_or] at h;rw [List.cons_append,splitA,if_neg (fun e=>h.1 e.symm),ih _ h.2]
  simp
theorem zz14 (c:UInt8) (a:List UInt8):∀ cur,c∉a→splitA c cur a=[cur++a]:=by
 induction a with
 | nil=>intro cur _;simp [splitA]
 | cons x a ih =>
  intro cur h;rw [List.mem_cons,not_or] at h;rw [splitA,if_neg (fun e=>h.1 e.symm),ih _ h.2]
  simp
def joinA (c:UInt8):List (List UInt8)→List UInt8
 | [] => []
 | [x]=>x
 | x :: y :: r=>x++c :: joinA c (y :: r)
theorem zz16 (c:UInt8) (r:List UInt8):∀ cur,joinA c (splitA c cur r)=cur++r:=by
 induction r with
 | nil=>intro cur;simp [splitA,joinA]
 | cons x r ih =>
  intro cur;rw [splitA];split
  ·rename_i e
   obtain ⟨h,t,ht⟩:=zz12 c r []
   have:=ih []
   rw [ht] at this ⊢
   rw [joinA,this,e];simp
  ·rw [ih]
   simp
def catA (c:UInt8):List (List UInt8)→List UInt8
 | [] => []
 | x :: r=>x++c :: catA c r
theorem zz18 (c:UInt8) (z:List UInt8) (m:List (List UInt8)):∀ x,joinA c (x :: (m ++ [z]))=x++c :: (catA c m++z):=by
 induction m with
 | nil=>intro x;simp [joinA,catA]
 | cons y m ih =>
  intro x;rw [List.cons_append,joinA,ih y,catA];simp
theorem zz19 (c:UInt8) (r:List UInt8):∀ cur,∀ x∈splitA c cur r,x.length≤cur.length+r.length:=by
 induction r with
 | nil=>intro cur x hx;simp [splitA] at hx;rw [hx];simp
 | cons y r ih =>
  intro cur x hx;rw [splitA] at hx;split at hx
  ·rcases List.mem_cons.1 hx with e | e
   ·rw [e];omega
   ·have:=ih [] x e
    simp at this ⊢
    omega
  ·have:=ih _ x hx
   simp at this ⊢
   omega
theorem zz20 (bs:List UInt8) (c:UInt8) (ci:Int) (hci:ci=(c.toNat:Int)) (hb:bs.length≤1048576) (r:List UInt8):∀ (p cur:List UInt8) (acc:List ByteArray),bs=p++(cur++r)→acc.length≤p.length →
  Ev (fun k=>spec_l1Split.l0 k (mkB bs) ci acc (p.length:Int) ((p.length+cur.length:Nat):Int)) (acc++(splitA c cur r).map mkB):=by
 induction r with
 | nil =>
  intro p cur acc e ha;have hlen:bs.length=p.length+cur.length:=by rw [e];simp
  apply ev_up;simp only [spec_l1Split.l0];rw [mkB_size];refine ev_n (by omega) (ev_p (by omega) (ev_p (by omega) (ev_p (by omega) (ev_eq (Ev.now _) ?_))))
  have:(mkB bs).extract (p.length:Int).toNat (bs.length)=mkB cur:=by
   rw [e];exact zz9 (by simp) (by simp)
  rw [this,splitA];rfl
 | cons x r ih =>
  intro p cur acc e ha;have hlen:bs.length=p.length+cur.length+r.length+1:=by rw [e];simp;omega
  have hbt:bt (mkB bs) ((p.length+cur.length:Nat):Int)=(x.toNat:Int):=by
   rw [e,← List.append_assoc];exact mkB_bt (by simp)
  apply ev_up;simp only [spec_l1Split.l0];rw [mkB_size,hbt,hci,wN (n:=((p.length+cur.length:Nat):Int)+1) (m:=p.length+cur.length+1) (by omega) (by omega)]
  refine ev_p (by omega) (ev_p (by omega) (ev_ite (fun h=>?_) (fun h=>?_)))
  ·have hx:x=c:=UInt8.toNat_inj.1 (by omega)
   refine ev_p (by omega) (ev_p (by omega) (ev_p (by omega) (ev_p (by omega) ?_)))
   have h2:(mkB bs).extract (p.length:Int).toNat (((p.length+cur.length:Nat):Int)).toNat=mkB cur:=by
    rw [e];exact zz9 (by simp) (by omega)
   have:=ih (p++(cur ++ [x])) [] (acc ++ [mkB cur]) (by rw [e];simp) (by simp;omega)
   rw [h2,← hci];rw [splitA,if_pos hx];simp only [List.length_append,List.length_singleton,List.length_nil,Nat.add_zero,← Nat.add_assoc,List.append_assoc] at this;exact this
  ·have hx:x≠c:=fun hh=>h (by rw [hh])
   have:=ih p (cur ++ [x]) acc (by rw [e];simp) ha
   rw [splitA,if_neg hx,← hci];simp only [List.length_append,List.length_singleton,← Nat.add_assoc] at this;exact this
theorem zz21 (bs:List UInt8) (c:UInt8) (ci:Int) (hci:ci=(c.toNat:Int)) (hb:bs.length≤1048576):Ev (fun k=>spec_l1Split.f k (mkB bs) ci) ((splitA c [] bs).map mkB):=by
 unfold spec_l1Split.f;exact zz20 bs c ci hci hb bs [] [] [] rfl (by simp)
theorem zz22 (c:UInt8) (b a:List UInt8) (h:c∉a):Lib.indexByte (a++c :: b) c=(a.length:Int):=by
 induction a with
 | nil=>simp [Lib.indexByte]
 | cons x a ih =>
  rw [List.mem_cons,not_or] at h;have hi:=ih h.2
  have hx:(x == c)=false:=by simpa using fun e=>h.1 e.symm
  rw [List.cons_append,Lib.indexByte,hx,hi,if_neg (by simp),if_neg (by simp),List.length_cons]
  omega
theorem zz23 (c:UInt8) (n:Nat):∀ (r:List UInt8) (d z:List ByteArray),r.count c=n→z.length=n+1→r.length≤1048576→d.length+n≤1048577 →
  Ev (fun k=>strings_genSplit.l0 k (mkB r) (mkB [c]) 0 ((d.length+n:Nat):Int) (d++z) (d.length:Int)) (d++(splitA c [] r).map mkB):=by
 induction n with
 | zero =>
  intro r d z hn hz hr hd;obtain ⟨y,rfl⟩:=List.length_eq_one_iff.1 hz
  apply ev_up;simp only [strings_genSplit.l0];rw [wN (n:=(d.length:Int)+1) (m:=d.length+1) (by omega) (by omega),List.length_append,List.length_singleton]
  refine ev_n (by omega) (ev_p (by omega) (ev_p (by omega) (ev_p (by omega) (ev_p (by omega) (ev_eq (Ev.now _) ?_)))))
  rw [zz14 c r [] (List.count_eq_zero.1 hn)];simp
  exact List.take_of_length_le (by simp)
 | succ n ih =>
  intro r d z hn hz hr hd;have hm:c∈r:=List.count_pos_iff.1 (by omega)
  obtain ⟨a,b,rfl,ha⟩:=List.eq_append_cons_of_mem hm
  match z,hz with
  | y :: z,hz =>
  rw [List.count_append,List.count_cons_self,List.count_eq_zero.2 ha] at hn;simp only [List.length_append,List.length_cons] at hr hz;have hidx:strings_Index.f (mkB (a++c :: b)) (mkB [c])=some (a.length:Int):=by
   unfold strings_Index.f;rw [mkB_data,mkB_data];show some (Lib.indexByte (a++c :: b) c)=_
   rw [zz22 c b a ha]
  have e1:(mkB (a++c :: b)).extract 0 ((a.length:Int)).toNat=mkB a:=by
   have:=zz9 (p:=[]) (m:=a) (r:=c :: b) (a:=0) (b:=((a.length:Int)).toNat) rfl (by simp)
   simpa using this
  have e2:(mkB (a++c :: b)).extract (((a.length+1:Nat):Int)).toNat (a++c :: b).length=mkB b:=by
   have:=zz9 (p:=a ++ [c]) (m:=b) (r:=[]) (a:=(((a.length+1:Nat):Int)).toNat) (b:=(a++c :: b).length) (by simp) (by simp;omega)
   simpa using this
  have e3:(d++y :: z).set ((d.length:Int)).toNat (mkB a)=(d ++ [mkB a])++z:=setA rfl
  have:=ih b (d ++ [mkB a]) z (by omega) (by omega) (by omega) (by simp;omega)
  apply ev_up;simp only [strings_genSplit.l0];refine ev_p (by omega) (Ev.bind (ev_c hidx) (ev_n (by omega) ?_))
  rw [mkB_size,mkB_size,show ((a.length:Int)+0)=(a.length:Int) by omega,w64 (n:=(a.length:Int)) (by omega) (by omega),wN (n:=(a.length:Int)+(([c]:List UInt8).length:Int)) (m:=a.length+1) (by simp) (by omega),wN (n:=(d.length:Int)+1) (m:=d.length+1) (by omega) (by omega),e1,e2,e3]
  refine ev_p (by omega) (ev_p (by simp;omega) (ev_p (by omega) (ev_p (by simp;omega) (ev_p (by omega) (ev_p (by simp;omega) ?_)))))
  rw [zz13 c b a [] ha];simp only [List.length_append,List.length_singleton,List.append_assoc] at this;rw [show d.length+1+n=d.length+(n+1) by omega] at this
  simpa using this
theorem zz24 (bs:List UInt8) (c:UInt8) (hb:bs.length≤1048576):Ev (fun k=>strings_Split.f k (mkB bs) (mkB [c])) ((splitA c [] bs).map mkB):=by
 have hc:strings_Count.f (mkB bs) (mkB [c])=some ((bs.count c:Nat):Int):=by
  unfold strings_Count.f;rw [mkB_data,mkB_data];rfl
 have hle:bs.count c≤bs.length:=List.count_le_length
 unfold strings_Split.f strings_genSplit.f;refine Ev.bind (r:=(splitA c [] bs).map mkB) (ev_n (by decide) (ev_n (by rw [zz5];simp) (ev_p (by decide) (Ev.bind (ev_c hc) ?_)))) (Ev.now _)
 apply ev_up;simp only [strings_genSplit.j0];rw [mkB_size,wN (n:=((bs.count c:Nat):Int)+1) (m:=bs.count c+1) (by omega) (by omega),wN (n:=((bs.length:Nat):Int)+1) (m:=bs.length+1) (by omega) (by omega),show mn ((bs.count c+1:Nat):Int) ((bs.length+1:Nat):Int)=((bs.count c+1:Nat):Int) from if_neg (by omega),wN (n:=((bs.count c+1:Nat):Int) - 1) (m:=bs.count c) (by omega) (by omega)]
 refine ev_p (by omega) (ev_p (by omega) ?_)
 have:=zz23 c (bs.count c) bs [] (List.replicate (((bs.count c+1:Nat):Int)).toNat (⟨#[]⟩:ByteArray)) rfl (by simp) hb (by simp;omega)
 simpa using this
def numD (n:Int):List Int:=if n<10 then [48+n] else [48+n / 10,48+n % 10]
theorem zz26 (n:Int):1≤(numD n).length∧(numD n).length≤2:=by
 unfold numD;split <;> simp
theorem l1Num_ev (n:Int) (h0:0≤n) (h1:n<100):Ev (fun k=>spec_l1Num.f k n) (strOfNums (numD n)):=by
 unfold numD;by_cases h:n<10
 ·rw [if_pos h]
  apply ev_up;simp only [spec_l1Num.f];refine ev_p h (ev_eq (Ev.now _) ?_)
  rw [w64 (by omega) (by omega)]
  congr 2
  omega
 ·rw [if_neg h]
  apply ev_up;simp only [spec_l1Num.f];have e1:Int.tdiv n 10=n / 10:=Int.tdiv_eq_ediv_of_nonneg h0
  have e2:Int.tmod n 10=n % 10:=Int.tmod_eq_emod_of_nonneg h0
  rw [e1,e2,w64 (n:=n / 10) (by omega) (by omega),w64 (n:=48+n % 10) (by omega) (by omega)]
  have hd:Ev (fun k=>spec_l1Num.f k (n / 10)) (strOfNums [48+n / 10]):=by
   apply ev_up;simp only [spec_l1Num.f];refine ev_p (by omega) (ev_eq (Ev.now _) ?_)
   rw [w64 (by omega) (by omega)]
   congr 2
   omega
  refine ev_n h (Ev.bind hd (Ev.bind (ev_c rfl) (ev_p (by rw [zz1,zz1];simp) (ev_eq (Ev.now _) ?_))))
  rw [← zz0,show (48+n % 10) % 256=48+n % 10 by omega]
  rfl
def dV:List UInt8→Nat→Option Nat
 | [],v=>some v
 | c :: r,v=>if c.toNat<48∨57<c.toNat then none else dV r (10 * v+(c.toNat - 48))
def numL (mx:Nat) (w:List UInt8):Option Nat:=if 1≤w.length∧w.length≤mx∧¬ (w.head?=some 48∧1<w.length) then dV w 0 else none
def rv:Option Nat→Int
 | some n=>n
 | none => -1
def dv:Option Nat→Int×Bool
 | some n=>(n,true)
 | none=>(0,false)
theorem dV_bound (r:List UInt8):∀ (v n:Nat),v<10 ^ n→∀ u,dV r v=some u→v≤u∧u<10 ^ (n+r.length):=by
 induction r with
 | nil=>intro v n hv u h;rw [dV] at h;injection h with h;subst h;exact ⟨Nat.le_refl _,hv⟩
 | cons c r ih =>
  intro v n hv u h;rw [dV] at h;split at h
  ·exact absurd h (by simp)
  ·rename_i hc
   have h2:=ih _ (n+1) (by rw [Nat.pow_succ];omega) u h
   rw [List.length_cons,show n+(r.length+1)=n+1+r.length by omega]
   exact ⟨by omega,h2.2⟩
theorem rv_I64 (w:List UInt8):I64 (rv (numL 6 w)):=by
 unfold numL I64;split
 ·rename_i h
  match e:dV w 0 with
  | none=>simp [rv]
  | some u =>
   have:=(dV_bound w 0 0 (by simp) u e).2
   have h2:10 ^ (0+w.length)≤10 ^ 6:=Nat.pow_le_pow_right (by omega) (by omega)
   simp only [rv];omega
 ·simp [rv]
theorem zz34 (w:List UInt8) (hl:w.length≤18) (r:List UInt8):∀ (p:List UInt8) (v:Nat),w=p++r→v<10 ^ p.length→Ev (fun k=>spec_l1Read.l0 k (mkB w) (v:Int) (p.length:Int)) (rv (dV r v)):=by
 induction r with
 | nil =>
  intro p v e hv;have hlen:w.length=p.length:=by rw [e];simp
  apply ev_up;simp only [spec_l1Read.l0];rw [mkB_size];exact ev_n (by omega) (Ev.now _)
 | cons x r ih =>
  intro p v e hv;have hlen:w.length=p.length+r.length+1:=by rw [e];simp;omega
  have hbt:bt (mkB w) (p.length:Int)=(x.toNat:Int):=by rw [e];exact mkB_bt rfl
  have hp:10 ^ (p.length+1)≤10 ^ 18:=Nat.pow_le_pow_right (by omega) (by omega)
  have hs:10 ^ (p.length+1)=10 ^ p.length * 10:=Nat.pow_succ ..
  apply ev_up;simp only [spec_l1Read.l0];rw [mkB_size,hbt,dV];refine ev_p (by omega) (ev_p (by omega) (ev_ite (fun h=>?_) (fun h=>ev_ite (fun h2=>?_) (fun h2=>?_))))
  ·rw [if_pos (by omega)]
   exact Ev.now _
  ·rw [if_pos (by omega)]
   exact Ev.now _
  ·rw [if_neg (by omega),w64 (n:=10 * (v:Int)) (by omega) (by omega),wN (n:=10 * (v:Int)+((x.toNat:Int) - 48) % 256) (m:=10 * v+(x.toNat - 48)) (by omega) (by omega),wN (n:=(p.length:Int)+1) (m:=p.length+1) (by omega) (by omega)]
   have:=ih (p ++ [x]) (10 * v+(x.toNat - 48)) (by rw [e];simp) (by rw [List.length_append,List.length_singleton];omega)
   rw [List.length_append,List.length_singleton] at this;exact this
theorem l1In_q (a b c:Int):spec_l1In.f a b c=some (decide (b≤a∧a≤c)):=by
 unfold spec_l1In.f;split
 ·congr 1
  exact decide_eq_decide.2 ⟨fun h=>⟨by omega,h⟩,fun h=>h.2⟩
 ·rw [decide_eq_false (by omega)]
theorem zz36 (w:List UInt8):Ev (fun k=>spec_l1Read.f k (mkB w)) (rv (numL 6 w)):=by
 unfold spec_l1Read.f;rw [l1In_q,mkB_size];refine Ev.bind (ev_c rfl) (ev_ite (fun h=>?_) (fun h=>?_))
 ·have h':=of_decide_eq_true h
  match w with
  | []=>simp at h'
  | x :: r =>
   have hbt:bt (mkB (x :: r)) 0=(x.toNat:Int):=mkB_bt (p:=[]) rfl
   rw [hbt];have go:numL 6 (x :: r)=dV (x :: r) 0→Ev (fun k=>spec_l1Read.j0 k (mkB (x :: r)) false) (rv (numL 6 (x :: r))):=fun e=>by
    rw [e];apply ev_up;simp only [spec_l1Read.j0];exact ev_n (by simp) (zz34 (x :: r) (by omega) (x :: r) [] 0 rfl (by simp))
   refine ev_p (by omega) (ev_ite (fun h2=>?_) (fun h2=>?_))
   ·have hx:x=48:=UInt8.toNat_inj.1 (show x.toNat=48 by omega)
    by_cases h3:(((x :: r).length:Int)>1)
    ·rw [decide_eq_true h3]
     have:numL 6 (x :: r)=none:=by
      unfold numL;rw [if_neg];rintro ⟨_,_,hn⟩
      exact hn ⟨by rw [hx];rfl,by omega⟩
     rw [this];apply ev_up;simp only [spec_l1Read.j0];exact ev_p (by trivial) (Ev.now _)
    ·rw [decide_eq_false h3]
     refine go ?_
     unfold numL;rw [if_pos ⟨by omega,by omega,fun hh=>h3 (by omega)⟩]
   ·refine go ?_
    have hne:¬ ((x :: r).head?=some 48∧1<(x :: r).length):=by
     rintro ⟨hh,_⟩
     rw [List.head?_cons] at hh;injection hh with hh
     exact h2 (by rw [hh];decide)
    unfold numL;rw [if_pos ⟨by omega,by omega,hne⟩]
 ·have:numL 6 w=none:=by
   unfold numL;rw [if_neg];rintro ⟨h1,h2,_⟩
   exact h (decide_eq_true (by omega))
  rw [this];apply ev_up;simp only [spec_l1Read.j0];exact ev_p (by trivial) (Ev.now _)
def u8 (xs:List Int):List UInt8:=xs.map (fun n=>UInt8.ofNat n.toNat)
theorem zz38 (a b:List Int):u8 (a++b)=u8 a++u8 b:=List.map_append
theorem u8_cons (a:Int) (b:List Int):u8 (a :: b)=UInt8.ofNat a.toNat :: u8 b:=rfl
theorem u8_text (xs:List Int):strOfNums xs=mkB (u8 xs):=rfl
theorem u8_dig {c:UInt8} {n:Int} (h:n=c.toNat):UInt8.ofNat n.toNat=c:=by
 apply UInt8.toNat_inj.1
 have:=c.toNat_lt
 rw [h];simp
theorem zz42 (mx:Nat) (w:List UInt8) (v:Nat) (h:numL mx w=some v) (hv:v<100):w=u8 (numD (v:Int)):=by
 unfold numL at h;split at h
 ·rename_i hc
  match w with
  | []=>simp at hc
  | [c] =>
   rw [dV] at h;split at h
   ·exact absurd h (by simp)
   ·rw [dV] at h
    injection h with h
    unfold numD;rw [if_pos (by omega)]
    show [c]=[UInt8.ofNat (48+(v:Int)).toNat]
    rw [u8_dig (c:=c) (n:=48+(v:Int)) (by omega)]
  | [c,d] =>
   have hc2:c.toNat≠48:=fun e=>hc.2.2 ⟨by rw [List.head?_cons];congr 1;exact UInt8.toNat_inj.1 (by simpa using e),by simp⟩
   rw [dV] at h;split at h
   ·exact absurd h (by simp)
   ·rw [dV] at h
    split at h
    ·exact absurd h (by simp)
    ·rw [dV] at h
     injection h with h
     unfold numD;rw [if_neg (by omega)]
     show [c,d]=[UInt8.ofNat (48+(v:Int) / 10).toNat,UInt8.ofNat (48+(v:Int) % 10).toNat]
     rw [u8_dig (c:=c) (n:=48+(v:Int) / 10) (by omega),u8_dig (c:=d) (n:=48+(v:Int) % 10) (by omega)]
  | c :: d :: e :: r =>
   exfalso
   have hc2:c.toNat≠48:=fun e=>hc.2.2 ⟨by rw [List.head?_cons];congr 1;exact UInt8.toNat_inj.1 (by simpa using e),by simp⟩
   rw [dV] at h;split at h
   ·exact absurd h (by simp)
   ·rw [dV] at h
    split at h
    ·exact absurd h (by simp)
    ·rw [dV] at h
     split at h
     ·exact absurd h (by simp)
     ·have hd:=c.toNat_lt
      have hd:=d.toNat_lt
      have he:=e.toNat_lt
      have:=(dV_bound r _ 4 (by omega) v h).1
      omega
 ·exact absurd h (by simp)
theorem zz43 (n:Int) (h0:0≤n) (h1:n<100):numL 6 (u8 (numD n))=some n.toNat:=by
 obtain ⟨m,rfl⟩:=nat_of h0
 have:∀ m:Fin 100,numL 6 (u8 (numD (m.val:Int)))=some m.val:=by decide +kernel
 exact this ⟨m,by omega⟩
theorem zz44 (n:Int) (h0:0≤n) (h1:n<100):numL 18 (u8 (numD n))=some n.toNat:=by
 obtain ⟨m,rfl⟩:=nat_of h0
 have:∀ m:Fin 100,numL 18 (u8 (numD (m.val:Int)))=some m.val:=by decide +kernel
 exact this ⟨m,by omega⟩
theorem numD_no (n:Int) (h0:0≤n) (h1:n<100):10∉u8 (numD n)∧32∉u8 (numD n):=by
 obtain ⟨m,rfl⟩:=nat_of h0
 have:∀ m:Fin 100,10∉u8 (numD (m.val:Int))∧32∉u8 (numD (m.val:Int)):=by decide +kernel
 exact this ⟨m,by omega⟩
theorem zz46 (w:List UInt8) (hl:w.length≤18) (r:List UInt8):∀ (p:List UInt8) (v:Nat),w=p++r→v<10 ^ p.length→Ev (fun k=>impl_decimal.l0 k (mkB w) (v:Int) (p.length:Int)) (dv (dV r v)):=by
 induction r with
 | nil =>
  intro p v e hv;have hlen:w.length=p.length:=by rw [e];simp
  apply ev_up;simp only [impl_decimal.l0];rw [mkB_size];exact ev_n (by omega) (Ev.now _)
 | cons x r ih =>
  intro p v e hv;have hlen:w.length=p.length+r.length+1:=by rw [e];simp;omega
  have hbt:bt (mkB w) (p.length:Int)=(x.toNat:Int):=by rw [e];exact mkB_bt rfl
  have hp:10 ^ (p.length+1)≤10 ^ 18:=Nat.pow_le_pow_right (by omega) (by omega)
  have hs:10 ^ (p.length+1)=10 ^ p.length * 10:=Nat.pow_succ ..
  apply ev_up;simp only [impl_decimal.l0];rw [mkB_size,hbt,dV];refine ev_p (by omega) (ev_p (by omega) (ev_ite (fun h=>?_) (fun h=>ev_ite (fun h2=>?_) (fun h2=>?_))))
  ·rw [if_pos (by omega)]
   exact Ev.now _
  ·rw [if_pos (by omega)]
   exact Ev.now _
  ·rw [if_neg (by omega),w64 (n:=10 * (v:Int)) (by omega) (by omega),wN (n:=10 * (v:Int)+((x.toNat:Int) - 48) % 256) (m:=10 * v+(x.toNat - 48)) (by omega) (by omega),wN (n:=(p.length:Int)+1) (m:=p.length+1) (by omega) (by omega)]
   have:=ih (p ++ [x]) (10 * v+(x.toNat - 48)) (by rw [e];simp) (by rw [List.length_append,List.length_singleton];omega)
   rw [List.length_append,List.length_singleton] at this;exact this
theorem zz47 (w:List UInt8) (hw:w.length≤1048576):Ev (fun k=>impl_decimal.f k (mkB w)) (dv (numL 18 w)):=by
 unfold impl_decimal.f;rw [mkB_size,zz5];have no:numL 18 w=none→Ev (fun k=>impl_decimal.j0 k (mkB w) true) (dv (numL 18 w)):=fun e=>by
  rw [e];apply ev_up;simp only [impl_decimal.j0];exact ev_p (by trivial) (Ev.now _)
 refine ev_ite (fun h=>no ?_) (fun h=>ev_ite (fun h1=>no ?_) (fun h1=>?_))
 ·rw [h]
  rfl
 ·unfold numL
  rw [if_neg];rintro ⟨_,h2,_⟩
  omega
 ·match w with
  | []=>exact absurd rfl h
  | x :: r =>
   have hbt:bt (mkB (x :: r)) 0=(x.toNat:Int):=mkB_bt (p:=[]) rfl
   rw [hbt];have hl:1≤(x :: r).length:=by simp
   have go:numL 18 (x :: r)=dV (x :: r) 0→Ev (fun k=>impl_decimal.j0 k (mkB (x :: r)) false) (dv (numL 18 (x :: r))):=fun e=>by
    rw [e];apply ev_up;simp only [impl_decimal.j0];exact ev_n (by simp) (zz46 (x :: r) (by omega) (x :: r) [] 0 rfl (by simp))
   refine ev_p (by omega) (ev_ite (fun h2=>?_) (fun h2=>?_))
   ·have hx:x=48:=UInt8.toNat_inj.1 (show x.toNat=48 by omega)
    by_cases h3:(((x :: r).length:Int)>1)
    ·rw [decide_eq_true h3]
     refine no ?_
     unfold numL;rw [if_neg];rintro ⟨_,_,hn⟩
     exact hn ⟨by rw [hx];rfl,by omega⟩
    ·rw [decide_eq_false h3]
     refine go ?_
     unfold numL;rw [if_pos ⟨by omega,by omega,fun hh=>h3 (by omega)⟩]
   ·refine go ?_
    have hne:¬ ((x :: r).head?=some 48∧1<(x :: r).length):=by
     rintro ⟨hh,_⟩
     rw [List.head?_cons] at hh;injection hh with hh
     exact h2 (by rw [hh];decide)
    unfold numL;rw [if_pos ⟨by omega,by omega,hne⟩]
theorem rdGateA {p r:List S47} {x:S47} {i:Int} (hi:i=p.length):rd_T47 (p++x :: r) i=x:=getDA hi
theorem l1In_eq (a b c:Int):spec_l1In.f a b c=some (decide (b≤a∧a≤c)):=by
 unfold spec_l1In.f;by_cases h:b≤a
 ·rw [if_pos h];simp [h]
 ·rw [if_neg h];simp [h]
def inB (a b:Int) (x:Int):Bool:=decide (a≤x∧x≤b)
theorem l1All_l0 (l:List Int) (a b:Int) (hl:l.length≤9223372036854775807) (r:List Int):∀ (p:List Int) (i:Int),i=p.length→l=p++r →
  Ev (fun k=>spec_l1All.l0 k a b l l.length i) (r.all (inB a b)):=by
 induction r with
 | nil =>
  intro p i hi e;have hlen:l.length=p.length:=by rw [e];simp
  apply ev_up;simp only [spec_l1All.l0];exact ev_n (by omega) (Ev.now _)
 | cons x r ih =>
  intro p i hi e;have hlen:l.length=p.length+r.length+1:=by rw [e];simp;omega
  have hx:rd l i=x:=by rw [e];exact rdA hi
  have ih':=ih (p ++ [x]) (i+1) (by simp;omega) (by rw [e];simp)
  apply ev_up;simp only [spec_l1All.l0];refine ev_p (by omega) (ev_p (by omega) (ev_p (by omega) ?_))
  rw [hx,l1In_eq];refine Ev.bind (ev_c rfl) ?_
  refine ev_ite (fun h=>?_) (fun h=>?_)
  ·rw [w64 (by omega) (by omega)]
   refine ev_eq ih' ?_
   rw [List.all_cons,show inB a b x=true from h,Bool.true_and]
  ·refine ev_eq (Ev.now _) ?_
   rw [List.all_cons,show inB a b x=false from decide_eq_false (fun hh=>h (decide_eq_true hh)),Bool.false_and]
theorem l1All_ev (l:List Int) (a b:Int) (hl:l.length≤9223372036854775807):Ev (fun k=>spec_l1All.f k l a b) (l.all (inB a b)):=by
 unfold spec_l1All.f;exact l1All_l0 l a b hl l [] 0 rfl rfl
theorem zz53 (a:Int):spec_ttInputs.f a=some (decide (0≤a∧a≤4)):=by
 unfold spec_ttInputs.f;rw [l1In_eq,Option.bind_some]
def gateOk (w:Int) (g:S47):Bool:=decide (1≤g.f0∧g.f0≤4∧0≤g.f1∧g.f1<w∧0≤g.f2∧g.f2<w∧(g.f0=4→g.f1=g.f2))
def gatesOk (w:Int):List S47→Bool
 | []=>true
 | g :: r=>gateOk w g && gatesOk (w+1) r
def circuitM (n:Int) (gs:List S47) (os:List Int):Bool:=decide (0≤n∧n≤4∧gs.length≤16∧1≤os.length∧os.length≤4) && (gatesOk n gs && os.all (inB 0 (n+gs.length - 1)))
theorem zz57 {n:Int} {gs:List S47} {os:List Int} (h:circuitM n gs os=true) :
  ∃ a:Nat,n=a∧a≤4∧gs.length≤16∧1≤os.length∧os.length≤4∧gatesOk n gs=true∧∀ o∈os,0≤o∧o<n+gs.length:=by
 unfold circuitM at h;rw [Bool.and_eq_true,Bool.and_eq_true,List.all_eq_true] at h;obtain ⟨h1,h2,h3⟩:=h
 obtain ⟨h4,h5,h6,h7,h8⟩:=of_decide_eq_true h1
 obtain ⟨a,rfl⟩:=nat_of h4
 refine ⟨a,rfl,by omega,h6,h7,h8,h2,fun o ho=>?_⟩
 have:=of_decide_eq_true (h3 o ho)
 omega
def nameG (k:Int):List Int:=if k=1 then [97,110,100] else if k=2 then [111,114] else if k=3 then [120,111,114] else [110,111,116]
theorem zz59 (k:Int):(nameG k).length≤3:=by
 unfold nameG;split
 ·simp
 ·split
  ·simp
  ·split <;> simp
def lineG (g:S47):List Int:=nameG g.f0++(32 :: (numD g.f1++((if g.f0=4 then [] else 32 :: numD g.f2) ++ [10])))
def linesG:List S47→List Int
 | [] => []
 | g :: r=>lineG g++linesG r
def outsG:List Int→List Int
 | [] => []
 | o :: r=>32 :: (numD o++outsG r)
def textM (a:Int) (gs:List S47) (os:List Int):List Int:=numD a++(10 :: (linesG gs++([111,117,116]++(outsG os ++ [10]))))
def gateN (g:S47):Prop:=1≤g.f0∧g.f0≤4∧0≤g.f1∧g.f1<100∧0≤g.f2∧g.f2<100
theorem zz65:∀ (gs:List S47) (w:Int),gatesOk w gs=true→w+gs.length≤100→∀ g∈gs,gateN g:=by
 intro gs;induction gs with
 | nil=>intro w _ _ g hg;cases hg
 | cons x r ih =>
  intro w h hw g hg;rw [gatesOk,Bool.and_eq_true] at h;rw [List.length_cons] at hw;rcases List.mem_cons.1 hg with e | e
  ·subst e
   have:=of_decide_eq_true h.1
   unfold gateN;omega
  ·exact ih (w+1) h.2 (by omega) g e
theorem zz66 (g:S47):(lineG g).length≤20:=by
 have h1:=zz59 g.f0
 have h2:=zz26 g.f1
 have h3:=zz26 g.f2
 unfold lineG;split <;> simp <;> omega
theorem zz67 (gs:List S47):(linesG gs).length≤20 * gs.length:=by
 induction gs with
 | nil=>simp [linesG]
 | cons g r ih =>
  have:=zz66 g
  rw [linesG,List.length_append,List.length_cons];omega
def gnamesL:List ByteArray:=[⟨#[97,110,100]⟩,⟨#[111,114]⟩,⟨#[120,111,114]⟩,⟨#[110,111,116]⟩]
theorem name_at {k:Int} (h1:1≤k) (h4:k≤4):rdOf ByteArray.empty gnamesL (k - 1)=strOfNums (nameG k):=by
 have:k=1∨k=2∨k=3∨k=4:=by omega
 rcases this with rfl | rfl | rfl | rfl <;> rfl
theorem lit32:(⟨#[32]⟩:ByteArray)=strOfNums [32]:=rfl
theorem lit10:(⟨#[10]⟩:ByteArray)=strOfNums [10]:=rfl
def kindL (h:List UInt8):Int:=if h=[97,110,100] then 1 else if h=[111,114] then 2 else if h=[120,111,114] then 3 else if h=[110,111,116] then 4 else 0
def gateK (K:Int):List (List UInt8)→Option S47
 | [a]=>if K=4 then match numL 18 a with
  | some x=>some ⟨4,x,x⟩
  | none=>none else none
 | [a,b]=>if 1≤K∧K≤3 then match numL 18 a,numL 18 b with
  | some x,some y=>some ⟨K,x,y⟩
  | _,_=>none else none
 | _=>none
def ciK (K:Int):List (List UInt8)→Option S47
 | [a]=>if K=4 then some ⟨4,rv (numL 6 a),rv (numL 6 a)⟩ else none
 | [a,b]=>if 1≤K∧K≤3 then some ⟨K,rv (numL 6 a),rv (numL 6 b)⟩ else none
 | _=>none
def gateW (line:List UInt8):Option S47:=gateK (kindL ((splitA 32 [] line).headD [])) ((splitA 32 [] line).drop 1)
def ciW (line:List UInt8):Option S47:=ciK (kindL ((splitA 32 [] line).headD [])) ((splitA 32 [] line).drop 1)
def ciR:Option S47→Int×Int×Int×Bool
 | some g=>(g.f0,g.f1,g.f2,true)
 | none=>(0,0,0,false)
theorem rd0 (h:List UInt8) (t:List (List UInt8)):(rdOf ByteArray.empty ((h :: t).map mkB) 0).toList=h:=by
 show (mkB h).toList=h
 exact zz5 h
theorem rdW0 (h:List UInt8) (t:List (List UInt8)):rdOf ByteArray.empty ((h :: t).map mkB) 0=mkB h:=rfl
theorem rdW1 (h a:List UInt8) (t:List (List UInt8)):rdOf ByteArray.empty ((h :: a :: t).map mkB) 1=mkB a:=rfl
theorem rdW2 (h a b:List UInt8) (t:List (List UInt8)):rdOf ByteArray.empty ((h :: a :: b :: t).map mkB) 2=mkB b:=rfl
theorem gnm0:(rdOf ByteArray.empty gnames 0).toList=[97,110,100]:=zz5 _
theorem gnm1:(rdOf ByteArray.empty gnames 1).toList=[111,114]:=zz5 _
theorem gnm2:(rdOf ByteArray.empty gnames 2).toList=[120,111,114]:=zz5 _
theorem gnm3:(rdOf ByteArray.empty gnames 3).toList=[110,111,116]:=zz5 _
theorem zz86 (h:List UInt8) (t:List (List UInt8)) (ht:∀ x∈t,x.length≤1048576) (htl:t.length≤1048576) (K:Int) (h0:0≤K) (h4:K≤4) (b:Bool) (hb:b=true↔¬ ((K=4∧t.length=1)∨(1≤K∧K≤3∧t.length=2))) :
  ∃ p,Ev (fun k=>impl_readGate.j1 k ((h :: t).map mkB) b K 0 0) p∧p.2.2.2=(gateK K t).isSome∧∀ g,gateK K t=some g→p=(g.f0,g.f1,g.f2,true):=by
 by_cases hc:b=true
 ·refine ⟨(0,0,0,false),?_,?_,?_⟩
  ·apply ev_up
   simp only [impl_readGate.j1];exact ev_p hc (Ev.now _)
  all_goals
   have hn:=hb.1 hc
   have:gateK K t=none:=by
    match t with
    | []=>rfl
    | [a] =>
     rw [gateK,if_neg (fun e=>hn (Or.inl ⟨e,rfl⟩))]
    | [a,b] =>
     rw [gateK,if_neg (fun e=>hn (Or.inr ⟨e.1,e.2,rfl⟩))]
    | _ :: _ :: _ :: _=>rfl
   rw [this];simp
 ·have hn:(K=4∧t.length=1)∨(1≤K∧K≤3∧t.length=2):=Decidable.byContradiction fun e=>hc (hb.2 e)
  rcases hn with ⟨hk,hl⟩ | ⟨hk1,hk3,hl⟩
  ·obtain ⟨a,rfl⟩:=List.length_eq_one_iff.1 hl
   have hd:=zz47 a (ht a (by simp))
   have e1:((h :: [a]).map mkB ++ [mkB a])=([h,a,a].map mkB):=rfl
   refine ⟨(K,(dv (numL 18 a)).1,(dv (numL 18 a)).1,(dv (numL 18 a)).2),?_,?_,?_⟩
   ·apply ev_up
    simp only [impl_readGate.j1];rw [rdW1];refine ev_n hc (ev_p hk (ev_p (by simp) (ev_p (by simp) (Ev.bind (ev_c rfl) ?_))))
    rw [e1,rdW1,rdW2];refine ev_p (by simp) (Ev.bind hd (ev_p (by simp) (Ev.bind hd (ev_ite (fun _=>Ev.now _) (fun hh=>ev_eq (Ev.now _) ?_)))))
    rw [Bool.not_eq_true] at hh;rw [hh]
   ·rw [gateK,if_pos hk]
    cases numL 18 a <;> rfl
   ·intro g hg
    rw [gateK,if_pos hk] at hg;match e:numL 18 a with
    | none=>rw [e] at hg;exact absurd hg (by simp)
    | some x=>rw [e] at hg;injection hg with hg;subst hg;simp [dv,hk]
  ·obtain ⟨a,b2,rfl⟩:∃ a b2,t=[a,b2]:=by
    match t,hl with
    | [a,b2],_=>exact ⟨a,b2,rfl⟩
   have hd:=zz47 a (ht a (by simp))
   have hd2:=zz47 b2 (ht b2 (by simp))
   refine ⟨(K,(dv (numL 18 a)).1,(dv (numL 18 b2)).1,if (dv (numL 18 a)).2=true then (dv (numL 18 b2)).2 else false),?_,?_,?_⟩
   ·apply ev_up
    simp only [impl_readGate.j1];rw [rdW1,rdW2];refine ev_n hc (ev_n (by omega) (ev_p (by simp) (Ev.bind hd (ev_p (by simp) (Ev.bind hd2 (ev_ite (fun hh=>?_) (fun hh=>?_)))))))
    ·rw [if_pos hh]
     exact Ev.now _
    ·rw [if_neg hh]
     exact Ev.now _
   ·rw [gateK,if_pos (c:=1≤K∧K≤3) ⟨hk1,hk3⟩]
    cases numL 18 a <;> cases numL 18 b2 <;> rfl
   ·intro g hg
    rw [gateK,if_pos ⟨hk1,hk3⟩] at hg;match e:numL 18 a,e2:numL 18 b2 with
    | none,none=>rw [e] at hg;exact absurd hg (by simp)
    | none,some _=>rw [e] at hg;exact absurd hg (by simp)
    | some _,none=>rw [e,e2] at hg;exact absurd hg (by simp)
    | some x,some y=>rw [e,e2] at hg;injection hg with hg;subst hg;simp [dv]
theorem zz87 (h:List UInt8) (t:List (List UInt8)) (ht:∀ x∈t,x.length≤1048576) (htl:t.length≤1048576) (K:Int) (h0:0≤K) (h4:K≤4) :
  ∃ p,Ev (fun k=>impl_readGate.l0 k ((h :: t).map mkB) 4 K 0 0) p∧p.2.2.2=(gateK K t).isSome∧∀ g,gateK K t=some g→p=(g.f0,g.f1,g.f2,true):=by
 have hlen:(((h :: t).map mkB).length:Int)=t.length+1:=by simp
 by_cases hk:K=0
 ·obtain ⟨p,hp,hq⟩:=zz86 h t ht htl K h0 h4 true ⟨fun _=>by omega,fun _=>rfl⟩
  refine ⟨p,?_,hq⟩
  apply ev_up;simp only [impl_readGate.l0];exact ev_n (by omega) (ev_p hk hp)
 ·by_cases hk4:K=4
  ·by_cases hl:t.length=1
   ·obtain ⟨p,hp,hq⟩:=zz86 h t ht htl K h0 h4 false ⟨fun e=>absurd e (by simp),fun e=>absurd (Or.inl ⟨hk4,hl⟩) e⟩
    refine ⟨p,?_,hq⟩
    apply ev_up;simp only [impl_readGate.l0];exact ev_n (by omega) (ev_n hk (ev_p hk4 (ev_p (by omega) hp)))
   ·obtain ⟨p,hp,hq⟩:=zz86 h t ht htl K h0 h4 true ⟨fun _=>by omega,fun _=>rfl⟩
    refine ⟨p,?_,hq⟩
    apply ev_up;simp only [impl_readGate.l0];exact ev_n (by omega) (ev_n hk (ev_p hk4 (ev_n (by omega) hp)))
  ·obtain ⟨p,hp,hq⟩:=zz86 h t ht htl K h0 h4 ((((h :: t).map mkB).length:Int) != 3) (by rw [bne_iff_ne,hlen];omega)
   refine ⟨p,?_,hq⟩
   apply ev_up;simp only [impl_readGate.l0];exact ev_n (by omega) (ev_n hk (ev_n hk4 hp))
theorem zz88 (h:List UInt8) (t:List (List UInt8)) (R:Int×Int×Int×Bool) (hR:Ev (fun k=>impl_readGate.l0 k ((h :: t).map mkB) 4 (kindL h) 0 0) R):Ev (fun k=>impl_readGate.l0 k ((h :: t).map mkB) 0 0 0 0) R:=by
 have hpos:(0:Int)<(((h :: t).map mkB).length:Int):=by rw [List.length_map,List.length_cons];omega
 unfold kindL at hR;apply ev_up;simp only [impl_readGate.l0];rw [rd0,gnm0,show wrap64 (0+1)=1 by unfold wrap64;decide]
 refine ev_p (by omega) (ev_p (by omega) (ev_p hpos ?_))
 have s1:∀ K,(h≠[111,114]→Ev (fun k=>impl_readGate.l0 k ((h :: t).map mkB) 2 K 0 0) R)→(h=[111,114]→Ev (fun k=>impl_readGate.l0 k ((h :: t).map mkB) 2 2 0 0) R)→Ev (fun k=>impl_readGate.l0 k ((h :: t).map mkB) 1 K 0 0) R:=by
  intro K g1 g2;apply ev_up;simp only [impl_readGate.l0];rw [rd0,gnm1,show wrap64 (1+1)=2 by unfold wrap64;decide]
  exact ev_p (by omega) (ev_p (by omega) (ev_p hpos (ev_ite g2 g1)))
 have s2:∀ K,(h≠[120,111,114]→Ev (fun k=>impl_readGate.l0 k ((h :: t).map mkB) 3 K 0 0) R)→(h=[120,111,114]→Ev (fun k=>impl_readGate.l0 k ((h :: t).map mkB) 3 3 0 0) R)→Ev (fun k=>impl_readGate.l0 k ((h :: t).map mkB) 2 K 0 0) R:=by
  intro K g1 g2;apply ev_up;simp only [impl_readGate.l0];rw [rd0,gnm2,show wrap64 (2+1)=3 by unfold wrap64;decide]
  exact ev_p (by omega) (ev_p (by omega) (ev_p hpos (ev_ite g2 g1)))
 have s3:∀ K,(h≠[110,111,116]→Ev (fun k=>impl_readGate.l0 k ((h :: t).map mkB) 4 K 0 0) R)→(h=[110,111,116]→Ev (fun k=>impl_readGate.l0 k ((h :: t).map mkB) 4 4 0 0) R)→Ev (fun k=>impl_readGate.l0 k ((h :: t).map mkB) 3 K 0 0) R:=by
  intro K g1 g2;apply ev_up;simp only [impl_readGate.l0];rw [rd0,gnm3,show wrap64 (3+1)=4 by unfold wrap64;decide]
  exact ev_p (by omega) (ev_p (by omega) (ev_p hpos (ev_ite g2 g1)))
 refine ev_ite (fun e=>s1 _ (fun _=>s2 _ (fun _=>s3 _ (fun _=>?_) (fun e2=>?_)) (fun e2=>?_)) (fun e2=>?_)) (fun e=>s1 _ (fun e1=>s2 _ (fun e2=>s3 _ (fun e3=>?_) (fun e3=>?_)) (fun e3=>s3 _ (fun _=>?_) (fun e4=>?_))) (fun e2=>s2 _ (fun _=>s3 _ (fun _=>?_) (fun e4=>?_)) (fun e3=>?_)))
 ·rw [if_pos e] at hR;exact hR
 ·rw [e] at e2;exact absurd e2 (by decide)
 ·rw [e] at e2;exact absurd e2 (by decide)
 ·rw [e] at e2;exact absurd e2 (by decide)
 ·rw [if_neg e,if_neg e1,if_neg e2,if_neg e3] at hR;exact hR
 ·rw [if_neg e,if_neg e1,if_neg e2,if_pos e3] at hR;exact hR
 ·rw [if_neg e,if_neg e1,if_pos e3] at hR;exact hR
 ·rw [e3] at e4;exact absurd e4 (by decide)
 ·rw [if_neg e,if_pos e2] at hR;exact hR
 ·rw [e2] at e4;exact absurd e4 (by decide)
 ·rw [e2] at e3;exact absurd e3 (by decide)
theorem kindL_bd (h:List UInt8):0≤kindL h∧kindL h≤4:=by
 unfold kindL;repeat (split;omega)
 omega
theorem zz90 (line:List UInt8) (hl:line.length≤1048576):∃ p,Ev (fun k=>impl_readGate.f k (mkB line)) p∧p.2.2.2=(gateW line).isSome∧∀ g,gateW line=some g→p=(g.f0,g.f1,g.f2,true):=by
 obtain ⟨h,t,e⟩:=zz12 32 line []
 have hbd:=zz19 32 line []
 have hsl:=zz11 32 line []
 rw [e] at hbd hsl;have ht:∀ x∈t,x.length≤1048576:=fun x hx=>by
  have:=hbd x (List.mem_cons_of_mem _ hx)
  simp at this
  omega
 have hK:=kindL_bd h
 obtain ⟨p,hp,hq⟩:=zz87 h t ht (by simp at hsl;omega) (kindL h) hK.1 hK.2
 unfold gateW;rw [e];refine ⟨p,?_,hq⟩
 unfold impl_readGate.f;have:=zz24 line 32 hl
 rw [e] at this;exact Ev.bind this (zz88 h t p hp)
theorem cn0:(rdOf ByteArray.empty [(⟨#[97,110,100]⟩:ByteArray),(⟨#[111,114]⟩:ByteArray),(⟨#[120,111,114]⟩:ByteArray)] 0).toList=[97,110,100]:=zz5 _
theorem cn1:(rdOf ByteArray.empty [(⟨#[97,110,100]⟩:ByteArray),(⟨#[111,114]⟩:ByteArray),(⟨#[120,111,114]⟩:ByteArray)] 1).toList=[111,114]:=zz5 _
theorem cn2:(rdOf ByteArray.empty [(⟨#[97,110,100]⟩:ByteArray),(⟨#[111,114]⟩:ByteArray),(⟨#[120,111,114]⟩:ByteArray)] 2).toList=[120,111,114]:=zz5 _
theorem zz94 (line:List UInt8) (hl:line.length≤1048576):Ev (fun k=>spec_ciLine.f k (mkB line)) (ciR (ciW line)):=by
 obtain ⟨h,t,e⟩:=zz12 32 line []
 have hsl:=zz11 32 line []
 rw [e] at hsl;simp only [List.length_cons] at hsl;have hlen:(((h :: t).map mkB).length:Int)=t.length+1:=by simp
 have hs:=zz21 line 32 32 rfl hl
 unfold ciW;rw [e] at hs ⊢
 show Ev _ (ciR (ciK (kindL h) t))
 have good:∀ (i:Nat) (N:List ByteArray) (x y:Int),t.length=2→i≤2→kindL h=(i:Int)+1→Ev (fun k=>spec_ciLine.j1 k ((h :: t).map mkB) (i:Int) N x y true) (ciR (ciK (kindL h) t)):=by
  intro i N x y h2 hi hk;match t,h2 with
  | [a,b],_ =>
  apply ev_up;simp only [spec_ciLine.j1];rw [rdW1,rdW2,hk,ciK,if_pos ⟨by omega,by omega⟩,wN (n:=(i:Int)+1) (m:=i+1) (by omega) (by omega)]
  exact ev_p (by trivial) (ev_p (by simp) (Ev.bind (zz36 a) (ev_p (by simp) (Ev.bind (zz36 b) (Ev.now _)))))
 have bad:∀ (f:Nat→List ByteArray→Int→List ByteArray→Int→Int→Bool→Option (Int×Int×Int×Bool)),True:=fun _=>True.intro
 have last:(h=[110,111,116]∨kindL h=0∨t.length≠2)→(h=[110,111,116]→kindL h=4)→(h≠[110,111,116]→kindL h≠4)→∀ N,Ev (fun k=>spec_ciLine.l0 k ((h :: t).map mkB) N 3 3) (ciR (ciK (kindL h) t)):=by
  intro hor h4 hn4 N;have j2f:∀ R,R=(0,0,0,false)→Ev (fun k=>spec_ciLine.j2 k ((h :: t).map mkB) false) R:=fun R e=>by
   subst e;apply ev_up;simp only [spec_ciLine.j2];exact ev_n (by simp) (Ev.now _)
  apply ev_up;simp only [spec_ciLine.l0];rw [rd0];refine ev_n (by omega) (ev_p (by rw [hlen];omega) (ev_ite (fun en=>?_) (fun en=>?_)))
  ·have hk:=h4 en
   by_cases h1:t.length=1
   ·obtain ⟨a,rfl⟩:=List.length_eq_one_iff.1 h1
    rw [show (((([h,a].map mkB).length:Int)) == 2)=true from rfl,hk,ciK,if_pos rfl]
    apply ev_up;simp only [spec_ciLine.j2];rw [rdW1];exact ev_p (by trivial) (ev_p (by simp) (Ev.bind (zz36 a) (Ev.bind (zz36 a) (Ev.now _))))
   ·rw [show (((((h :: t).map mkB).length:Int)) == 2)=false by rw [hlen];simp;omega]
    refine j2f _ ?_
    rw [hk];match t with
    | []=>rfl
    | [_]=>simp at h1
    | [a,b]=>rw [ciK,if_neg (by omega)];rfl
    | _ :: _ :: _ :: _=>rfl
  ·refine j2f _ ?_
   have hk:=hn4 en
   match t with
   | []=>rfl
   | [a]=>rw [ciK,if_neg hk];rfl
   | [a,b] =>
    rcases hor with h | h | h
    ·exact absurd h en
    ·rw [ciK,if_neg (by omega)];rfl
    ·simp at h
   | _ :: _ :: _ :: _=>rfl
 unfold spec_ciLine.f;refine Ev.bind hs (Ev.bind (ev_c rfl) ?_)
 have hpos:(0:Int)<(((h :: t).map mkB).length:Int):=by rw [hlen];omega
 have lit:∀ g:List ByteArray→Option (Int×Int×Int×Bool),True:=fun _=>True.intro
 have st:∀ (i:Nat) (nm:List UInt8),i≤2→(rdOf ByteArray.empty [(⟨#[97,110,100]⟩:ByteArray),(⟨#[111,114]⟩:ByteArray),(⟨#[120,111,114]⟩:ByteArray)] (i:Int)).toList=nm→(h=nm→kindL h=(i:Int)+1) →
   ((h=nm→t.length≠2)→Ev (fun k=>spec_ciLine.l0 k ((h :: t).map mkB) [(⟨#[97,110,100]⟩:ByteArray),(⟨#[111,114]⟩:ByteArray),(⟨#[120,111,114]⟩:ByteArray)] 3 ((i+1:Nat):Int)) (ciR (ciK (kindL h) t))) →
   Ev (fun k=>spec_ciLine.l0 k ((h :: t).map mkB) [(⟨#[97,110,100]⟩:ByteArray),(⟨#[111,114]⟩:ByteArray),(⟨#[120,111,114]⟩:ByteArray)] 3 (i:Int)) (ciR (ciK (kindL h) t)):=by
  intro i nm hi hnm hk next;have goOn:(h=nm→t.length≠2)→Ev (fun k=>spec_ciLine.j1 k ((h :: t).map mkB) (i:Int) [(⟨#[97,110,100]⟩:ByteArray),(⟨#[111,114]⟩:ByteArray),(⟨#[120,111,114]⟩:ByteArray)] 3 (i:Int) false) (ciR (ciK (kindL h) t)):=fun hh=>by
   apply ev_up;simp only [spec_ciLine.j1];rw [wN (n:=(i:Int)+1) (m:=i+1) (by omega) (by omega)]
   exact ev_n (by simp) (next hh)
  apply ev_up;simp only [spec_ciLine.l0];rw [rd0,hnm];refine ev_p (by omega) (ev_p (by omega) (ev_p (by show (i:Int)<3;omega) (ev_p hpos (ev_ite (fun e=>?_) (fun e=>goOn (fun hh=>absurd hh e))))))
  by_cases h2:t.length=2
  ·rw [show (((((h :: t).map mkB).length:Int)) == 3)=true by rw [hlen,h2];rfl]
   exact good i _ _ _ h2 hi (hk e)
  ·rw [show (((((h :: t).map mkB).length:Int)) == 3)=false by rw [hlen];simp;omega]
   exact goOn (fun _=>h2)
 refine st 0 _ (by omega) cn0 (fun e=>by rw [e];rfl) (fun n0=>st 1 _ (by omega) cn1 (fun e=>by rw [e];rfl) (fun n1=>st 2 _ (by omega) cn2 (fun e=>by rw [e];rfl) (fun n2=>?_)))
 refine last ?_ (fun e=>by rw [e];rfl) ?_ _
 ·by_cases a0:h=[97,110,100]
  ·exact Or.inr (Or.inr (n0 a0))
  ·by_cases a1:h=[111,114]
   ·exact Or.inr (Or.inr (n1 a1))
   ·by_cases a2:h=[120,111,114]
    ·exact Or.inr (Or.inr (n2 a2))
    ·by_cases a3:h=[110,111,116]
     ·exact Or.inl a3
     ·refine Or.inr (Or.inl ?_)
      unfold kindL;rw [if_neg a0,if_neg a1,if_neg a2,if_neg a3]
 ·intro e hk
  unfold kindL at hk;rw [if_neg e] at hk;split at hk
  ·omega
  ·split at hk
   ·omega
   ·split at hk <;> omega
def mapO {α β:Type} (f:α→Option β):List α→Option (List β)
 | []=>some []
 | x :: r=>match f x,mapO f r with
  | some y,some t=>some (y :: t)
  | _,_=>none
def lineT (g:S47):List Int:=nameG g.f0++(32 :: (numD g.f1++(if g.f0=4 then [] else 32 :: numD g.f2)))
theorem lineG_T (g:S47):lineG g=lineT g ++ [10]:=by
 unfold lineG lineT;simp
theorem nameG_no (k:Int):10∉u8 (nameG k)∧32∉u8 (nameG k):=by
 unfold nameG;split
 ·decide
 ·split
  ·decide
  ·split <;> decide
theorem lineT_no (g:S47) (h:gateN g):10∉u8 (lineT g):=by
 obtain ⟨_,_,g3,g4,g5,g6⟩:=h
 have h1:=(nameG_no g.f0).1
 have h2:=(numD_no g.f1 g3 g4).1
 have h3:=(numD_no g.f2 g5 g6).1
 unfold lineT;rw [zz38,u8_cons,zz38];split
 ·simp only [List.mem_append,List.mem_cons]
  rintro (h | h | h | h)
  ·exact h1 h
  ·exact absurd h (by decide)
  ·exact h2 h
  ·exact absurd h (by decide)
 ·rw [u8_cons]
  simp only [List.mem_append,List.mem_cons];rintro (h | h | h | h | h)
  ·exact h1 h
  ·exact absurd h (by decide)
  ·exact h2 h
  ·exact absurd h (by decide)
  ·exact h3 h
theorem zz100 (g:S47) (h:gateN g):splitA 32 [] (u8 (lineT g))=if g.f0=4 then [u8 (nameG g.f0),u8 (numD g.f1)] else [u8 (nameG g.f0),u8 (numD g.f1),u8 (numD g.f2)]:=by
 obtain ⟨_,_,g3,g4,g5,g6⟩:=h
 have h1:=(nameG_no g.f0).2
 have h2:=(numD_no g.f1 g3 g4).2
 have h3:=(numD_no g.f2 g5 g6).2
 unfold lineT;rw [zz38,u8_cons,show UInt8.ofNat ((32:Int)).toNat=32 from rfl,zz13 32 _ _ [] h1]
 split
 ·rw [List.append_nil,zz14 32 _ [] h2]
  rfl
 ·rw [zz38,u8_cons,show UInt8.ofNat ((32:Int)).toNat=32 from rfl,zz13 32 _ _ [] h2,zz14 32 _ [] h3]
  rfl
theorem zz101 (k:Int) (h1:1≤k) (h4:k≤4):kindL (u8 (nameG k))=k:=by
 have:k=1∨k=2∨k=3∨k=4:=by omega
 rcases this with rfl | rfl | rfl | rfl <;> decide
theorem gate_eta (g:S47) (a b c:Int) (h1:a=g.f0) (h2:b=g.f1) (h3:c=g.f2):(⟨a,b,c⟩:S47)=g:=by
 subst h1 h2 h3
 rfl
theorem zz103 (g:S47) (h:gateN g) (h4:g.f0=4→g.f1=g.f2):gateW (u8 (lineT g))=some g∧ciW (u8 (lineT g))=some g:=by
 have hw:=zz100 g h
 obtain ⟨g1,g2,g3,g4,g5,g6⟩:=h
 have hk:=zz101 g.f0 g1 g2
 unfold gateW ciW;rw [hw];by_cases c:g.f0=4
 ·rw [if_pos c]
  show gateK (kindL (u8 (nameG g.f0))) [u8 (numD g.f1)]=some g∧ciK (kindL (u8 (nameG g.f0))) [u8 (numD g.f1)]=some g
  have:=h4 c
  rw [hk,gateK,if_pos c,ciK,if_pos c,zz43 _ g3 g4,zz44 _ g3 g4];constructor
  ·show some _=some g
   exact congrArg some (gate_eta g _ _ _ c.symm (by omega) (by omega))
  ·refine congrArg some (gate_eta g _ _ _ c.symm ?_ ?_) <;> simp only [rv] <;> omega
 ·rw [if_neg c]
  show gateK (kindL (u8 (nameG g.f0))) [u8 (numD g.f1),u8 (numD g.f2)]=some g∧ciK (kindL (u8 (nameG g.f0))) [u8 (numD g.f1),u8 (numD g.f2)]=some g
  rw [hk,gateK,if_pos ⟨g1,by omega⟩,ciK,if_pos ⟨g1,by omega⟩,zz43 _ g3 g4,zz44 _ g3 g4,zz43 _ g5 g6,zz44 _ g5 g6]
  constructor
  ·show some _=some g
   exact congrArg some (gate_eta g _ _ _ rfl (by omega) (by omega))
  ·refine congrArg some (gate_eta g _ _ _ rfl ?_ ?_) <;> simp only [rv] <;> omega
theorem zz104 (rest:List UInt8) (gs:List S47) (h:∀ g∈gs,gateN g):splitA 10 [] (u8 (linesG gs)++rest)=gs.map (fun g=>u8 (lineT g))++splitA 10 [] rest:=by
 induction gs with
 | nil=>rfl
 | cons g r ih =>
  rw [linesG,lineG_T,zz38,zz38,List.append_assoc,List.append_assoc];show splitA 10 [] (u8 (lineT g)++10 :: (u8 (linesG r)++rest))=_
  rw [zz13 10 _ _ [] (lineT_no g (h g List.mem_cons_self)),ih (fun x hx=>h x (List.mem_cons_of_mem _ hx))]
  rfl
theorem outsG_no (os:List Int) (h:∀ o∈os,0≤o∧o<100):10∉u8 (outsG os):=by
 induction os with
 | nil=>simp [outsG,u8]
 | cons o r ih =>
  have h1:=h o List.mem_cons_self
  have h2:=(numD_no o h1.1 h1.2).1
  have h3:=ih (fun x hx=>h x (List.mem_cons_of_mem _ hx))
  rw [outsG,u8_cons,zz38];simp only [List.mem_append,List.mem_cons];rintro (h | h | h)
  ·exact absurd h (by decide)
  ·exact h2 h
  ·exact h3 h
theorem zz106 (os:List Int):∀ (cur:List UInt8),(∀ o∈os,0≤o∧o<100)→splitA 32 cur (u8 (outsG os))=cur :: os.map (fun o=>u8 (numD o)):=by
 induction os with
 | nil=>intro cur _;rfl
 | cons o r ih =>
  intro cur h;have h1:=h o List.mem_cons_self
  have h2:=(numD_no o h1.1 h1.2).2
  have hi:=ih (u8 (numD o)) (fun x hx=>h x (List.mem_cons_of_mem _ hx))
  rw [outsG,u8_cons,zz38,show UInt8.ofNat ((32:Int)).toNat=32 from rfl,splitA,if_pos rfl,List.map_cons,← hi]
  congr 1
  have key:∀ (a:List UInt8) (cur b:List UInt8),32∉a→splitA 32 cur (a++b)=splitA 32 (cur++a) b:=by
   intro a;induction a with
   | nil=>intro cur b _;simp
   | cons x a iha =>
    intro cur b hx;rw [List.mem_cons,not_or] at hx;rw [List.cons_append,splitA,if_neg (fun e=>hx.1 e.symm),iha _ _ hx.2]
    simp
  rw [key _ _ _ h2];rfl
def outB:List UInt8:=[111,117,116]
theorem mapO_map {α β:Type} (f:α→Option β) (g:β→α) (l:List β) (h:∀ x∈l,f (g x)=some x):mapO f (l.map g)=some l:=by
 induction l with
 | nil=>rfl
 | cons x r ih =>
  rw [List.map_cons,mapO,h x List.mem_cons_self,ih (fun y hy=>h y (List.mem_cons_of_mem _ hy))]
theorem mapO_len {α β:Type} (f:α→Option β):∀ (l:List α) (t:List β),mapO f l=some t→t.length=l.length:=by
 intro l;induction l with
 | nil=>intro t h;rw [mapO] at h;injection h with h;subst h;rfl
 | cons x r ih =>
  intro t h;rw [mapO] at h;match e1:f x,e2:mapO f r with
  | none,_=>rw [e1] at h;exact absurd h (by simp)
  | some y,none=>rw [e1,e2] at h;exact absurd h (by simp)
  | some y,some s =>
   rw [e1,e2] at h;injection h with h
   subst h;rw [List.length_cons,List.length_cons,ih s e2]
def rejP:Int×List S47×List Int×Bool:=(0,[],[],false)
def numI (w:List UInt8):Option Int:=(numL 18 w).map (fun n=>(n:Int))
def implT (w0:List UInt8) (mid:List (List UInt8)) (last:List UInt8):Int×List S47×List Int×Bool:=
 match numI w0,mapO gateW mid with
 | some a,some gs=>if (splitA 32 [] last).headD []=outB then (match mapO numI ((splitA 32 [] last).drop 1) with
  | some os=>if circuitM a gs os=true then (a,gs,os,true) else rejP
  | none=>rejP) else rejP
 | _,_=>rejP
def specT (bs:List UInt8) (w0:List UInt8) (mid:List (List UInt8)) (last:List UInt8):Int×List S47×List Int×Bool:=
 match mapO ciW mid with
 | some gs=>if circuitM (rv (numL 6 w0)) gs (((splitA 32 [] last).drop 1).map (fun w=>rv (numL 6 w)))=true then (if u8 (textM (rv (numL 6 w0)) gs (((splitA 32 [] last).drop 1).map (fun w=>rv (numL 6 w))))=bs then (rv (numL 6 w0),gs,((splitA 32 [] last).drop 1).map (fun w=>rv (numL 6 w)),true) else rejP) else rejP
 | none=>rejP
def bodyT (a:Int) (gs:List S47) (os:List Int):List UInt8:=u8 (numD a)++10 :: (u8 (linesG gs)++(outB++u8 (outsG os)))
theorem zz115 (a:Int) (gs:List S47) (os:List Int):u8 (textM a gs os)=bodyT a gs os ++ [10]:=by
 unfold textM bodyT;simp only [zz38,u8_cons,List.append_assoc,List.cons_append];rfl
structure GoodC (a:Int) (gs:List S47) (os:List Int):Prop where
 a0:0≤a
 a4:a≤4
 gl:gs.length≤16
 o1:1≤os.length
 o4:os.length≤4
 g:∀ g∈gs,gateN g∧(g.f0=4→g.f1=g.f2)
 o:∀ o∈os,0≤o∧o<100
theorem zz116:∀ (gs:List S47) (w:Int),gatesOk w gs=true→∀ g∈gs,g.f0=4→g.f1=g.f2:=by
 intro gs;induction gs with
 | nil=>intro w _ g hg;cases hg
 | cons x r ih =>
  intro w h g hg;rw [gatesOk,Bool.and_eq_true] at h;rcases List.mem_cons.1 hg with e | e
  ·subst e
   exact (of_decide_eq_true h.1).2.2.2.2.2.2
  ·exact ih (w+1) h.2 g e
theorem goodC {a:Int} {gs:List S47} {os:List Int} (h:circuitM a gs os=true):GoodC a gs os:=by
 obtain ⟨n,rfl,ha,hg,h1,h4,hk,ho⟩:=zz57 h
 exact ⟨by omega,by omega,hg,h1,h4,fun g hgm=>⟨zz65 gs n hk (by omega) g hgm,zz116 gs n hk g hgm⟩,fun o hom=>by have:=ho o hom;omega⟩
theorem zz118 {a:Int} {gs:List S47} {os:List Int} (h:GoodC a gs os):splitA 10 [] (bodyT a gs os)=u8 (numD a) :: (gs.map (fun g=>u8 (lineT g)) ++ [outB++u8 (outsG os)]):=by
 unfold bodyT;rw [zz13 10 _ _ [] (numD_no a h.a0 (by have:=h.a4;omega)).1,zz104 _ gs (fun g hg=>(h.g g hg).1),zz14 10 _ []]
 ·rfl
 ·rw [List.mem_append]
  rintro (h' | h')
  ·exact absurd h' (by decide)
  ·exact outsG_no os h.o h'
theorem zz119 {a:Int} {gs:List S47} {os:List Int} (h:GoodC a gs os):splitA 10 [] (bodyT a gs os ++ [10])=u8 (numD a) :: (gs.map (fun g=>u8 (lineT g)) ++ [outB++u8 (outsG os),[]]):=by
 unfold bodyT;rw [List.append_assoc,List.cons_append,List.append_assoc,zz13 10 _ _ [] (numD_no a h.a0 (by have:=h.a4;omega)).1,zz104 _ gs (fun g hg=>(h.g g hg).1),zz13 10 [] _ []]
 ·rfl
 ·rw [List.mem_append]
  rintro (h' | h')
  ·exact absurd h' (by decide)
  ·exact outsG_no os h.o h'
theorem zz120 {os:List Int} (h:∀ o∈os,0≤o∧o<100):splitA 32 [] (outB++u8 (outsG os))=outB :: os.map (fun o=>u8 (numD o)):=zz106 os outB h
theorem zz121 {a:Int} {gs:List S47} {os:List Int} (hc:circuitM a gs os=true):implT (u8 (numD a)) (gs.map (fun g=>u8 (lineT g))) (outB++u8 (outsG os))=(a,gs,os,true):=by
 have h:=goodC hc
 have num:∀ o:Int,0≤o→o<100→numI (u8 (numD o))=some o:=fun o h0 h1=>by
  unfold numI;rw [zz44 o h0 h1];show some ((o.toNat:Nat):Int)=some o
  rw [Int.toNat_of_nonneg h0]
 unfold implT;rw [num a h.a0 (by have:=h.a4;omega),mapO_map gateW (fun g=>u8 (lineT g)) gs (fun g hg=>(zz103 g (h.g g hg).1 (h.g g hg).2).1),zz120 h.o]
 show (if outB=outB then (match mapO numI (os.map (fun o=>u8 (numD o))) with
  | some os=>if circuitM a gs os=true then (a,gs,os,true) else rejP
  | none=>rejP) else rejP)=_
 rw [if_pos rfl,mapO_map numI (fun o=>u8 (numD o)) os (fun o ho=>num o (h.o o ho).1 (h.o o ho).2)]
 exact if_pos hc
theorem zz122 {a:Int} {gs:List S47} {os:List Int} (hc:circuitM a gs os=true):specT (bodyT a gs os ++ [10]) (u8 (numD a)) (gs.map (fun g=>u8 (lineT g))) (outB++u8 (outsG os))=(a,gs,os,true):=by
 have h:=goodC hc
 have num:∀ o:Int,0≤o→o<100→rv (numL 6 (u8 (numD o)))=o:=fun o h0 h1=>by
  rw [zz43 o h0 h1];simp only [rv];omega
 have hos:((splitA 32 [] (outB++u8 (outsG os))).drop 1).map (fun w=>rv (numL 6 w))=os:=by
  rw [zz120 h.o,List.drop_one,List.tail_cons,List.map_map];have:∀ l:List Int,(∀ o∈l,0≤o∧o<100)→l.map ((fun w=>rv (numL 6 w)) ∘ fun o=>u8 (numD o))=l:=by
   intro l;induction l with
   | nil=>intro _;rfl
   | cons o r ih =>
    intro hl;rw [List.map_cons,ih (fun x hx=>hl x (List.mem_cons_of_mem _ hx))]
    have:=hl o List.mem_cons_self
    rw [Function.comp,num o this.1 this.2]
  exact this os h.o
 unfold specT;rw [mapO_map ciW (fun g=>u8 (lineT g)) gs (fun g hg=>(zz103 g (h.g g hg).1 (h.g g hg).2).2)]
 show (if circuitM (rv (numL 6 (u8 (numD a)))) gs (((splitA 32 [] (outB++u8 (outsG os))).drop 1).map (fun w=>rv (numL 6 w)))=true then _ else rejP)=_
 rw [hos,num a h.a0 (by have:=h.a4;omega),if_pos hc,if_pos (zz115 a gs os)]
theorem name_of {h:List UInt8} {K:Int} (h1:1≤K) (hk:kindL h=K):h=u8 (nameG K):=by
 unfold kindL at hk;split at hk
 ·subst hk;assumption
 ·split at hk
  ·subst hk;assumption
  ·split at hk
   ·subst hk;assumption
   ·split at hk
    ·subst hk;assumption
    ·omega
theorem zz124 (line:List UInt8) (g:S47) (h:gateW line=some g) (hg:gateN g):line=u8 (lineT g):=by
 obtain ⟨w,t,e⟩:=zz12 32 line []
 have hj:=zz16 32 line []
 unfold gateW at h;rw [e] at h hj;obtain ⟨g1,g2,g3,g4,g5,g6⟩:=hg
 rw [List.nil_append] at hj;rw [← hj];change gateK (kindL w) t=some g at h
 match t with
 | []=>exact absurd h (by simp [gateK])
 | [a] =>
  rw [gateK] at h;split at h
  ·rename_i hk
   match e1:numL 18 a with
   | none=>rw [e1] at h;exact absurd h (by simp)
   | some x =>
    rw [e1] at h;injection h with h
    subst h;have ha:=zz42 18 a x e1 (by simp only at g4;omega)
    have hw:=name_of (by omega) hk
    unfold lineT;rw [zz38,u8_cons,zz38,if_pos rfl];show w++32 :: joinA 32 [a]=_
    rw [hw,joinA,ha];show _=u8 (nameG 4)++32 :: (u8 (numD x) ++ [])
    rw [List.append_nil]
  ·exact absurd h (by simp)
 | [a,b] =>
  rw [gateK] at h;split at h
  ·rename_i hk
   match e1:numL 18 a,e2:numL 18 b with
   | none,none=>rw [e1] at h;exact absurd h (by simp)
   | none,some _=>rw [e1] at h;exact absurd h (by simp)
   | some _,none=>rw [e1,e2] at h;exact absurd h (by simp)
   | some x,some y =>
    rw [e1,e2] at h;injection h with h
    subst h;have ha:=zz42 18 a x e1 (by simp only at g4;omega)
    have hb:=zz42 18 b y e2 (by simp only at g6;omega)
    have hw:=name_of (h:=w) hk.1 rfl
    unfold lineT;rw [zz38,u8_cons,zz38,if_neg (show ¬ kindL w=4 by omega),u8_cons]
    show w++32 :: (a++32 :: b)=u8 (nameG (kindL w))++32 :: (u8 (numD x)++32 :: u8 (numD y))
    rw [← hw,← ha,← hb]
  ·exact absurd h (by simp)
 | _ :: _ :: _ :: _=>exact absurd h (by simp [gateK])
theorem zz125 (mid:List (List UInt8)):∀ gs,mapO gateW mid=some gs→(∀ g∈gs,gateN g)→catA 10 mid=u8 (linesG gs):=by
 induction mid with
 | nil=>intro gs h _;rw [mapO] at h;injection h with h;subst h;rfl
 | cons x r ih =>
  intro gs h hg;rw [mapO] at h;match e1:gateW x,e2:mapO gateW r with
  | none,_=>rw [e1] at h;exact absurd h (by simp)
  | some _,none=>rw [e1,e2] at h;exact absurd h (by simp)
  | some y,some s =>
   rw [e1,e2] at h;injection h with h
   subst h;rw [catA,ih s e2 (fun g hgm=>hg g (List.mem_cons_of_mem _ hgm)),zz124 x y e1 (hg y List.mem_cons_self),linesG,lineG_T,zz38,zz38,List.append_assoc]
   rfl
theorem zz126 (t:List (List UInt8)):∀ os (x:List UInt8),mapO numI t=some os→(∀ o∈os,0≤o∧o<100)→joinA 32 (x :: t)=x++u8 (outsG os):=by
 induction t with
 | nil=>intro os x h _;rw [mapO] at h;injection h with h;subst h;simp [joinA,outsG,u8]
 | cons w r ih =>
  intro os x h ho;rw [mapO] at h;match e1:numI w,e2:mapO numI r with
  | none,_=>rw [e1] at h;exact absurd h (by simp)
  | some _,none=>rw [e1,e2] at h;exact absurd h (by simp)
  | some y,some s =>
   rw [e1,e2] at h;injection h with h
   subst h;have hy:=ho y List.mem_cons_self
   have hw:w=u8 (numD y):=by
    unfold numI at e1;match e3:numL 18 w with
    | none=>rw [e3] at e1;exact absurd e1 (by simp)
    | some n =>
     rw [e3] at e1;have e1':some (n:Int)=some y:=e1
     injection e1' with e1'
     rw [← e1'];exact zz42 18 w n e3 (by omega)
   rw [joinA,ih s w e2 (fun o hom=>ho o (List.mem_cons_of_mem _ hom)),outsG,u8_cons,zz38,← hw]
   rfl
theorem zz127 (w0:List UInt8) (mid:List (List UInt8)) (last:List UInt8):implT w0 mid last=rejP∨∃ a gs os,implT w0 mid last=(a,gs,os,true)∧circuitM a gs os=true∧joinA 10 (w0 :: (mid ++ [last]))=bodyT a gs os:=by
 unfold implT;match e1:numI w0,e2:mapO gateW mid with
 | none,none=>exact Or.inl rfl
 | none,some _=>exact Or.inl rfl
 | some _,none=>exact Or.inl rfl
 | some a,some gs =>
  by_cases hh:(splitA 32 [] last).headD []=outB
  ·match e3:mapO numI ((splitA 32 [] last).drop 1) with
   | none=>exact Or.inl (by simp only [e3];rw [if_pos hh])
   | some os =>
    by_cases hc:circuitM a gs os=true
    ·refine Or.inr ⟨a,gs,os,by simp only [e3];rw [if_pos hh,if_pos hc],hc,?_⟩
     have g:=goodC hc
     obtain ⟨w,t,e⟩:=zz12 32 last []
     have hj:=zz16 32 last []
     rw [e] at hh e3 hj;change w=outB at hh
     rw [List.nil_append,zz126 t os w e3 g.o,hh] at hj;have hw0:w0=u8 (numD a):=by
      have:=zz126 [w0] [a] [] (by rw [mapO,e1];rfl) (by intro o ho;rw [List.mem_singleton] at ho;subst ho;have:=g.a0;have:=g.a4;omega)
      rw [joinA,joinA,outsG,u8_cons,zz38,List.nil_append,List.nil_append] at this;injection this with _ this
      rw [this];show u8 (numD a) ++ []=_
      rw [List.append_nil]
     unfold bodyT;rw [zz18,zz125 mid gs e2 (fun x hx=>(g.g x hx).1),← hj,hw0]
    ·exact Or.inl (by simp only [e3];rw [if_pos hh,if_neg hc])
  ·exact Or.inl (if_neg hh)
theorem zz128 (bs w0:List UInt8) (mid:List (List UInt8)) (last:List UInt8):specT bs w0 mid last=rejP∨∃ a gs os,specT bs w0 mid last=(a,gs,os,true)∧circuitM a gs os=true∧bs=bodyT a gs os ++ [10]:=by
 unfold specT;match e2:mapO ciW mid with
 | none=>exact Or.inl rfl
 | some gs =>
  simp only [];by_cases hc:circuitM (rv (numL 6 w0)) gs (((splitA 32 [] last).drop 1).map (fun w=>rv (numL 6 w)))=true
  ·rw [if_pos hc]
   by_cases ht:u8 (textM (rv (numL 6 w0)) gs (((splitA 32 [] last).drop 1).map (fun w=>rv (numL 6 w))))=bs
   ·rw [if_pos ht]
    exact Or.inr ⟨_,_,_,rfl,hc,by rw [← ht,zz115]⟩
   ·rw [if_neg ht]
    exact Or.inl rfl
  ·rw [if_neg hc]
   exact Or.inl rfl
theorem zz129 (n:Int) (gs:List S47) (os:List Int) (h0:0≤n) (h4:n≤4) (hg:gs.length≤1048576) (ho:os.length≤1048576) (r:List Int):∀ (p:List Int) (i:Int),i=p.length→os=p++r →
  Ev (fun k=>impl_IsCircuit.l1 k os os.length i n gs os) (r.all (inB 0 (n+gs.length - 1))):=by
 induction r with
 | nil =>
  intro p i hi e;have hlen:os.length=p.length:=by rw [e];simp
  apply ev_up;simp only [impl_IsCircuit.l1];exact ev_n (by omega) (Ev.now _)
 | cons x r ih =>
  intro p i hi e;have hlen:os.length=p.length+r.length+1:=by rw [e];simp;omega
  have hx:rd os i=x:=by rw [e];exact rdA hi
  have ih':=ih (p ++ [x]) (i+1) (by simp;omega) (by rw [e];simp)
  apply ev_up;simp only [impl_IsCircuit.l1];refine ev_p (by omega) (ev_p (by omega) (ev_p (by omega) ?_))
  rw [hx,w64 (n:=i+1) (by omega) (by omega),w64 (n:=n+gs.length) (by omega) (by omega)]
  refine ev_ite (fun h1=>?_) (fun h1=>ev_ite (fun h2=>?_) (fun h2=>?_))
  ·rw [List.all_cons,show inB 0 (n+gs.length - 1) x=false from decide_eq_false (by omega),Bool.false_and]
   exact Ev.now _
  ·rw [List.all_cons,show inB 0 (n+gs.length - 1) x=false from decide_eq_false (by omega),Bool.false_and]
   exact Ev.now _
  ·rw [List.all_cons,show inB 0 (n+gs.length - 1) x=true from decide_eq_true (by omega),Bool.true_and]
   exact ih'
theorem zz130 (n:Int) (gs:List S47) (os:List Int) (h0:0≤n) (h4:n≤4) (hg:gs.length≤1048576) (ho:os.length≤1048576) (r:List S47):∀ (p:List S47) (i:Int),i=p.length→gs=p++r →
  Ev (fun k=>impl_IsCircuit.l0 k gs gs.length i n gs os) (gatesOk (n+i) r && os.all (inB 0 (n+gs.length - 1))):=by
 induction r with
 | nil =>
  intro p i hi e;have hlen:gs.length=p.length:=by rw [e];simp
  apply ev_up;simp only [impl_IsCircuit.l0];refine ev_n (by omega) ?_
  rw [gatesOk,Bool.true_and];exact zz129 n gs os h0 h4 hg ho os [] 0 rfl rfl
 | cons x r ih =>
  intro p i hi e;have hlen:gs.length=p.length+r.length+1:=by rw [e];simp;omega
  have hx:rd_T47 gs i=x:=by rw [e];exact rdGateA hi
  have ih':=ih (p ++ [x]) (i+1) (by simp;omega) (by rw [e];simp)
  apply ev_up;simp only [impl_IsCircuit.l0];refine ev_p (by omega) (ev_p (by omega) (ev_p (by omega) ?_))
  rw [hx,w64 (n:=i+1) (by omega) (by omega),w64 (n:=n+i) (by omega) (by omega)]
  have no:gateOk (n+i) x=false→Ev (fun _=>some false) (gatesOk (n+i) (x :: r) && os.all (inB 0 (n+gs.length - 1))):=fun h=>by
   rw [gatesOk,h,Bool.false_and,Bool.false_and];exact Ev.now _
  have yes:gateOk (n+i) x=true→Ev (fun k=>impl_IsCircuit.l0 k gs gs.length (i+1) n gs os) (gatesOk (n+i) (x :: r) && os.all (inB 0 (n+gs.length - 1))):=fun h=>by
   rw [gatesOk,h,Bool.true_and,Int.add_assoc];exact ih'
  refine ev_ite (fun c=>no (decide_eq_false (by omega))) (fun c1=>ev_ite (fun c=>no (decide_eq_false (by omega))) (fun c2=>ev_ite (fun c=>no (decide_eq_false (by omega))) (fun c3=>ev_ite (fun c=>no (decide_eq_false (by omega))) (fun c4=>ev_ite (fun c=>no (decide_eq_false (by omega))) (fun c5=>ev_ite (fun c=>no (decide_eq_false (by omega))) (fun c6=>ev_ite (fun c7=>ev_ite (fun c8=>yes (decide_eq_true (by omega))) (fun c8=>no (decide_eq_false (fun hh=>c8 (hh.2.2.2.2.2.2 c7))))) (fun c7=>yes (decide_eq_true (by omega)))))))))
theorem zz131 (n:Int) (gs:List S47) (os:List Int) (hg:gs.length≤1048576) (ho:os.length≤1048576):Ev (fun k=>impl_IsCircuit.f k n gs os) (circuitM n gs os):=by
 have bad:¬ (0≤n∧n≤4∧gs.length≤16∧1≤os.length∧os.length≤4)→Ev (fun k=>impl_IsCircuit.j0 k true n gs os) (circuitM n gs os):=fun h=>by
  apply ev_up;simp only [impl_IsCircuit.j0];unfold circuitM;rw [decide_eq_false h,Bool.false_and];exact ev_p (by trivial) (Ev.now _)
 unfold impl_IsCircuit.f;refine ev_ite (fun c1=>bad (by omega)) (fun c1=>ev_ite (fun c2=>bad (by omega)) (fun c2=>ev_ite (fun c3=>bad (by omega)) (fun c3=>ev_ite (fun c4=>bad (by omega)) (fun c4=>?_))))
 apply ev_up;simp only [impl_IsCircuit.j0];refine ev_ite (fun c5=>?_) (fun c5=>?_)
 ·have c5':=of_decide_eq_true c5
  unfold circuitM;rw [decide_eq_false (by omega),Bool.false_and]
  exact Ev.now _
 ·have c5':¬ (os.length:Int)>4:=fun h=>c5 (decide_eq_true h)
  unfold circuitM;rw [decide_eq_true (by omega),Bool.true_and]
  have:=zz130 n gs os (by omega) (by omega) hg ho gs [] 0 rfl rfl
  rwa [Int.add_zero] at this
theorem zz132 (n:Int) (gs:List S47) (os:List Int) (hn:I64 n) (hg:gs.length≤1048576) (ho:os.length≤1048576) :
  Ev (fun k=>(spec_ttInputs.f n).bind fun t108=>(if t108=true then (if (gs.length:Int)≤16 then ((spec_l1In.f (os.length:Int) 1 4).bind fun t109=>(if t109=true then ((spec_l1All.f k os 0 (wrap64 ((wrap64 (n+(gs.length:Int))) - 1))).bind fun t110=>(some t110)) else (some false))) else (some false)) else (some false)))
   (decide (0≤n∧n≤4∧gs.length≤16∧1≤os.length∧os.length≤4) && os.all (inB 0 (n+gs.length - 1))):=by
 rw [zz53,l1In_eq];refine Ev.bind (ev_c rfl) (ev_ite (fun h1=>?_) (fun h1=>?_))
 ·have h1':=of_decide_eq_true h1
  refine ev_ite (fun h2=>?_) (fun h2=>?_)
  ·refine Ev.bind (ev_c rfl) (ev_ite (fun h3=>?_) (fun h3=>?_))
   ·have h3':=of_decide_eq_true h3
    rw [w64 (n:=n+gs.length) (by omega) (by omega),w64 (by omega) (by omega),decide_eq_true (by omega),Bool.true_and]
    exact Ev.bind (l1All_ev os 0 _ (by omega)) (Ev.now _)
   ·rw [decide_eq_false (fun hh=>h3 (decide_eq_true (by omega))),Bool.false_and]
    exact Ev.now _
  ·rw [decide_eq_false (by omega),Bool.false_and]
   exact Ev.now _
 ·rw [decide_eq_false (fun hh=>h1 (decide_eq_true (by omega))),Bool.false_and]
  exact Ev.now _
theorem zz133 (n:Int) (gs:List S47) (os:List Int) (hn:I64 n) (hg:gs.length≤1048576) (ho:os.length≤1048576) (r:List S47):∀ (p:List S47) (i:Int),i=p.length→gs=p++r →
  Ev (fun k=>spec_ciGood.l0 k gs gs.length i n gs os) (decide (0≤n∧n≤4∧gs.length≤16∧1≤os.length∧os.length≤4) && (gatesOk (n+i) r && os.all (inB 0 (n+gs.length - 1)))):=by
 have hn':=hn
 unfold I64 at hn';induction r with
 | nil =>
  intro p i hi e;have hlen:gs.length=p.length:=by rw [e];simp
  apply ev_up;simp only [spec_ciGood.l0];refine ev_n (by omega) ?_
  rw [gatesOk,Bool.true_and];exact zz132 n gs os hn hg ho
 | cons x r ih =>
  intro p i hi e;have hlen:gs.length=p.length+r.length+1:=by rw [e];simp;omega
  have hx:rd_T47 gs i=x:=by rw [e];exact rdGateA hi
  have ih':=ih (p ++ [x]) (i+1) (by simp;omega) (by rw [e];simp)
  apply ev_up;simp only [spec_ciGood.l0];refine ev_p (by omega) (ev_p (by omega) (ev_p (by omega) ?_))
  rw [hx,w64 (n:=i+1) (by omega) (by omega)]
  simp only [l1In_eq];by_cases hv:0≤n∧n≤4
  ·rw [w64 (n:=n+i) (by omega) (by omega),w64 (n:=n+i - 1) (by omega) (by omega)]
   have no:gateOk (n+i) x=false→Ev (fun _=>some false) (decide (0≤n∧n≤4∧gs.length≤16∧1≤os.length∧os.length≤4) && (gatesOk (n+i) (x :: r) && os.all (inB 0 (n+gs.length - 1)))):=fun h=>by
    rw [gatesOk,h,Bool.false_and,Bool.false_and,Bool.and_false];exact Ev.now _
   have yes:gateOk (n+i) x=true→Ev (fun k=>spec_ciGood.l0 k gs gs.length (i+1) n gs os) (decide (0≤n∧n≤4∧gs.length≤16∧1≤os.length∧os.length≤4) && (gatesOk (n+i) (x :: r) && os.all (inB 0 (n+gs.length - 1)))):=fun h=>by
    rw [gatesOk,h,Bool.true_and,Int.add_assoc];exact ih'
   refine Ev.bind (ev_c rfl) (ev_ite (fun h1=>Ev.bind (ev_c rfl) (ev_ite (fun h2=>Ev.bind (ev_c rfl) (ev_ite (fun h3=>ev_ite (fun h4=>ev_ite (fun h5=>?_) (fun h5=>?_)) (fun h4=>?_)) (fun h3=>?_))) (fun h2=>?_))) (fun h1=>?_))
   ·simp only [decide_eq_true_eq] at h1 h2 h3
    exact yes (decide_eq_true (by omega))
   ·exact no (decide_eq_false (fun hh=>h5 (hh.2.2.2.2.2.2 h4).symm))
   ·simp only [decide_eq_true_eq] at h1 h2 h3
    exact yes (decide_eq_true (by omega))
   ·simp only [decide_eq_true_eq] at h3
    exact no (decide_eq_false (by omega))
   ·simp only [decide_eq_true_eq] at h2
    exact no (decide_eq_false (by omega))
   ·simp only [decide_eq_true_eq] at h1
    exact no (decide_eq_false (by omega))
  ·have ef:decide (0≤n∧n≤4∧gs.length≤16∧1≤os.length∧os.length≤4)=false:=decide_eq_false (by omega)
   rw [ef,Bool.false_and] at ih' ⊢
   refine Ev.bind (ev_c rfl) (ev_ite (fun h1=>Ev.bind (ev_c rfl) (ev_ite (fun h2=>Ev.bind (ev_c rfl) (ev_ite (fun h3=>ev_ite (fun h4=>ev_ite (fun h5=>ih') (fun h5=>Ev.now _)) (fun h4=>ih')) (fun h3=>Ev.now _))) (fun h2=>Ev.now _))) (fun h1=>Ev.now _))
theorem zz134 (n:Int) (gs:List S47) (os:List Int) (hn:I64 n) (hg:gs.length≤1048576) (ho:os.length≤1048576):Ev (fun k=>spec_ciGood.f k n gs os) (circuitM n gs os):=by
 unfold spec_ciGood.f circuitM;have:=zz133 n gs os hn hg ho gs [] 0 rfl rfl
 rwa [Int.add_zero] at this
theorem zz135 (os:List Int) (hl:os.length≤1000) (r:List Int):∀ (p xs:List Int),os=p++r→(∀ o∈r,0≤o∧o<100)→xs.length+10 * r.length≤1000000→Ev (fun k=>spec_ciText.l1 k (strOfNums xs) os (os.length:Int) ((p.length:Nat):Int)) (strOfNums (xs++(outsG r ++ [10]))):=by
 induction r with
 | nil =>
  intro p xs e _ hx;have hlen:os.length=p.length:=by rw [e];simp
  apply ev_up;simp only [spec_ciText.l1];refine ev_n (by omega) (ev_p (by rw [zz1];simp at hx;omega) (ev_eq (Ev.now _) ?_))
  rw [lit10,← zz0];rfl
 | cons x r ih =>
  intro p xs e ho hx;have hlen:os.length=p.length+r.length+1:=by rw [e];simp;omega
  have hr:rd os ((p.length:Nat):Int)=x:=by rw [e];exact rdA rfl
  have hb:=ho x List.mem_cons_self
  have hn:=zz26 x
  rw [List.length_cons] at hx;apply ev_up;simp only [spec_ciText.l1];rw [hr,wN (n:=((p.length:Nat):Int)+1) (m:=p.length+1) (by omega) (by omega)]
  refine ev_p (by omega) (ev_p (by omega) (ev_p (by omega) (Ev.bind (l1Num_ev x hb.1 hb.2) ?_)))
  rw [lit32,← zz0,← zz0,zz1,zz1,zz1];refine ev_p (by omega) (ev_p (by rw [List.length_append,List.length_singleton];omega) ?_)
  have:=ih (p ++ [x]) (xs++([32]++numD x)) (by rw [e];simp) (fun o h=>ho o (List.mem_cons_of_mem _ h)) (by rw [List.length_append,List.length_append,List.length_singleton];omega)
  rw [List.length_append,List.length_singleton] at this;refine ev_eq this ?_
  congr 1
  rw [outsG];simp
theorem zz136 (a:Int) (gs:List S47) (os:List Int) (hg:gs.length≤1000) (R:ByteArray) (r:List S47):∀ (p:List S47) (xs:List Int),gs=p++r→(∀ g∈r,gateN g)→xs.length+30 * r.length≤1000000 →
  Ev (fun k=>spec_ciText.l1 k (strOfNums (xs++(linesG r ++ [111,117,116]))) os (os.length:Int) 0) R→Ev (fun k=>spec_ciText.l0 k (strOfNums xs) gs (gs.length:Int) ((p.length:Nat):Int) a gs os) R:=by
 induction r with
 | nil =>
  intro p xs e _ hx h;have hlen:gs.length=p.length:=by rw [e];simp
  apply ev_up;simp only [spec_ciText.l0];refine ev_n (by omega) (ev_p (by rw [zz1];simp at hx;omega) ?_)
  rw [show (⟨#[111,117,116]⟩:ByteArray)=strOfNums [111,117,116] from rfl,← zz0]
  exact h
 | cons x r ih =>
  intro p xs e ho hx h;have hlen:gs.length=p.length+r.length+1:=by rw [e];simp;omega
  have hr:rd_T47 gs ((p.length:Nat):Int)=x:=by rw [e];exact rdGateA rfl
  obtain ⟨g1,g2,g3,g4,g5,g6⟩:=ho x List.mem_cons_self
  have hn:=zz59 x.f0
  have hn1:=zz26 x.f1
  have hn2:=zz26 x.f2
  have hll:=zz66 x
  rw [List.length_cons] at hx;have hi:=ih (p ++ [x]) (xs++lineG x) (by rw [e];simp) (fun o h=>ho o (List.mem_cons_of_mem _ h)) (by rw [List.length_append];omega) (by
   rw [linesG] at h;simpa using h)
  rw [List.length_append,List.length_singleton] at hi;apply ev_up;simp only [spec_ciText.l0];rw [hr,wN (n:=((p.length:Nat):Int)+1) (m:=p.length+1) (by omega) (by omega),w64 (n:=x.f0 - 1) (by omega) (by omega)]
  refine ev_p (by omega) (ev_p (by omega) (ev_p (by omega) (Ev.bind (ev_c rfl) ?_)))
  rw [show (([(⟨#[97,110,100]⟩:ByteArray),(⟨#[111,114]⟩:ByteArray),(⟨#[120,111,114]⟩:ByteArray),(⟨#[110,111,116]⟩:ByteArray)]:List ByteArray))=gnamesL from rfl,name_at g1 g2,lit32,lit10,← zz0,zz1]
  refine ev_p (by omega) (ev_p (show x.f0 - 1<(gnamesL.length:Int) by show x.f0 - 1<4;omega) (ev_p (by omega) (Ev.bind (l1Num_ev x.f1 g3 g4) ?_)))
  simp only [← zz0,zz1,List.length_append,List.length_singleton];refine ev_p (by omega) (ev_p (by omega) (ev_ite (fun c=>?_) (fun c=>?_)))
  ·refine ev_p (by omega) ?_
   unfold lineG at hi;rw [if_pos c] at hi;simpa using hi
  ·refine Ev.bind (l1Num_ev x.f2 g5 g6) ?_
   simp only [← zz0,zz1,List.length_append,List.length_singleton];refine ev_p (by omega) (ev_p (by omega) (ev_p (by omega) ?_))
   unfold lineG at hi;rw [if_neg c] at hi;simpa using hi
theorem zz137 (a:Int) (gs:List S47) (os:List Int) (h:circuitM a gs os=true):Ev (fun k=>spec_ciText.f k a gs os) (strOfNums (textM a gs os)):=by
 obtain ⟨n,rfl,ha,hg,h1,h4,hk,ho⟩:=zz57 h
 have hN:=zz65 gs n hk (by omega)
 have hn:=zz26 (n:Int)
 have hll:=zz67 gs
 unfold spec_ciText.f;refine Ev.bind (l1Num_ev (n:Int) (by omega) (by omega)) ?_
 rw [lit10,← zz0,zz1];refine ev_p (by omega) ?_
 have:=zz136 (n:Int) gs os (by omega) _ gs [] (numD n ++ [10]) rfl hN (by rw [List.length_append,List.length_singleton];omega) (zz135 os (by omega) os [] _ rfl (fun o h=>by have:=ho o h;omega) (by rw [List.length_append,List.length_append,List.length_append,List.length_singleton];simp;omega))
 refine ev_eq this ?_
 congr 1
 unfold textM;simp
theorem rdM (p:List (List UInt8)) (x:List UInt8) (r:List (List UInt8)) (i:Int) (hi:i=p.length):rdOf ByteArray.empty ((p++x :: r).map mkB) i=mkB x:=by
 rw [List.map_append,List.map_cons];unfold rdOf;exact getDA (by rw [List.length_map];exact hi)
theorem cutM (w0:List UInt8) (mid t:List (List UInt8)) (n:Int) (hn:n=mid.length+1):(((w0 :: (mid++t)).map mkB).take n.toNat).drop 1=mid.map mkB:=by
 have e:(w0 :: (mid++t)).map mkB=((w0 :: mid).map mkB)++t.map mkB:=by rw [← List.map_append];rfl
 rw [e,List.take_left' (by rw [List.length_map,List.length_cons];omega)]
 rfl
def rw6 (w:List UInt8):Int:=rv (numL 6 w)
theorem specOuts (x0:ByteArray) (a:Int) (gs:List S47) (t:List (List UInt8)) (hl:t.length≤1048577) (R:Int×List S47×List Int×Bool)
  (hR:Ev (fun k=>spec_ParseCircuit.l1 k x0 (t.map mkB) (t.length:Int) (t.length:Int) a gs (t.map rw6)) R) (r:List (List UInt8)):∀ p,t=p++r→Ev (fun k=>spec_ParseCircuit.l1 k x0 (t.map mkB) (t.length:Int) (p.length:Int) a gs (p.map rw6)) R:=by
 induction r with
 | nil =>
  intro p e;rw [List.append_nil] at e;rw [← e];exact hR
 | cons x r ih =>
  intro p e;have hlen:t.length=p.length+r.length+1:=by rw [e];simp;omega
  have hrd:rdOf ByteArray.empty (t.map mkB) (p.length:Int)=mkB x:=by rw [e];exact rdM p x r _ rfl
  apply ev_up;simp only [spec_ParseCircuit.l1];rw [hrd,wN (n:=(p.length:Int)+1) (m:=p.length+1) (by omega) (by omega)]
  refine ev_p (by omega) (ev_p (by omega) (ev_p (by rw [List.length_map];omega) (Ev.bind (zz36 x) (ev_p (by rw [List.length_map];omega) ?_))))
  have:=ih (p ++ [x]) (by rw [e];simp)
  rw [List.map_append,List.length_append,List.length_singleton] at this;exact this
theorem zz142 (x0:ByteArray) (x4:List ByteArray) (a:Int) (mid:List (List UInt8)) (hl:mid.length≤1000) (hm:∀ x∈mid,x.length≤1048576) (R:Int×List S47×List Int×Bool) (r:List (List UInt8)):∀ (p:List (List UInt8)) (acc:List S47),mid=p++r→acc.length=p.length →
  (mapO ciW r=none→R=rejP)→(∀ t,mapO ciW r=some t→Ev (fun k=>spec_ParseCircuit.l0 k x0 x4 (mid.map mkB) (mid.length:Int) (mid.length:Int) a (acc++t)) R) →
  Ev (fun k=>spec_ParseCircuit.l0 k x0 x4 (mid.map mkB) (mid.length:Int) (p.length:Int) a acc) R:=by
 induction r with
 | nil =>
  intro p acc e _ _ h;have:=h [] rfl
  rw [List.append_nil] at e this;rw [← e];exact this
 | cons x r ih =>
  intro p acc e ha hno hyes;have hlen:mid.length=p.length+r.length+1:=by rw [e];simp;omega
  have hrd:rdOf ByteArray.empty (mid.map mkB) (p.length:Int)=mkB x:=by rw [e];exact rdM p x r _ rfl
  have hx:=zz94 x (hm x (by rw [e];simp))
  apply ev_up;simp only [spec_ParseCircuit.l0];rw [hrd,wN (n:=(p.length:Int)+1) (m:=p.length+1) (by omega) (by omega)]
  refine ev_p (by omega) (ev_p (by omega) (ev_p (by rw [List.length_map];omega) (Ev.bind hx ?_)))
  match eg:ciW x with
  | none =>
   refine ev_n (by simp [ciR]) (ev_eq (Ev.now _) (hno ?_).symm)
   rw [mapO,eg]
  | some g =>
   refine ev_p rfl (ev_p (by omega) ?_)
   have:=ih (p ++ [x]) (acc ++ [g]) (by rw [e];simp) (by simp;omega) (fun en=>hno (by rw [mapO,eg,en])) (fun t et=>by
    have:=hyes (g :: t) (by rw [mapO,eg,et])
    rw [List.append_assoc];exact this)
   rw [List.length_append,List.length_singleton] at this;exact this
theorem zz143 (bs w0:List UInt8) (mid:List (List UInt8)) (last e:List UInt8) (hb:bs.length≤1048576) (hs:splitA 10 [] bs=w0 :: (mid ++ [last,e])) (hm:mid.length≤16):Ev (fun k=>spec_ParseCircuit.f k (mkB bs)) (specT bs w0 mid last):=by
 have hbd:=zz19 10 bs []
 rw [hs] at hbd;have hbd2:∀ x,x∈w0 :: (mid ++ [last,e])→x.length≤1048576:=fun x hx=>by
  have:=hbd x hx
  simp at this
  omega
 have hsp:=zz21 bs 10 10 rfl hb
 rw [hs] at hsp;have hlen:(((w0 :: (mid ++ [last,e])).map mkB).length:Int)=mid.length+3:=by simp;omega
 have hlast:rdOf ByteArray.empty ((w0 :: (mid ++ [last,e])).map mkB) ((mid.length+1:Nat):Int)=mkB last:=rdM (w0 :: mid) last [e] _ (by simp)
 have hll:=hbd2 last (by simp)
 have hws:=zz21 last 32 32 rfl hll
 have hwl:=zz11 32 last []
 have hcut:=cutM w0 mid [last,e] ((mid.length+1:Nat):Int) (by omega)
 unfold spec_ParseCircuit.f;refine Ev.bind hsp ?_
 rw [l1In_q,hlen,wN (n:=(mid.length:Int)+3 - 2) (m:=mid.length+1) (by omega) (by omega),hcut]
 refine Ev.bind (ev_c rfl) (ev_p (decide_eq_true (by omega)) (ev_p (by omega) (Ev.bind (zz36 w0) (ev_p (by omega) (ev_p (by omega) (Ev.bind (ev_c rfl) ?_))))))
 rw [List.length_map];refine zz142 (mkB bs) _ (rv (numL 6 w0)) mid (by omega) (fun x hx=>hbd2 x (by simp [hx])) _ mid [] [] rfl rfl (fun en=>by unfold specT;rw [en]) (fun gs eg=>?_)
 have hgl:=mapO_len ciW mid gs eg
 apply ev_up;simp only [spec_ParseCircuit.l0];rw [hlen,wN (n:=(mid.length:Int)+3 - 2) (m:=mid.length+1) (by omega) (by omega),hlast]
 refine ev_n (by omega) (ev_p (by omega) (ev_p (by omega) (Ev.bind hws (ev_p (by rw [List.length_map];omega) (Ev.bind (ev_c rfl) ?_)))))
 have hd:((splitA 32 [] last).map mkB).drop (1:Int).toNat=((splitA 32 [] last).drop 1).map mkB:=by rw [List.map_drop];rfl
 rw [hd,List.length_map,List.nil_append];have htl:((splitA 32 [] last).drop 1).length≤1048577:=by rw [List.length_drop];omega
 refine specOuts (mkB bs) (rv (numL 6 w0)) gs ((splitA 32 [] last).drop 1) htl _ ?_ ((splitA 32 [] last).drop 1) [] rfl
 have hos:(((splitA 32 [] last).drop 1).map rw6).length≤1048576:=by rw [List.length_map,List.length_drop];omega
 unfold specT;rw [eg];show Ev _ (if circuitM (rv (numL 6 w0)) gs (((splitA 32 [] last).drop 1).map rw6)=true then (if u8 (textM (rv (numL 6 w0)) gs (((splitA 32 [] last).drop 1).map rw6))=bs then (rv (numL 6 w0),gs,((splitA 32 [] last).drop 1).map rw6,true) else rejP) else rejP)
 generalize ((splitA 32 [] last).drop 1).map rw6=os at hos
 apply ev_up;simp only [spec_ParseCircuit.l1];refine ev_n (by omega) (Ev.bind (zz134 _ gs os (rv_I64 w0) (by omega) hos) ?_)
 by_cases hc:circuitM (rv (numL 6 w0)) gs os=true
 ·rw [if_pos hc]
  refine ev_p hc (Ev.bind (zz137 _ gs os hc) ?_)
  rw [zz5,u8_text,zz5];by_cases ht:u8 (textM (rv (numL 6 w0)) gs os)=bs
  ·rw [if_pos ht]
   first | exact ev_p ht (Ev.now _)|(rw [if_pos ht];exact Ev.now _)
  ·rw [if_neg ht]
   first | exact ev_n ht (Ev.now _)|(rw [if_neg ht];exact Ev.now _)
 ·rw [if_neg hc]
  exact ev_n hc (Ev.now _)
theorem tail_of {α:Type} (l:List α) (n:Nat) (h:n≤l.length):∃ a b,l=a++b∧b.length=n:=⟨l.take (l.length - n),l.drop (l.length - n),(List.take_append_drop _ _).symm,by rw [List.length_drop];omega⟩
theorem zz145 (bs:List UInt8) (hb:bs.length≤1048576):(∃ w0 mid last e,splitA 10 [] bs=w0 :: (mid ++ [last,e])∧mid.length≤16∧Ev (fun k=>spec_ParseCircuit.f k (mkB bs)) (specT bs w0 mid last)) ∨
  ((∀ w0 mid last e,splitA 10 [] bs=w0 :: (mid ++ [last,e])→¬ mid.length≤16)∧Ev (fun k=>spec_ParseCircuit.f k (mkB bs)) rejP):=by
 by_cases hl:3≤(splitA 10 [] bs).length∧(splitA 10 [] bs).length≤19
 ·left
  obtain ⟨w0,rest,e⟩:=zz12 10 bs []
  have hl2:=hl
  rw [e,List.length_cons] at hl2;obtain ⟨mid,b,rfl,hb2⟩:=tail_of rest 2 (by omega)
  match b,hb2 with
  | [last,x],_ =>
   rw [List.length_append] at hl2;have hm:mid.length≤16:=by simp at hl2;omega
   exact ⟨w0,mid,last,x,e,hm,zz143 bs w0 mid last x hb e hm⟩
 ·right
  refine ⟨fun w0 mid last e he hm=>hl (by rw [he];simp;omega),?_⟩
  unfold spec_ParseCircuit.f;refine Ev.bind (zz21 bs 10 10 rfl hb) ?_
  rw [l1In_q,List.length_map];exact Ev.bind (ev_c rfl) (ev_n (by rw [decide_eq_true_eq];omega) (Ev.now _))
theorem implOuts (a:Int) (gs:List S47) (t:List (List UInt8)) (hl:t.length≤1048577) (ht:∀ x∈t,x.length≤1048576) (R:Int×List S47×List Int×Bool) (r:List (List UInt8)):∀ (p:List (List UInt8)) (acc:List Int),t=p++r→acc.length=p.length →
  (mapO numI r=none→R=rejP)→(∀ os,mapO numI r=some os→Ev (fun k=>impl_ParseCircuit.l1 k (t.map mkB) (t.length:Int) (t.length:Int) a gs (acc++os)) R) →
  Ev (fun k=>impl_ParseCircuit.l1 k (t.map mkB) (t.length:Int) (p.length:Int) a gs acc) R:=by
 induction r with
 | nil =>
  intro p acc e _ _ h;have:=h [] rfl
  rw [List.append_nil] at e this;rw [← e];exact this
 | cons x r ih =>
  intro p acc e ha hno hyes;have hlen:t.length=p.length+r.length+1:=by rw [e];simp;omega
  have hrd:rdOf ByteArray.empty (t.map mkB) (p.length:Int)=mkB x:=by rw [e];exact rdM p x r _ rfl
  have hx:=zz47 x (ht x (by rw [e];simp))
  apply ev_up;simp only [impl_ParseCircuit.l1];rw [hrd,wN (n:=(p.length:Int)+1) (m:=p.length+1) (by omega) (by omega)]
  refine ev_p (by omega) (ev_p (by omega) (ev_p (by rw [List.length_map];omega) (Ev.bind hx ?_)))
  match eg:numL 18 x with
  | none =>
   refine ev_n (by simp [dv]) (ev_eq (Ev.now _) (hno ?_).symm)
   rw [mapO,show numI x=none by unfold numI;rw [eg];rfl]
  | some n =>
   have en:numI x=some (n:Int):=by unfold numI;rw [eg];rfl
   refine ev_p rfl (ev_p (by omega) ?_)
   have:=ih (p ++ [x]) (acc ++ [(n:Int)]) (by rw [e];simp) (by simp;omega) (fun e2=>hno (by rw [mapO,en,e2])) (fun os et=>by
    have:=hyes ((n:Int) :: os) (by rw [mapO,en,et])
    rw [List.append_assoc];exact this)
   rw [List.length_append,List.length_singleton] at this;exact this
theorem zz147 (x4:List ByteArray) (a:Int) (mid:List (List UInt8)) (hl:mid.length≤1000) (hm:∀ x∈mid,x.length≤1048576) (R:Int×List S47×List Int×Bool) (r:List (List UInt8)):∀ (p:List (List UInt8)) (acc:List S47),mid=p++r→acc.length=p.length →
  (mapO gateW r=none→R=rejP)→(∀ t,mapO gateW r=some t→Ev (fun k=>impl_ParseCircuit.l0 k x4 (mid.map mkB) (mid.length:Int) (mid.length:Int) a (acc++t)) R) →
  Ev (fun k=>impl_ParseCircuit.l0 k x4 (mid.map mkB) (mid.length:Int) (p.length:Int) a acc) R:=by
 induction r with
 | nil =>
  intro p acc e _ _ h;have:=h [] rfl
  rw [List.append_nil] at e this;rw [← e];exact this
 | cons x r ih =>
  intro p acc e ha hno hyes;have hlen:mid.length=p.length+r.length+1:=by rw [e];simp;omega
  have hrd:rdOf ByteArray.empty (mid.map mkB) (p.length:Int)=mkB x:=by rw [e];exact rdM p x r _ rfl
  obtain ⟨q,hx,hf,hg⟩:=zz90 x (hm x (by rw [e];simp))
  apply ev_up;simp only [impl_ParseCircuit.l0];rw [hrd,wN (n:=(p.length:Int)+1) (m:=p.length+1) (by omega) (by omega)]
  refine ev_p (by omega) (ev_p (by omega) (ev_p (by rw [List.length_map];omega) (Ev.bind hx ?_)))
  match eg:gateW x with
  | none =>
   rw [eg] at hf;refine ev_n (by rw [hf];simp) (ev_eq (Ev.now _) (hno ?_).symm)
   rw [mapO,eg]
  | some g =>
   have hq:=hg g eg
   subst hq;refine ev_p rfl (ev_p (by omega) ?_)
   have:=ih (p ++ [x]) (acc ++ [g]) (by rw [e];simp) (by simp;omega) (fun en=>hno (by rw [mapO,eg,en])) (fun t et=>by
    have:=hyes (g :: t) (by rw [mapO,eg,et])
    rw [List.append_assoc];exact this)
   rw [List.length_append,List.length_singleton] at this;exact this
theorem zz148 {w0:List UInt8} {mid:List (List UInt8)} {last:List UInt8} (h:numI w0=none):implT w0 mid last=rejP:=by
 unfold implT;rw [h]
theorem zz149 {w0:List UInt8} {mid:List (List UInt8)} {last:List UInt8} (h:mapO gateW mid=none):implT w0 mid last=rejP:=by
 unfold implT;rw [h];cases numI w0 <;> rfl
theorem zz150 (w0:List UInt8) (mid:List (List UInt8)) (last:List UInt8) (hbd2:∀ x,x∈w0 :: (mid ++ [last])→x.length≤1048576) (hm:mid.length≤16):Ev (fun k=>impl_ParseCircuit.j0 k ((w0 :: (mid ++ [last])).map mkB) false) (implT w0 mid last):=by
 have hlen:(((w0 :: (mid ++ [last])).map mkB).length:Int)=mid.length+2:=by simp;omega
 have hlast:rdOf ByteArray.empty ((w0 :: (mid ++ [last])).map mkB) ((mid.length+1:Nat):Int)=mkB last:=rdM (w0 :: mid) last [] _ (by simp)
 have hll:=hbd2 last (by simp)
 have hws:=zz24 last 32 hll
 have hwl:=zz11 32 last []
 have hcut:=cutM w0 mid [last] ((mid.length+1:Nat):Int) (by omega)
 apply ev_up;simp only [impl_ParseCircuit.j0];rw [hlen,wN (n:=(mid.length:Int)+2 - 1) (m:=mid.length+1) (by omega) (by omega),hcut,rdW0]
 refine ev_n (by simp) (ev_p (by omega) (Ev.bind (zz47 w0 (hbd2 w0 (by simp))) ?_))
 match e1:numL 18 w0 with
 | none =>
  rw [zz148 (by unfold numI;rw [e1];rfl)]
  exact ev_n (by simp [dv]) (Ev.now _)
 | some n =>
  have hn:numI w0=some (n:Int):=by unfold numI;rw [e1];rfl
  refine ev_p rfl (ev_p (by omega) (ev_p (by omega) (Ev.bind (ev_c rfl) ?_)))
  rw [List.length_map];refine zz147 _ (n:Int) mid (by omega) (fun x hx=>hbd2 x (by simp [hx])) _ mid [] [] rfl rfl zz149 (fun gs eg=>?_)
  have hgl:=mapO_len gateW mid gs eg
  apply ev_up;simp only [impl_ParseCircuit.l0];rw [hlen,wN (n:=(mid.length:Int)+2 - 1) (m:=mid.length+1) (by omega) (by omega),hlast]
  refine ev_n (by omega) (ev_p (by omega) (ev_p (by omega) (Ev.bind hws ?_)))
  obtain ⟨h,t,e⟩:=zz12 32 last []
  have hbd3:=zz19 32 last []
  unfold implT;rw [hn,eg];show Ev _ (if (splitA 32 [] last).headD []=outB then (match mapO numI ((splitA 32 [] last).drop 1) with
   | some os=>if circuitM (n:Int) gs os=true then ((n:Int),gs,os,true) else rejP
   | none=>rejP) else rejP)
  rw [e] at hbd3 hwl ⊢
  rw [List.nil_append,rd0];show Ev _ (if h=outB then (match mapO numI t with
   | some os=>if circuitM (n:Int) gs os=true then ((n:Int),gs,os,true) else rejP
   | none=>rejP) else rejP)
  refine ev_p (by rw [List.length_map,List.length_cons];omega) ?_
  by_cases hh:h=outB
  ·rw [if_pos hh]
   refine ev_p hh (ev_p (by rw [List.length_map,List.length_cons];omega) (Ev.bind (ev_c rfl) ?_))
   show Ev (fun k=>impl_ParseCircuit.l1 k (t.map mkB) ((t.map mkB).length:Int) 0 (n:Int) gs []) _
   rw [List.length_map];rw [List.length_cons] at hwl;refine implOuts (n:Int) gs t (by omega) (fun x hx=>by have:=hbd3 x (List.mem_cons_of_mem _ hx);simp at this;omega) _ t [] [] rfl rfl (fun en=>by rw [en]) (fun os eo=>?_)
   have hol:=mapO_len numI t os eo
   rw [eo];apply ev_up;simp only [impl_ParseCircuit.l1];refine ev_n (by omega) (Ev.bind (zz131 (n:Int) gs ([]++os) (by omega) (by simp;omega)) ?_)
   show Ev _ (if circuitM (n:Int) gs os=true then ((n:Int),gs,os,true) else rejP)
   rw [List.nil_append];by_cases hc:circuitM (n:Int) gs os=true
   ·rw [if_pos hc]
    first | exact ev_p hc (Ev.now _)|(rw [if_pos hc];exact Ev.now _)
   ·rw [if_neg hc]
    first | exact ev_n hc (Ev.now _)|(rw [if_neg hc];exact Ev.now _)
  ·rw [if_neg hh]
   exact ev_n hh (Ev.now _)
theorem zz151 (bs:List UInt8) (hb:bs.length≤1048576) (hb1:bs≠[]) (b:Bool) (hbi:b=true↔∃ l,bs=l ++ [10]):strings_HasSuffix.f (mkB bs) (⟨#[10]⟩:ByteArray)=some b:=by
 obtain ⟨a,z,rfl,hl⟩:=tail_of bs 1 (by have:=List.length_pos_iff.2 hb1;omega)
 obtain ⟨x,rfl⟩:=List.length_eq_one_iff.1 hl
 unfold strings_HasSuffix.f stringslite_HasSuffix.f;rw [List.length_append,List.length_singleton] at hb;have e1:((mkB (a ++ [x])).size:Int)=a.length+1:=by rw [mkB_size];simp
 have e2:((⟨#[10]⟩:ByteArray).size:Int)=1:=rfl
 have e3:(mkB (a ++ [x])).extract a.length (mkB (a ++ [x])).size=mkB [x]:=by
  have:=zz9 (p:=a) (m:=[x]) (r:=[]) (a:=a.length) (b:=(mkB (a ++ [x])).size) rfl (by rw [mkB_size];simp)
  simpa using this
 rw [e1,e2,w64 (by omega) (by omega),if_pos (by omega),if_pos (by omega),if_pos (by omega),show ((a.length:Int)+1 - 1).toNat=a.length by omega,e3,zz5]
 rw [show (⟨#[10]⟩:ByteArray).toList=[10] from zz5 [10],Option.bind_some]
 congr 1
 by_cases hx:x=10
 ·subst hx
  rw [hbi.2 ⟨a,rfl⟩];rfl
 ·have hbf:b=false:=by
   rw [← Bool.not_eq_true,hbi];rintro ⟨l,hl⟩
   have:=List.append_inj_right' hl (by simp)
   injection this with this
   exact hx this
  rw [hbf];simp [hx]
theorem zz152 (bs:List UInt8) (hb:bs.length≤1048576):(∃ l w0 mid last,bs=l ++ [10]∧splitA 10 [] l=w0 :: (mid ++ [last])∧mid.length≤16∧Ev (fun k=>impl_ParseCircuit.f k (mkB bs)) (implT w0 mid last)) ∨
  ((∀ l w0 mid last,bs=l ++ [10]→splitA 10 [] l=w0 :: (mid ++ [last])→¬ mid.length≤16)∧Ev (fun k=>impl_ParseCircuit.f k (mkB bs)) rejP):=by
 have jt:∀ x4:List ByteArray,Ev (fun k=>impl_ParseCircuit.j0 k x4 true) rejP:=fun x4=>by
  apply ev_up;simp only [impl_ParseCircuit.j0];exact ev_p (by trivial) (Ev.now _)
 unfold impl_ParseCircuit.f impl_linesOf.f;rw [zz5];by_cases h0:bs=[]
 ·right
  refine ⟨fun l w0 mid last e=>by rw [h0] at e;exact absurd e.symm (by simp),?_⟩
  refine Ev.bind (ev_p h0 (Ev.now _)) ?_
  exact ev_p rfl (ev_p (show (0:Int)<2 by omega) (jt _))
 ·rcases Classical.em (∃ l,bs=l ++ [10]) with hx | hx
  ·have hsuf:=zz151 bs hb h0 true ⟨fun _=>hx,fun _=>rfl⟩
   obtain ⟨l,rfl⟩:=hx
   rw [List.length_append,List.length_singleton] at hb;have e1:(mkB (l ++ [10])).extract 0 (((l.length:Nat):Int)).toNat=mkB l:=by
    have:=zz9 (p:=[]) (m:=l) (r:=[10]) (a:=0) (b:=(((l.length:Nat):Int)).toNat) rfl (by simp)
    simpa using this
   have hli:Ev (fun k=>if l ++ [10]=([]:List UInt8) then (some (([]:List ByteArray),true)) else ((strings_HasSuffix.f (mkB (l ++ [10])) (⟨#[10]⟩:ByteArray)).bind fun t228=>(if t228=true then (if 0≤(wrap64 (((mkB (l ++ [10])).size:Int) - 1)) then (if (wrap64 (((mkB (l ++ [10])).size:Int) - 1))≤((mkB (l ++ [10])).size:Int) then ((strings_Split.f k ((mkB (l ++ [10])).extract 0 ((wrap64 (((mkB (l ++ [10])).size:Int) - 1)):Int).toNat) (⟨#[10]⟩:ByteArray)).bind fun t229=>(some (t229,true))) else (none)) else (none)) else (some (([]:List ByteArray),false))))) ((splitA 10 [] l).map mkB,true):=by
    have e2:((mkB (l ++ [10])).size:Int)=l.length+1:=by rw [mkB_size];simp
    rw [e2,wN (n:=(l.length:Int)+1 - 1) (m:=l.length) (by omega) (by omega),e1]
    exact ev_n h0 (Ev.bind (ev_c hsuf) (ev_p rfl (ev_p (by omega) (ev_p (by omega) (Ev.bind (zz24 l 10 (by omega)) (Ev.now _))))))
   have hsl:=zz11 10 l []
   by_cases hl:2≤(splitA 10 [] l).length∧(splitA 10 [] l).length≤18
   ·left
    obtain ⟨w0,rest,e⟩:=zz12 10 l []
    have hl2:=hl
    rw [e,List.length_cons] at hl2;obtain ⟨mid,b,rfl,hb2⟩:=tail_of rest 1 (by omega)
    obtain ⟨last,rfl⟩:=List.length_eq_one_iff.1 hb2
    rw [List.length_append] at hl2;have hm:mid.length≤16:=by simp at hl2;omega
    refine ⟨l,w0,mid,last,rfl,e,hm,?_⟩
    have hbd:=zz19 10 l []
    rw [e] at hbd hli;refine Ev.bind hli (ev_p rfl (ev_n (by simp;omega) ?_))
    rw [decide_eq_false (by simp;omega)]
    exact zz150 w0 mid last (fun x hx=>by have:=hbd x hx;simp at this;omega) hm
   ·right
    refine ⟨fun l2 w0 mid last e he hm=>?_,?_⟩
    ·have:=List.append_inj_left' e (by simp)
     subst this;exact hl (by rw [he];simp;omega)
    ·refine Ev.bind hli (ev_p rfl (ev_ite (fun _=>jt _) (fun h2=>?_)))
     rw [List.length_map] at h2 ⊢
     rw [decide_eq_true (by omega)]
     exact jt _
  ·right
   refine ⟨fun l w0 mid last e=>absurd ⟨l,e⟩ hx,?_⟩
   have hsuf:=zz151 bs hb h0 false ⟨fun h=>absurd h (by simp),fun h=>absurd h hx⟩
   refine Ev.bind (ev_n h0 (Ev.bind (ev_c hsuf) (ev_n (show ¬ (false=true) by decide) (Ev.now _)))) ?_
   exact ev_n (show ¬ (false=true) by decide) (jt _)
theorem zz153 (bs:List UInt8) (hb:bs.length≤1048576):∃ R:Int×List S47×List Int×Bool,R.2.1.length≤1048576∧R.2.2.1.length≤1048576∧Ev (fun k=>spec_ParseCircuit.f k (mkB bs)) R∧Ev (fun k=>impl_ParseCircuit.f k (mkB bs)) R:=by
 have acc_ne:∀ (a:Int) (gs:List S47) (os:List Int),(a,gs,os,true)≠rejP:=fun a gs os h=>by
  have:=congrArg (fun x:Int×List S47×List Int×Bool=>x.2.2.2) h
  exact absurd this (by simp [rejP])
 rcases zz152 bs hb with ⟨l,w0,mid,last,rfl,he,hm,hi⟩ | ⟨hno,hi⟩
 ·rcases zz127 w0 mid last with hr | ⟨a,gs,os,ha,hc,hj⟩
  ·rcases zz145 (l ++ [10]) hb with ⟨v0,md,ls,e,he2,hm2,hs⟩ | ⟨_,hs⟩
   ·rcases zz128 (l ++ [10]) v0 md ls with hr2 | ⟨a,gs,os,ha,hc,hj⟩
    ·rw [hr] at hi
     rw [hr2] at hs;exact ⟨rejP,by simp [rejP],by simp [rejP],hs,hi⟩
    ·exfalso
     have hl:=List.append_inj_left' hj (by simp)
     rw [hl,zz118 (goodC hc)] at he;injection he with he1 he2
     have hq:=List.append_inj' he2 (by simp)
     obtain ⟨q1,q2⟩:=hq
     injection q2 with q2
     rw [← he1,← q1,← q2,zz121 hc] at hr;exact acc_ne _ _ _ hr
   ·rw [hr] at hi
    exact ⟨rejP,by simp [rejP],by simp [rejP],hs,hi⟩
  ·have hl:l=bodyT a gs os:=by
    have:=zz16 10 l []
    rw [he,hj] at this;simpa using this.symm
   have g:=goodC hc
   rw [ha] at hi;subst hl;refine ⟨_,?_,?_,?_,hi⟩
   ·show gs.length≤1048576
    have:=g.gl
    omega
   ·show os.length≤1048576
    have:=g.o4
    omega
   ·have ht:=zz119 g
    have:=zz143 (bodyT a gs os ++ [10]) (u8 (numD a)) (gs.map (fun g=>u8 (lineT g))) (outB++u8 (outsG os)) [] hb ht (by rw [List.length_map];exact g.gl)
    rw [zz122 hc] at this;exact this
 ·rcases zz145 bs hb with ⟨v0,md,ls,e,he2,hm2,hs⟩ | ⟨_,hs⟩
  ·rcases zz128 bs v0 md ls with hr2 | ⟨a,gs,os,ha,hc,hj⟩
   ·rw [hr2] at hs
    exact ⟨rejP,by simp [rejP],by simp [rejP],hs,hi⟩
   ·exfalso
    have g:=goodC hc
    exact hno _ _ _ _ hj (zz118 g) (by rw [List.length_map];exact g.gl)
  ·exact ⟨rejP,by simp [rejP],by simp [rejP],hs,hi⟩
theorem zz154 (r:List S47):∀ (p:List S47) (i:Int),i=p.length→p.length+r.length≤9223372036854775807 →
  Ev (fun k=>laws_eqGateS.l0 k (p++r) (p++r) i) true:=by
 induction r with
 | nil =>
  intro p i hi hb;apply ev_up;simp only [laws_eqGateS.l0];exact ev_n (by simp;omega) (Ev.now true)
 | cons x r ih =>
  intro p i hi hb;simp only [List.length_cons] at hb;apply ev_up;simp only [laws_eqGateS.l0];refine ev_p (by simp;omega) (ev_p (by omega) (ev_p (by simp;omega) ?_))
  rw [rdGateA hi];refine Ev.bind (ev_c (show laws_eqGate.f x.f0 x.f1 x.f2 x.f0 x.f1 x.f2=some true by unfold laws_eqGate.f;rw [if_pos rfl,if_pos rfl,if_pos rfl])) (ev_p rfl ?_)
  rw [w64 (by omega) (by omega),appA]
  exact ih (p ++ [x]) (i+1) (by simp;omega) (by simp;omega)
theorem zz155 (a:List S47) (h:a.length≤9223372036854775807):Ev (fun k=>laws_eqGateS.f k a a) true:=by
 unfold laws_eqGateS.f;exact ev_p rfl (zz154 a [] 0 rfl (by simpa using h))
theorem zz156 (r:List Int):∀ (s p q:List Int) (i:Int),i=p.length→p.length=q.length→r.length=s.length→p.length+r.length≤9223372036854775807 →
  Ev (fun k=>laws_eqIntS.l0 k (p++r) (q++s) i) (decide (r=s)):=by
 induction r with
 | nil =>
  intro s p q i hi hpq hrs hb;obtain rfl:s=[]:=List.length_eq_zero_iff.1 hrs.symm
  apply ev_up;simp only [laws_eqIntS.l0];refine ev_n (by simp;omega) ?_
  simpa using Ev.now true
 | cons x r ih =>
  intro s p q i hi hpq hrs hb;match s,hrs with
  | y :: s,hrs =>
   simp only [List.length_cons] at hrs hb;apply ev_up;simp only [laws_eqIntS.l0];refine ev_p (by simp;omega) (ev_p (by omega) (ev_p (by simp;omega) ?_))
   rw [rdA hi,rdA (by omega)]
   refine ev_ite (fun hxy=>?_) (fun hxy=>?_)
   ·subst hxy
    rw [w64 (by omega) (by omega),appA,appA (p:=q)]
    refine ev_eq (ih s (p ++ [x]) (q ++ [x]) (i+1) (by simp;omega) (by simp;omega) (by omega) (by simp;omega)) ?_
    simp
   ·refine ev_eq (Ev.now false) ?_
    simp [hxy]
theorem zz157 (a b:List Int) (h:a.length≤9223372036854775807):Ev (fun k=>laws_eqIntS.f k a b) (decide (a=b)):=by
 unfold laws_eqIntS.f;refine ev_ite (fun hl=>?_) (fun hl=>?_)
 ·exact zz156 a b [] [] 0 rfl rfl (by omega) (by simpa using h)
 ·refine ev_eq (Ev.now false) ?_
  symm
  apply decide_eq_false
  rintro rfl
  exact hl rfl
theorem zz158 (n:Int) (gs:List S47) (os:List Int) (hg:gs.length≤9223372036854775807) (ho:os.length≤9223372036854775807):Ev (fun k=>laws_eqCircuit.f k n gs os n gs os) true:=by
 unfold laws_eqCircuit.f;have heq:Ev (fun k=>laws_eqIntS.f k os os) true:=by simpa using zz157 os os ho
 exact ev_p rfl (Ev.bind (zz155 gs hg) (ev_p rfl (Ev.bind heq (ev_p rfl (Ev.now _)))))
theorem zz159 (r:List Int):∀ (p:List Int) (s i:Int),i=p.length→p.length+r.length≤9223372036854775807→0≤s→s+r.length≤9223372036854775807 →
  Ev (fun k=>laws_markIntS.l0 k (p++r) s i) (s+r.length,p++seqFrom s r.length):=by
 induction r with
 | nil =>
  intro p s i hi hb h0 hs;apply ev_up;simp only [laws_markIntS.l0];refine ev_n (by simp;omega) ?_
  simpa [seqFrom] using Ev.now (s,p)
 | cons x r ih =>
  intro p s i hi hb h0 hs;simp only [List.length_cons,Int.natCast_add] at hb hs;apply ev_up;simp only [laws_markIntS.l0];refine ev_p (by simp;omega) (ev_p (by omega) ?_)
  rw [setA hi,w64 (by omega) (by omega),w64 (by omega) (by omega)]
  refine ev_eq (ih (p ++ [s]) (s+1) (i+1) (by simp;omega) (by simp;omega) (by omega) (by omega)) ?_
  simp [seqFrom]
  omega
theorem zz160 (a:List Int) (s:Int) (h0:0≤s) (h:a.length+s≤9223372036854775807):Ev (fun k=>laws_markIntS.f k a s) (s+a.length,seqFrom s a.length):=by
 unfold laws_markIntS.f;exact zz159 a [] s 0 rfl (by simp;omega) h0 (by omega)
theorem zz161 (n:Nat):∀ (p:List Int) (s i:Int),i=p.length→p.length+n≤9223372036854775807→0≤s→s+n≤9223372036854775807 →
  Ev (fun k=>laws_heldIntS.l0 k (p++seqFrom s n) s i) (s+n):=by
 induction n with
 | zero =>
  intro p s i hi hb h0 hs;apply ev_up;simp only [laws_heldIntS.l0];refine ev_n (by simp [seqFrom];omega) ?_
  simpa [seqFrom] using Ev.now s
 | succ n ih =>
  intro p s i hi hb h0 hs;apply ev_up;simp only [laws_heldIntS.l0];have hl:=seqFrom_length s (n+1)
  refine ev_p (by simp [hl];omega) (ev_p (by omega) ?_)
  refine ev_p (by simp only [seqFrom];exact rdA hi) ?_
  simp only [seqFrom];rw [appA,w64 (by omega) (by omega),w64 (by omega) (by omega)]
  refine ev_eq (ih (p ++ [s]) (s+1) (i+1) (by simp;omega) (by simp;omega) (by omega) (by omega)) ?_
  omega
theorem zz162 (n:Nat) (s:Int) (h0:0≤s) (h:n+s≤9223372036854775807):Ev (fun k=>laws_heldIntS.f k (seqFrom s n) s) (s+n):=by
 unfold laws_heldIntS.f;exact zz161 n [] s 0 rfl (by simp;omega) h0 (by omega)
def gateSeq:Int→Nat→List S47
 | _,0 => []
 | s,d+1=>⟨s,s+1,s+1+1⟩ :: gateSeq (s+1+1+1) d
theorem zz164 (d:Nat):∀ s,(gateSeq s d).length=d:=by
 induction d with
 | zero=>intro s;rfl
 | succ d ih=>intro s;rw [gateSeq,List.length_cons,ih]
theorem zz165 (r:List S47):∀ (p:List S47) (s i:Int),i=p.length→p.length+r.length≤1048576→0≤s→s+3 * r.length≤8388608 →
  Ev (fun k=>laws_markGateS.l0 k (p++r) s i) (s+3 * r.length,p++gateSeq s r.length):=by
 induction r with
 | nil =>
  intro p s i hi hb h0 hs;apply ev_up;simp only [laws_markGateS.l0];refine ev_n (by simp;omega) ?_
  simpa [gateSeq] using Ev.now (s,p)
 | cons x r ih =>
  intro p s i hi hb h0 hs;simp only [List.length_cons,Int.natCast_add] at hb hs;have ht:=ih (p ++ [⟨s,s+1,s+1+1⟩]) (s+1+1+1) (i+1) (by simp;omega) (by simp;omega) (by omega) (by omega)
  apply ev_up;simp only [laws_markGateS.l0];refine ev_p (by simp;omega) (ev_p (by omega) (Ev.bind (ev_c rfl) (Ev.bind (ev_c rfl) ?_)))
  simp only [rdGateA hi,setB hi];rw [appA,w64 (n:=s+1) (by omega) (by omega),w64 (n:=s+1+1) (by omega) (by omega),w64 (n:=s+1+1+1) (by omega) (by omega),w64 (n:=i+1) (by omega) (by omega)]
  refine ev_eq ht ?_
  simp only [List.length_cons,Prod.mk.injEq,List.append_assoc];exact ⟨by omega,by rw [gateSeq];rfl⟩
theorem zz166 (d:Nat):∀ (p:List S47) (s i:Int),i=p.length→p.length+d≤1048576→0≤s→s+3 * d≤8388608 →
  Ev (fun k=>laws_heldGateS.l0 k (p++gateSeq s d) s i) (s+3 * d):=by
 induction d with
 | zero =>
  intro p s i hi hb h0 hs;apply ev_up;simp only [laws_heldGateS.l0];refine ev_n (by simp [gateSeq];omega) (ev_eq (Ev.now _) (by simp))
 | succ d ih =>
  intro p s i hi hb h0 hs;have ht:=ih (p ++ [⟨s,s+1,s+1+1⟩]) (s+1+1+1) (i+1) (by simp;omega) (by simp;omega) (by omega) (by omega)
  apply ev_up;simp only [laws_heldGateS.l0];refine ev_p (by simp [zz164];omega) (ev_p (by omega) ?_)
  rw [gateSeq,rdGateA hi,w64 (n:=s+1) (by omega) (by omega),w64 (n:=s+1+1) (by omega) (by omega),w64 (n:=s+1+1+1) (by omega) (by omega),w64 (n:=i+1) (by omega) (by omega)]
  refine ev_p rfl (ev_p rfl (ev_p rfl ?_))
  rw [appA];refine ev_eq ht ?_
  omega
theorem zz167 (n:Int) (gs:List S47) (os:List Int) (hg:gs.length≤1048576) (ho:os.length≤1048576):Ev (fun k=>laws_markCircuit.f k n gs os 1) (1+3 * gs.length+os.length,gateSeq 1 gs.length,seqFrom (1+3 * gs.length) os.length):=by
 unfold laws_markCircuit.f laws_markGateS.f;exact Ev.bind (zz165 gs [] 1 0 rfl (by simpa using hg) (by omega) (by omega)) (Ev.bind (zz160 os (1+3 * gs.length) (by omega) (by omega)) (Ev.now _))
theorem zz168 (n:Int) (g o:Nat) (hg:g≤1048576) (ho:o≤1048576):Ev (fun k=>laws_heldCircuit.f k n (gateSeq 1 g) (seqFrom (1+3 * g) o) 1) (1+3 * g+o):=by
 unfold laws_heldCircuit.f laws_heldGateS.f;exact Ev.bind (zz166 g [] 1 0 rfl (by simpa using hg) (by omega) (by omega)) (ev_n (by omega) (Ev.bind (zz162 o (1+3 * g) (by omega) (by omega)) (ev_n (by omega) (Ev.now _))))
theorem FnExactParseCircuit (a0:ByteArray):a0.size≤140737488351232→∃ k,laws_FnExactParseCircuit.f k a0=some true:=by
 intro _;apply ev_get
 unfold laws_FnExactParseCircuit.f;refine ev_ite (fun _=>Ev.now _) (fun h=>?_)
 have hb:a0.data.toList.length≤1048576:=by
  have:a0.data.toList.length=a0.size:=Array.length_toList
  omega
 obtain ⟨R,hl1_,hl2_,hs,hi⟩:=zz153 a0.data.toList hb
 rw [mkB_self] at hs hi;have heqR:=zz158 R.1 R.2.1 R.2.2.1 (by omega) (by omega)
 have hmark:=zz167 R.1 R.2.1 R.2.2.1 (by omega) (by omega)
 have hheld:=zz168 R.1 R.2.1.length R.2.2.1.length (by omega) (by omega)
 repeat (first
  | (with_reducible exact Ev.now _)
  | (with_reducible refine Ev.bind hs ?_)
  | (with_reducible refine Ev.bind hi ?_)
  | (with_reducible refine Ev.bind heqR ?_)
  | (with_reducible refine Ev.bind hmark ?_)
  | (with_reducible refine Ev.bind hheld ?_)
  | (with_reducible refine ev_p rfl ?_)
  | (with_reducible refine ev_p True.intro ?_)
  | (refine ev_n ?h ?_;case h=>(first | omega | (simp;done)|(simp;omega))))
end Go.Proofs.YtanpidphaanjiaaDoor.Pure
