/- What FnDiagrams uses of Sep. -/
import Derived.Test.YtlnhpkjioppbiaaDoorVDiWMore
import Derived.Test.YtlnhpkjioppbiaaDoorVDiWRepsOne
set_option linter.unusedVariables false
set_option linter.unusedSimpArgs false
namespace Go.Proofs.YtlnhpkjioppbiaaDoor.Sep
open Go.RowKit Go.Proofs.YtlnhpkjioppbiaaDoorW.PrintWords Go.Proofs.YtlnhpkjioppbiaaDoorW.PrintLast Go.Proofs.YtlnhpkjioppbiaaDoorW.PrintMore
structure Chg (w w1:World) (P:Nat→Prop):Prop where
 os:w1.os=w.os
 tape:w1.tape=w.tape
 output:w1.output=w.output
 size:w.heap.size≤w1.heap.size
 block:∀ k,k<w.heap.size→¬ P k→w1.heap[k]?=w.heap[k]?
theorem Chg.refl (w:World) (P:Nat→Prop):Chg w w P:=⟨rfl,rfl,rfl,Nat.le_refl _,fun _ _ _=>rfl⟩
theorem Chg.mono {w w1:World} {P Q:Nat→Prop} (h:Chg w w1 P) (hP:∀ k,P k→Q k):Chg w w1 Q:=⟨h.os,h.tape,h.output,h.size,fun k hk hn=>h.block k hk (fun hp=>hn (hP k hp))⟩
theorem Chg.below {w w1:World} (h:Below w.heap.size w w1) (P:Nat→Prop):Chg w w1 P:=⟨h.os,h.tape,h.output,h.size,fun k hk _=>h.block k hk⟩
theorem Chg.grown {w w1:World} {row:Option Nat} (h:w.grownBy w1 row):Chg w w1 (fun k=>some k=row):=⟨h.os,h.tape,h.output,h.size,fun k hk hn=>h.block k hk hn⟩
theorem Chg.set (w:World) (g j:Nat) (u:Value):Chg w (w.setCell ⟨g,j,none⟩ u) (fun k=>k=g):=
 ⟨rfl,rfl,rfl,by simp [World.setCell],fun k _ hn=>Below.heap_setCell w ⟨g,j,none⟩ u k hn⟩
theorem Chg.trans {w w1 w2:World} {P:Nat→Prop} (h:Chg w w1 P) (k:Chg w1 w2 (fun k=>P k∨w.heap.size≤k)):Chg w w2 P:=
 ⟨k.os.trans h.os,k.tape.trans h.tape,k.output.trans h.output,Nat.le_trans h.size k.size,fun i hi hn=>(k.block i (Nat.lt_of_lt_of_le hi h.size) (fun hh=>hh.elim hn (fun hh=>by omega))).trans (h.block i hi hn)⟩
theorem Chg.drewN {w w1:World} {P:Nat→Prop} (h:Chg w w1 P) (n:Nat):Chg w (w1.drewN n) P:=⟨h.os,h.tape,h.output,h.size,h.block⟩
structure Item where
 H:World→Nat→(Nat→Prop)→Prop
 step:∀ {w w1:World} {base:Nat} {P:Nat→Prop},H w base P→(∀ k,P k→k<w.heap.size→w1.heap[k]?=w.heap[k]?)→H w1 base P
 mono:∀ {w:World} {base:Nat} {P Q:Nat→Prop},(∀ k,P k→Q k)→H w base P→H w base Q
 bound:∀ {w:World} {base:Nat} {P:Nat→Prop},H w base P→H w base (fun k=>P k∧base≤k∧k<w.heap.size)
def Item.no:Item where
 H:=fun _ _ _=>True
 step:=fun h _=>h
 mono:=fun _ h=>h
 bound:=fun h=>h
def Item.row {α:Type} (d:Kd α) (e:Nat) (v:Value) (xs:List α):Item where
 H:=fun w b P=>d.R e w b P v xs
 step:=fun h hm=>Kd.R_step h hm
 mono:=fun hP h=>Kd.R_mono h hP
 bound:=fun h=>Kd.R_mono (Kd.R_bound h) (fun k hk=>⟨hk.1,hk.2.1,hk.2.2.1⟩)
def Item.rows {α:Type} (d:Kd α) (e:Nat) (v:Value) (xs:List α):Item where
 H:=fun w b P=>Kd.S d e w b P v xs
 step:=fun h hm=>Kd.S_step h hm
 mono:=fun hP h=>Kd.S_mono h hP
 bound:=fun h=>Kd.S_mono (Kd.S_bound h) (fun k hk=>⟨hk.1,hk.2.1,hk.2.2.1⟩)
def Item.box (g T:Nat) (cs:Array Value):Item where
 H:=fun w b P=>P g∧b≤g∧w.heap[g]?=some (.cells cs T (0,0))
 step:=fun h hm=>⟨h.1,h.2.1,(hm _ h.1 (blk_lt h.2.2)).trans h.2.2⟩
 mono:=fun hP h=>⟨hP _ h.1,h.2.1,h.2.2⟩
 bound:=fun h=>⟨⟨h.1,h.2.1,blk_lt h.2.2⟩,h.2.1,h.2.2⟩
def Own (w0 w:World) (L:List Item):Prop:=Below w0.heap.size w0 w∧∃ f:Nat→Nat,∀ (i:Nat) (it:Item),L[i]?=some it→it.H w w0.heap.size (fun k=>f k=i)
section
variable {w0 w w1:World} {L:List Item}
theorem Own.nil (w:World):Own w w []:=⟨Below.refl _ _,fun _=>0,fun i it h=>by simp at h⟩
theorem Own.base (h:Own w0 w L):Below w0.heap.size w0 w:=h.1
theorem Own.size (h:Own w0 w L):w0.heap.size≤w.heap.size:=h.1.size
theorem Own.chg {P:Nat→Prop} (hb:Below w0.heap.size w0 w) (hP:∀ k,P k→w0.heap.size≤k) (hc:Chg w w1 P):Below w0.heap.size w0 w1:=
 ⟨hc.os.trans hb.os,hc.tape.trans hb.tape,hc.output.trans hb.output,Nat.le_trans hb.size hc.size,fun k hk=>(hc.block k (Nat.lt_of_lt_of_le hk hb.size) (fun hp=>absurd (hP k hp) (by omega))).trans (hb.block k hk)⟩
theorem Own.below (h:Own w0 w L) (hb:Below w.heap.size w w1):Own w0 w1 L:=by
 obtain ⟨h0,f,hf⟩:=h
 exact ⟨below_then h0 h0.size hb,f,fun i it hi=>it.step (hf i it hi) (fun k _ hk=>hb.block k hk)⟩
theorem Own.drewN (h:Own w0 w L) (n:Nat):Own w0 (w.drewN n) L:=h.below (pw_below_drewN (Below.refl _ _) n)
theorem Own.drew (h:Own w0 w L):Own w0 w.drew L:=h.below (below_drew (Below.refl _ _))
theorem Own.get (h:Own w0 w L) (i:Nat) {it:Item} (hi:L[i]?=some it):∃ P,it.H w w0.heap.size P:=by
 obtain ⟨_,f,hf⟩:=h
 exact ⟨_,hf i it hi⟩
theorem Own.add (h:Own w0 w L) (hb:Below w.heap.size w w1) (it:Item) (hit:it.H w1 w0.heap.size (fun k=>w.heap.size≤k)):Own w0 w1 (it :: L):=by
 obtain ⟨h0,f,hf⟩:=h
 refine ⟨below_then h0 h0.size hb,fun k=>if k<w.heap.size then f k+1 else 0,fun i jt hi=>?_⟩
 cases i with
 | zero =>
  have e:it=jt:=by simpa using hi
  subst e
  exact it.mono (fun k hk=>by simp only [];rw [if_neg (by omega)]) hit
 | succ i =>
  have hi':L[i]?=some jt:=by simpa using hi
  refine jt.mono (fun k hk=>?_) (jt.step (jt.bound (hf i jt hi')) (fun k hk _=>hb.block k hk.2.2))
  simp only []
  rw [if_pos hk.2.2,hk.1]
theorem Own.upd (h:Own w0 w L) (i:Nat) {it:Item} (hi:L[i]?=some it):∃ P:Nat→Prop,it.H w w0.heap.size P∧(∀ k,P k→w0.heap.size≤k∧k<w.heap.size) ∧
  ∀ (w1:World) (it':Item),Chg w w1 P→it'.H w1 w0.heap.size (fun k=>P k∨w.heap.size≤k)→Own w0 w1 (L.set i it'):=by
 obtain ⟨h0,f,hf⟩:=h
 refine ⟨fun k=>f k=i∧w0.heap.size≤k∧k<w.heap.size,it.bound (hf i it hi),fun k hk=>hk.2,fun w1 it' hc hit=>?_⟩
 refine ⟨Own.chg h0 (fun k hk=>hk.2.1) hc,fun k=>if k<w.heap.size then f k else i,fun j jt hj=>?_⟩
 rw [List.getElem?_set] at hj
 by_cases e:i=j
 ·subst e
  rw [if_pos rfl] at hj
  split at hj
  ·injection hj with hj
   subst hj
   refine it'.mono (fun k hk=>?_) hit
   simp only []
   rcases hk with hk | hk
   ·rw [if_pos hk.2.2];exact hk.1
   ·rw [if_neg (by omega)]
  ·cases hj
 ·rw [if_neg e] at hj
  refine jt.mono (fun k hk=>?_) (jt.step (jt.bound (hf j jt hj)) (fun k hk _=>hc.block k hk.2.2 (fun hh=>e (hh.1.symm.trans hk.1))))
  simp only []
  rw [if_pos hk.2.2,hk.1]
theorem Own.tail {it:Item} (h:Own w0 w (it :: L)):Own w0 w L:=by
 obtain ⟨h0,f,hf⟩:=h
 refine ⟨h0,fun k=>f k - 1,fun i jt hi=>jt.mono (fun k hk=>by simp only [];omega) (hf (i+1) jt (by simpa using hi))⟩
theorem Own.add_box (h:Own w0 w L) {g T:Nat} {cs:Array Value} (hg:g=w.heap.size) (hbox:w1.heap[g]?=some (.cells cs T (0,0))) (hb:Below w.heap.size w w1):Own w0 w1 (Item.box g T cs :: L):=
 h.add hb _ ⟨by omega,by rw [hg];exact h.size,hbox⟩
theorem Own.blk (h:Own w0 w L) (i:Nat) {g T:Nat} {cs:Array Value} (hi:L[i]?=some (Item.box g T cs)):w.heap[g]?=some (.cells cs T (0,0)):=by
 obtain ⟨P,h1⟩:=h.get i hi
 exact h1.2.2
theorem Own.cell (h:Own w0 w L) (i:Nat) {g T:Nat} {cs:Array Value} (hi:L[i]?=some (Item.box g T cs)) (j:Nat) {v:Value} (hj:cs[j]?=some v):w.cell? ⟨g,j,none⟩=some v:=(blk_cell (h.blk i hi) j).trans hj
theorem Own.free (h:Own w0 w L) (i:Nat) {g T:Nat} {cs:Array Value} (hi:L[i]?=some (Item.box g T cs)) (j:Nat):w.frozen? ⟨g,j,none⟩=false:=blk_frozen (h.blk i hi) j
theorem Own.put (h:Own w0 w L) (i:Nat) {g T:Nat} {cs cs':Array Value} (hi:L[i]?=some (Item.box g T cs)) (hc:Chg w w1 (fun k=>k=g)) (hbox:w1.heap[g]?=some (.cells cs' T (0,0))):Own w0 w1 (L.set i (Item.box g T cs')):=by
 obtain ⟨P,h1,_,hback⟩:=h.upd i hi
 exact hback w1 _ (hc.mono (fun k hk=>by subst hk;exact h1.1)) ⟨.inl h1.1,h1.2.1,hbox⟩
theorem Own.put1 (h:Own w0 w L) (i:Nat) {g T:Nat} {cs:Array Value} (hi:L[i]?=some (Item.box g T cs)) (j:Nat) (u:Value):Own w0 (w.setCell ⟨g,j,none⟩ u) (L.set i (Item.box g T (cs.setIfInBounds j u))):=
 h.put i hi (Chg.set w g j u) (blk_set (h.blk i hi) j u)
variable {α:Type} {d:Kd α} {e:Nat} {v:Value} {xs:List α}
theorem Own.add_row (h:Own w0 w L) {ok:Nat→Prop} (ho:d.R e w1 w.heap.size ok v xs) (hb:Below w.heap.size w w1):Own w0 w1 (Item.row d e v xs :: L):=
 h.add hb _ (Kd.R_lower (Kd.R_mono (Kd.R_bound ho) (fun k hk=>hk.2.1)) h.size)
theorem Own.row_slice (h:Own w0 w L) (i:Nat) (hi:L[i]?=some (Item.row d e v xs)):∃ A c,v = .slice A xs.length c:=by
 obtain ⟨P,h1⟩:=h.get i hi
 exact Kd.R_slice h1
theorem Own.row_seal (h:Own w0 w L) (i:Nat) (hi:L[i]?=some (Item.row d e v xs)):∃ A n c,n=xs.length∧v = .slice A n c:=by
 obtain ⟨A,c,h⟩:=h.row_slice i hi
 exact ⟨A,_,c,rfl,h⟩
theorem Own.row_reads (h:Own w0 w L) (i:Nat) {A:Option Addr} {n c:Nat} (hi:L[i]?=some (Item.row d e (.slice A n c) xs)):n=xs.length∧n≤c∧d.C w A xs.length xs:=by
 obtain ⟨P,h1⟩:=h.get i hi
 exact Kd.R_reads' h1
end
section
variable {P:Program} {ops:Array Oper} {rest:List Oper} {o:Oper} {a:Act} {Q:Exit→Act→World→Prop} {w0 W:World} {L:List Item}
theorem own_append {α:Type} (d:Kd α) (h:Own w0 W L) (i:Nat) (v:Value) (xs:List α) (e:TypeId) (hi:L[i]?=some (Item.row d e v xs)) (hgd:o.guard=none) (s x:Operand) (t:TypeId) (z:Value) (bytes:Nat)
  (ho:o.op = .call { callee := .builtin .append,args:=#[s,x],argTypes:=#[t,t] }) (ht:P.underlying t=some (.slice e)) (hinfo:(P.info? e).map (fun i=>(i.zero,i.size,i.bytes))=some (some z,d.sz,bytes)) (hz:z.cells.size=d.sz) (hs0:0<d.sz) (hb0:0<bytes)
  (p:α) (cs:List Value) (hs:a.eval s=v) (hx:a.eval x = .slice (some ⟨W.heap.size,0,none⟩) 1 1) (hp:d.M W w0.heap.size (fun _=>False) p cs) (hl:(xs.length+1) * bytes≤140737488355328)
  (hh:∀ v1 w1,Own w0 w1 (L.set i (Item.row d e v1 (xs ++ [p])))→wpList P ops Q rest (a.put o.dst v1) w1):wpList P ops Q (o :: rest) a (W.alloc (.cells cs.toArray e)):=by
 obtain ⟨P',hR,hb,hback⟩:=h.upd i hi
 refine Kd.R_append d (w0:=w0) w0.heap.size hgd s x t e z bytes ho ht hinfo hz hs0 hb0 v xs p cs (fun k=>P' k∨W.heap.size≤k) (fun _=>False) hs hx hp (fun _ hk=>hk.elim) (fun k hk => .inr hk) (Kd.R_mono hR (fun k hk => .inl hk)) h.base h.size hl ?_
 intro v1 w1 hR1 hb1 hg hat
 exact hh v1 w1 (hback w1 _ ((Chg.grown hg).mono (fun k hk=>hR.1 k hk.symm)) hR1)
theorem own_append_step {α:Type} {Kc:Act→World→Prop} (d:Kd α) (h:Own w0 W L) (i:Nat) (v:Value) (xs:List α) (e:TypeId) (hi:L[i]?=some (Item.row d e v xs)) (hw:Region.wanted o (yielded ops a.tmps)=true) (s x:Operand) (t:TypeId) (z:Value) (bytes:Nat)
  (ho:o.op = .call { callee := .builtin .append,args:=#[s,x],argTypes:=#[t,t] }) (ht:P.underlying t=some (.slice e)) (hinfo:(P.info? e).map (fun i=>(i.zero,i.size,i.bytes))=some (some z,d.sz,bytes)) (hz:z.cells.size=d.sz) (hs0:0<d.sz) (hb0:0<bytes)
  (p:α) (cs:List Value) (hs:a.eval s=v) (hx:a.eval x = .slice (some ⟨W.heap.size,0,none⟩) 1 1) (hp:d.M W w0.heap.size (fun _=>False) p cs) (hl:(xs.length+1) * bytes≤140737488355328)
  (hh:∀ v1 w1,Own w0 w1 (L.set i (Item.row d e v1 (xs ++ [p])))→Kc (a.put o.dst v1) w1):if Region.wanted o (yielded ops a.tmps)=true then Oper.wp P o a (W.alloc (.cells cs.toArray e)) Kc Q else Kc (a.put o.dst undef) (W.alloc (.cells cs.toArray e)):=by
 obtain ⟨P',hR,hb,hback⟩:=h.upd i hi
 refine Kd.R_append_step d (w0:=w0) w0.heap.size hw s x t e z bytes ho ht hinfo hz hs0 hb0 v xs p cs (fun k=>P' k∨W.heap.size≤k) (fun _=>False) hs hx hp (fun _ hk=>hk.elim) (fun k hk => .inr hk) (Kd.R_mono hR (fun k hk => .inl hk)) h.base h.size hl ?_
 intro v1 w1 hR1 hb1 hg hat
 exact hh v1 w1 (hback w1 _ ((Chg.grown hg).mono (fun k hk=>hR.1 k hk.symm)) hR1)
theorem own_store (h:Own w0 W L) (i:Nat) (g T:Nat) (cs cs':Array Value) (hi:L[i]?=some (Item.box g T cs)) (hgd:o.guard=none) (hN:o.dst=none) (t:TypeId) (p x:Operand) (ho:o.op = .store t p x) (hp:a.eval p = .pointer (some ⟨g,0,none⟩)) (u:Value)
  (hx:a.eval x=u) (hu:u.cells.toList=cs'.toList) (hsz:cs'.size=cs.size) (ht:(P.info? t).map (·.size)=some cs'.toList.length) (h1:∀ q∈cs'.toList,q.oneCell'=true)
  (hh:∀ w1,Own w0 w1 (L.set i (Item.box g T cs'))→wpList P ops Q rest a w1):wpList P ops Q (o :: rest) a W:=by
 refine wpList_plain hgd fun K hK=>?_
 have hb:=h.blk i hi
 have hrun:=run_store_run (P:=P) (w:=W) (g:=g) (o:=0) (e:=T) (cur:=cs) t u cs'.toList hb hu ht (by rw [Array.length_toList];omega) h1
 obtain ⟨cur',c1,c2,c3⟩:=setCells_row cs'.toList 0 W cs hb (by rw [Array.length_toList];omega)
 have hcur:cur'=cs':=by
  apply Array.toList_inj.1
  rw [c3,List.take_zero,List.nil_append,List.drop_of_length_le (by simp;omega),List.append_nil]
 subst hcur
 obtain ⟨s1,s2,s3,s4⟩:=setCells_same g cur'.toList 0 W
 have hall:=hh _ (h.put i hi ⟨s1,s2,s3,by rw [s4];exact Nat.le_refl _,fun k _ hn=>setCells_far cur'.toList 0 k hn⟩ c1)
 unfold Oper.wp execOp
 simp only [ho,hp,hx,Sem.run_bind,Sem.run_pure,Result.andThen_ok,hrun]
 show K (a.put o.dst undef) _
 rw [hN]
 exact hK a _ hall
theorem own_put {α:Type} {enc:α→Value} {h1:∀ x:α,(enc x).oneCell'=true} (h:Own w0 W L) (i:Nat) {g n cap:Nat} {xs:List α} {e:TypeId} (hi:L[i]?=some (Item.row (Kd.scalar enc h1) e (.slice (some ⟨g,0,none⟩) n cap) xs)) (q:Int) (x:α) :
  Own w0 (W.setCell ⟨g,q.toNat,none⟩ (enc x)) (L.set i (Item.row (Kd.scalar enc h1) e (.slice (some ⟨g,0,none⟩) n cap) (xs.set q.toNat x))):=by
 obtain ⟨P',hR,hb,hback⟩:=h.upd i hi
 have hn:=(Kd.R_reads' hR).1
 subst hn
 obtain ⟨h2,h3⟩:=Kd.R_put hR q x
 exact hback _ _ ((Chg.grown h3).mono (fun k hk=>by injection hk with hk;subst hk;exact hR.1 k rfl)) (Kd.R_mono h2 (fun k hk => .inl hk))
theorem own_row_cell {α:Type} {enc:α→Value} {h1:∀ x:α,(enc x).oneCell'=true} (d:α) (h:Own w0 W L) (i:Nat) {g n cap:Nat} {xs:List α} {e:TypeId} (hi:L[i]?=some (Item.row (Kd.scalar enc h1) e (.slice (some ⟨g,0,none⟩) n cap) xs)) (q:Int) (h0:0≤q) (hq:q<xs.length) :
  W.cell? ⟨g,q.toNat,none⟩=some (enc (rdOf d xs q))∧W.frozen? ⟨g,q.toNat,none⟩=false:=by
 obtain ⟨P',hR⟩:=h.get i hi
 have hn:=(Kd.R_reads' hR).1
 subst hn
 exact Kd.R_cell d hR q h0 hq
theorem own_row_form {α:Type} {d:Kd α} (h:Own w0 W L) (i:Nat) {v:Value} {xs:List α} {e:TypeId} (hi:L[i]?=some (Item.row d e v xs)) (hp:0<xs.length):∃ g cap,v = .slice (some ⟨g,0,none⟩) xs.length cap:=by
 obtain ⟨P',hR⟩:=h.get i hi
 obtain ⟨g,cap,hv,_⟩:=Kd.R_form hR hp
 exact ⟨g,cap,hv⟩
end
theorem Own.front {w0 w:World} {L:List Item} (h:Own w0 w L) (i:Nat) {it:Item} (hi:L[i]?=some it):Own w0 w (it :: L.eraseIdx i):=by
 obtain ⟨h0,f,hf⟩:=h
 refine ⟨h0,fun k=>if f k=i then 0 else if f k<i then f k+1 else f k,fun j jt hj=>?_⟩
 cases j with
 | zero =>
  have e:it=jt:=by simpa using hj
  subst e
  exact it.mono (fun k hk=>by simp only [];rw [if_pos hk]) (hf i it hi)
 | succ j =>
  rw [List.getElem?_cons_succ,List.getElem?_eraseIdx] at hj
  by_cases e:j<i
  ·rw [if_pos e] at hj
   exact jt.mono (fun k hk=>by simp only [];rw [if_neg (by omega),if_pos (by omega)];omega) (hf j jt hj)
  ·rw [if_neg e] at hj
   exact jt.mono (fun k hk=>by simp only [];rw [if_neg (by omega),if_neg (by omega)];omega) (hf (j+1) jt hj)
theorem Own.into {w0 w:World} {L:List Item} {it:Item} (h:Own w0 w (it :: L)) (i:Nat) (hi:i≤L.length):Own w0 w (L.insertIdx i it):=by
 obtain ⟨h0,f,hf⟩:=h
 refine ⟨h0,fun k=>if f k=0 then i else if f k≤i then f k - 1 else f k,fun j jt hj=>?_⟩
 rw [List.getElem?_insertIdx] at hj
 by_cases e:j<i
 ·rw [if_pos e] at hj
  exact jt.mono (fun k hk=>by simp only [];rw [if_neg (by omega),if_pos (by omega)];omega) (hf (j+1) jt (by simpa using hj))
 ·rw [if_neg e] at hj
  by_cases e2:j=i
  ·rw [if_pos e2,if_pos (by omega)] at hj
   injection hj with hj
   subst hj
   exact it.mono (fun k hk=>by simp only [];rw [if_pos hk];omega) (hf 0 it rfl)
  ·rw [if_neg e2] at hj
   obtain ⟨j,rfl⟩:∃ j',j=j'+1:=⟨j - 1,by omega⟩
   exact jt.mono (fun k hk=>by simp only [];rw [if_neg (by omega),if_neg (by omega)];omega) (hf (j+1) jt (by simpa using hj))
theorem below_grown {W w1:World} (hg:W.grownBy w1 none):Below W.heap.size W w1:=⟨hg.os,hg.tape,hg.output,hg.size,fun i hi=>hg.block i hi (by simp)⟩
section
variable {P:Program} {ops:Array Oper} {rest:List Oper} {o:Oper} {a:Act} {Q:Exit→Act→World→Prop} {w0 W:World} {L:List Item}
theorem own_lit0 {α:Type} (d:Kd α) (h:Own w0 W L) (e:Nat) (hgd:o.guard=none) {N:Tmp} (hd:o.dst=some N) (hrun:(execOp a.eval o).run P W = .ok (.value (.slice (some ⟨W.heap.size,0,none⟩) 0 0)) (W.alloc (.cells ([]:List Value).toArray e)))
  (hh:∀ v1 w1,Own w0 w1 (Item.row d e v1 [] :: L)→Below W.heap.size W w1→wpList P ops Q rest (a.put o.dst v1) w1):wpList P ops Q (o :: rest) a W:=
 Kd.R_lit d (w0:=w0) w0.heap.size e hgd hd (xs:=[]) (inner:=[]) (ok:=fun k=>W.heap.size≤k) (okp:=fun _=>False) hrun (by unfold Reps;simp) (fun _ hk=>hk.elim) (Nat.le_refl _) h.base h.size (by simp)
  (fun v1 w1 hR _ hg _=>hh v1 w1 (h.add (below_grown hg) _ hR) (below_grown hg))
theorem goesC_ {oi:Oper} {N:Option Tmp} {a:Act} {w:World} {K:Act→World→Prop} {f:FuncId} {fn:Func} {as:Array Operand} {ts:Array TypeId} {x:Operand} {cap:Array Value} (hf:P.funcs[f]?=some fn) (hname:(fn.name == "runtime.NumGoroutine")=false) (hb:fn.body.isSome=true) (args:Array Value)
  (hw:Region.wanted oi (yielded ops a.tmps)=true) (hN:oi.dst=N) (hop:oi.op = .call { callee := .value x,args:=as,argTypes:=ts }) (hx:a.eval x = .func (.func f) #[] cap) (hargs:as.map a.eval++cap=args)
  (h:Calls P f args w fun e w' => ∃ v,e = .returned v∧K (a.put N v) w'):if Region.wanted oi (yielded ops a.tmps)=true then Oper.wp P oi a w K Q else K (a.put N undef) w:=by
 refine call_ f args hw hN ?_ h
 have he:=enters_ hf hname hb args w
 unfold execOp
 simp [hop,resolve,Deferred.ofValue,invoke,hx,hargs,he]
theorem goesCL_ {oi:Oper} {a:Act} {w:World} (N:Option Tmp) (hd:oi.dst=N) (hg:oi.guard=none) {f:FuncId} {fn:Func} {as:Array Operand} {ts:Array TypeId} {x:Operand} {cap:Array Value} (hf:P.funcs[f]?=some fn) (hname:(fn.name == "runtime.NumGoroutine")=false) (hb:fn.body.isSome=true) (args:Array Value)
  (hop:oi.op = .call { callee := .value x,args:=as,argTypes:=ts }) (hx:a.eval x = .func (.func f) #[] cap) (hargs:as.map a.eval++cap=args)
  (h:Calls P f args w fun e w' => ∃ v,e = .returned v∧wpList P ops Q rest (a.put N v) w'):wpList P ops Q (oi :: rest) a w:=by
 refine wpList_plain hg fun K hK=>?_
 have he:=enters_ hf hname hb args w
 have hrun:(execOp a.eval oi).run P w = .ok (.enter f args) w:=by
  unfold execOp
  simp [hop,resolve,Deferred.ofValue,invoke,hx,hargs,he]
 unfold Oper.wp
 rw [hrun,Oper.upon_enter]
 refine h.mono fun e w'' hh=>?_
 obtain ⟨v,rfl,hk⟩:=hh
 subst hd
 exact hK _ _ hk
end
theorem Own.same {L:List Item} {i:Nat} {it:Item} (hi:L[i]?=some it):L.set i it=L:=by
 apply List.ext_getElem?
 intro j
 rw [List.getElem?_set]
 by_cases e:i=j
 ·subst e
  have:i<L.length:=by
   rcases Nat.lt_or_ge i L.length with h | h
   ·exact h
   ·rw [List.getElem?_eq_none h] at hi;cases hi
  rw [if_pos rfl,if_pos this,hi]
 ·rw [if_neg e]
section
variable {P:Program} {ops:Array Oper} {o:Oper} {a:Act} {Q:Exit→Act→World→Prop} {w0 W:World} {L:List Item}
end
section
variable {P:Program} {ops:Array Oper} {rest:List Oper} {o:Oper} {a:Act} {Q:Exit→Act→World→Prop} {w0 W:World} {L:List Item}
theorem own_make {α:Type} (d:Kd α) (h:Own w0 W L) (e:TypeId) (hgd:o.guard=none) {N:Tmp} (hd:o.dst=some N) (t:TypeId) (x y:Operand) (ho:o.op = .makeSlice t x y) (n:Int) (hx:a.eval x = .int .i64 n) (hy:a.eval y = .int .i64 n)
  (ht:P.underlying t=some (.slice e)) (z:Value) (bytes:Nat) (hinfo:(P.info? e).map (fun i=>(i.zero,i.size,i.bytes))=some (some z,d.sz,bytes)) (hz:z.cells.size=d.sz) (hs0:0<d.sz) (hb0:0<bytes)
  (z0:α) (hzero:d.M W w0.heap.size (fun _=>False) z0 z.cells.toList) (h0:0≤n) (hl:n.toNat * bytes≤281474976710656)
  (hh:∀ v1 w1,Own w0 w1 (Item.row d e v1 (List.replicate n.toNat z0) :: L)→Below W.heap.size W w1→wpList P ops Q rest (a.put o.dst v1) w1):wpList P ops Q (o :: rest) a W:=
 Kd.R_make d (w0:=w0) w0.heap.size e hgd hd t x y ho n hx hy ht z bytes hinfo hz hs0 hb0 z0 (ok:=fun k=>W.heap.size≤k) (okp:=fun _=>False) hzero (fun _ hk=>hk.elim) (Nat.le_refl _) h0 hl h.base h.size
  (fun v1 w1 hR _ hg _=>hh v1 w1 (h.add (below_grown hg) _ hR) (below_grown hg))
end
section
variable {P:Program} {ops:Array Oper} {o:Oper} {a:Act} {Q:Exit→Act→World→Prop} {w0 W:World} {L:List Item}
end
section
variable {w0 w w1:World} {L:List Item}
theorem Own.nilrow {α:Type} (d:Kd α) (e:Nat) (h:Own w0 w L):Own w0 w (Item.row d e (.slice none 0 0) [] :: L):=
 h.add (Below.refl _ _) _ (show Kd.R _ _ _ _ _ _ _ from Kd.R_nil _ _ _ _ _)
end
section
variable {P:Program} {ops:Array Oper} {rest:List Oper} {o:Oper} {a:Act} {Q:Exit→Act→World→Prop} {w0 W:World} {L:List Item}
theorem reads_M {α:Type} {d:Kd α} {e:Nat} {w:World} {base:Nat} {P2:Nat→Prop} {A:Option Addr} {m c:Nat} {ys:List α} (h:d.R e w base P2 (.slice A m c) ys):ReadsRow (d.M w base P2) d.sz w A m ys:=by
 obtain ⟨A',c',he,_,hr⟩:=OwnRow.reads h.2
 injection he with e1 e2 e3
 subst e1
 subst e2
 exact hr.imp_ (Below.refl _ _) (fun _ _ hp=>d.M_mono (fun k hk=>hk.1) hp)
theorem Own.elem {β:Type} {d:Kd β} {e' e:Nat} {A:Option Addr} {n cap:Nat} {xs:List (List β)} (h:Own w0 W L) (i:Nat) (hi:L[i]?=some (Item.row (Kd.slice e' d) e (.slice A n cap) xs)) (j:Int) (h0:0≤j) (h1:j<(xs.length:Int)) :
  ∃ (ad:Addr) (A':Option Addr) (c:Nat),A=some ad∧W.cell? (ad.add j.toNat)=some (.slice A' (xs.getD j.toNat []).length c)∧(xs.getD j.toNat []).length≤c∧d.C W A' (xs.getD j.toNat []).length (xs.getD j.toNat [])∧∃ P,d.R e' W w0.heap.size P (.slice A' (xs.getD j.toNat []).length c) (xs.getD j.toNat []):=by
 obtain ⟨P,hR⟩:=h.get i hi
 have hn:=(Kd.R_reads' hR).1
 subst hn
 obtain ⟨ad,cs,rfl,hl,⟨u,rfl,hu⟩,hc⟩:=ReadsRow.get_ (reads_M hR) [] j h0 h1
 obtain ⟨A',c,rfl,hle,hC⟩:=Kd.R_reads hu
 refine ⟨ad,A',c,rfl,?_,hle,hC,_,hu⟩
 have:=hc 0 _ rfl
 simpa [Kd.slice] using this
end
theorem rd_mem {xs:List Int} {j:Int} (h0:0≤j) (h1:j<(xs.length:Int)):rd xs j∈xs:=by
 unfold rd
 have hl:j.toNat<xs.length:=by omega
 rw [List.getD_eq_getElem?_getD,List.getElem?_eq_getElem hl]
 exact List.getElem_mem hl
section
variable {P:Program} {ops:Array Oper} {rest:List Oper} {o:Oper} {a:Act} {Q:Exit→Act→World→Prop} {w0 W:World} {L:List Item}
theorem own_put_ev {α:Type} {enc:α→Value} {h1:∀ x:α,(enc x).oneCell'=true} (d:α) (h:Own w0 W L) (i:Nat) {g n cap:Nat} {xs:List α} {e:TypeId} (hi:L[i]?=some (Item.row (Kd.scalar enc h1) e (.slice (some ⟨g,0,none⟩) n cap) xs)) (q:Int) (x:α) (h0:0≤q) (hq:q<(xs.length:Int))
  (hgd:o.guard=none) (hN:o.dst=none) (t:TypeId) (p y:Operand) (ho:o.op = .store t p y) (hp:a.eval p = .pointer (some ⟨g,q.toNat,none⟩)) (hx:a.eval y=enc x) (hu:(enc x).cells.toList=[enc x]) (ht:(P.info? t).map (·.size)=some 1)
  (hh:∀ w1,Own w0 w1 (L.set i (Item.row (Kd.scalar enc h1) e (.slice (some ⟨g,0,none⟩) n cap) (xs.set q.toNat x)))→wpList P ops Q rest a w1):wpList P ops Q (o :: rest) a W:=by
 refine wpList_plain hgd fun K hK=>?_
 obtain ⟨hc,hf⟩:=own_row_cell d h i hi q h0 hq
 obtain ⟨j,hj,hsz⟩:=Option.map_eq_some_iff.1 ht
 have hst:=run_storeCells_cells (P:=P) g q.toNat [enc x] 0 W (fun m hm=>by
  have:m=0:=by simpa using hm
  subst this
  simp [hc]) (fun m hm=>by
  have:m=0:=by simpa using hm
  subst this
  simpa using hf) (fun u hu=>by rw [List.mem_singleton.1 hu];exact h1 x)
 simp only [Nat.add_zero] at hst
 have hcs:(enc x).cells.size=j.size:=by rw [hsz,← Array.length_toList,hu];rfl
 have hrun:(Instr.storeAt t (.pointer (some ⟨g,q.toNat,none⟩)) (enc x)).run P W = .ok () (W.setCell ⟨g,q.toNat,none⟩ (enc x)):=by
  simp [Instr.storeAt,Instr.sureAddr,storeVar,sizeOf,typeInfo,hj,hcs,hu,hst,World.setCells]
 have hall:=hh _ (own_put h i hi q x)
 unfold Oper.wp execOp
 simp only [ho,hp,hx,Sem.run_bind,Sem.run_pure,Result.andThen_ok,hrun]
 show K (a.put o.dst undef) _
 rw [hN]
 exact hK a _ hall
theorem own_store_at (h:Own w0 W L) (i:Nat) (g T:Nat) (cs:Array Value) (hi:L[i]?=some (Item.box g T cs)) (hgd:o.guard=none) (hN:o.dst=none) (t:TypeId) (p y:Operand) (ho:o.op = .store t p y) (j:Nat) (hp:a.eval p = .pointer (some ⟨g,j,none⟩)) (u:Value)
  (hx:a.eval y=u) (hu:u.cells.toList=[u]) (ht:(P.info? t).map (·.size)=some 1) (h1:u.oneCell'=true) (hj:j<cs.size)
  (hh:∀ w1,Own w0 w1 (L.set i (Item.box g T (cs.setIfInBounds j u)))→wpList P ops Q rest a w1):wpList P ops Q (o :: rest) a W:=by
 refine wpList_plain hgd fun K hK=>?_
 have hb:=h.blk i hi
 have hrun:=run_store_run (P:=P) (w:=W) (g:=g) (o:=j) (e:=T) (cur:=cs) t u [u] hb hu ht (by simp;omega) (fun q hq=>by rw [List.mem_singleton.1 hq];exact h1)
 have hall:=hh _ (h.put1 i hi j u)
 unfold Oper.wp execOp
 simp only [ho,hp,hx,Sem.run_bind,Sem.run_pure,Result.andThen_ok,hrun]
 show K (a.put o.dst undef) _
 rw [hN]
 exact hK a _ hall
end
theorem own_row_fseal {α:Type} {d:Kd α} {w0 W:World} {L:List Item} (h:Own w0 W L) (i:Nat) {v:Value} {xs:List α} {e:TypeId} (hi:L[i]?=some (Item.row d e v xs)) (hp:0<xs.length):∃ g n cap,n=xs.length∧v = .slice (some ⟨g,0,none⟩) n cap:=by
 obtain ⟨g,cap,h⟩:=own_row_form h i hi hp
 exact ⟨g,_,cap,rfl,h⟩
def Item.kept (w:World) (g:Nat):Item where
 H:=fun W b P => ∀ k,b≤k→k<w.heap.size→k≠g→P k∧W.heap[k]?=w.heap[k]?
 step:=fun {W W1 b P} h hm k h0 h1 h2=>by
  obtain ⟨hp,he⟩:=h k h0 h1 h2
  have hk:k<W.heap.size:=by
   rw [Array.getElem?_eq_getElem h1] at he
   exact blk_lt he
  exact ⟨hp,(hm k hp hk).trans he⟩
 mono:=fun hP h k h0 h1 h2=>⟨hP _ (h k h0 h1 h2).1,(h k h0 h1 h2).2⟩
 bound:=fun {W b P} h k h0 h1 h2=>by
  obtain ⟨hp,he⟩:=h k h0 h1 h2
  have hk:k<W.heap.size:=by
   rw [Array.getElem?_eq_getElem h1] at he
   exact blk_lt he
  exact ⟨⟨hp,h0,hk⟩,he⟩
theorem own_start {w0 w:World} {g T:Nat} {cs:Array Value} (hb:Below w0.heap.size w0 w) (hg:w0.heap.size≤g) (hbox:w.heap[g]?=some (.cells cs T (0,0))):Own w0 w [Item.box g T cs,Item.kept w g]:=by
 refine ⟨hb,fun k=>if k=g then 0 else 1,fun i it hi=>?_⟩
 match i with
 | 0 =>
  obtain rfl:Item.box g T cs=it:=by simpa using hi
  exact ⟨by simp,hg,hbox⟩
 | 1 =>
  obtain rfl:Item.kept w g=it:=by simpa using hi
  exact fun k _ _ hne=>⟨by simp [hne],rfl⟩
 | n+2=>simp at hi
theorem own_end {α:Type} {d:Kd α} {e:Nat} {v:Value} {xs:List α} {w0 w w1:World} {g T:Nat} {cs:Array Value} {L:List Item} (h:Own w0 w1 (Item.row d e v xs :: Item.box g T cs :: Item.kept w g :: L)) (h0:Below w0.heap.size w0 w) (hg:g<w.heap.size)
  (hM:∀ w ok x cs b b',d.M w b ok x cs→d.M w b' ok x cs):d.R e w1 w.heap.size (fun _=>True) v xs∧w1.heap[g]?=some (.cells cs T (0,0))∧Below w0.heap.size w0 w1∧KeepBut w w1 g none:=by
 obtain ⟨hB,f,hf⟩:=h
 have r0:=hf 0 _ rfl
 have r1:=hf 1 _ rfl
 have r2:=hf 2 _ rfl
 have hblk:∀ i,i<w.heap.size→i≠g→w1.heap[i]?=w.heap[i]?:=fun i hi hne=>by
  by_cases hlt:i<w0.heap.size
  ·exact (hB.block i hlt).trans (h0.block i hlt).symm
  ·exact (r2 i (by omega) hi hne).2
 refine ⟨Kd.R_raise (fun w ok x cs=>hM w ok x cs _ _) (Kd.R_mono r0 (fun _ _=>trivial)) (fun k hk=>?_),r1.2.2,hB,?_,fun i hi hne _=>hblk i hi hne⟩
 ·have hf0:=r0.1 k hk
  have hb:=Kd.R_base r0 k hk
  by_cases hlt:k<w.heap.size
  ·by_cases hkg:k=g
   ·subst hkg
    have:=r1.1
    omega
   ·have:=(r2 k hb hlt hkg).1
    omega
  ·omega
 ·have hg1:=blk_lt r1.2.2
  by_cases hs:w.heap.size=0
  ·omega
  ·by_cases hl:w.heap.size - 1=g
   ·omega
   ·have he:=hblk (w.heap.size - 1) (by omega) hl
    rw [Array.getElem?_eq_getElem (by omega:w.heap.size - 1<w.heap.size)] at he
    have:=blk_lt he
    omega
theorem Own.row_ne_box {α:Type} {d:Kd α} {w0 w:World} {L:List Item} (h:Own w0 w L) (i j:Nat) (hij:i≠j) {b n c e g T:Nat} {xs:List α} {cs:Array Value} (hi:L[i]?=some (Item.row d e (.slice (some ⟨b,0,none⟩) n c) xs)) (hj:L[j]?=some (Item.box g T cs)):b≠g:=by
 obtain ⟨_,f,hf⟩:=h
 have h1:=(hf i _ hi).1 b rfl
 have h2:=(hf j _ hj).1
 rintro rfl
 exact hij (h1.symm.trans h2)
theorem Own.seg_cells {α:Type} {d:Kd α} {w0 w:World} {L:List Item} (h:Own w0 w L) (i:Nat) {g n cap e:Nat} {xs:List α} (hi:L[i]?=some (Item.row d e (.slice (some ⟨g,0,none⟩) n cap) xs)) (z:α) (q:Int) (h0:0≤q) (hq:q<(xs.length:Int)) :
  ∃ c,d.K w (xs.getD q.toNat z) c∧∀ j u,c[j]?=some u→w.cell? ⟨g,q.toNat * d.sz+j,none⟩=some u:=by
 obtain ⟨P',hR⟩:=h.get i hi
 have hn:=(Kd.R_reads' hR).1
 obtain ⟨c,_,hm,hcc,_⟩:=Kd.R_elem hR z q h0 (by omega)
 exact ⟨c,d.K_of_M hm,hcc⟩
section
variable {P:Program} {ops:Array Oper} {rest:List Oper} {o:Oper} {a:Act} {Q:Exit→Act→World→Prop} {w0 W:World} {L:List Item}
theorem own_seg_core {α:Type} {d:Kd α} (h:Own w0 W L) (i:Nat) {g n cap e:Nat} {xs:List α} (hi:L[i]?=some (Item.row d e (.slice (some ⟨g,0,none⟩) n cap) xs)) (z:α) (q:Int) (h0:0≤q) (hq:q<(xs.length:Int)) (j:Nat) (u:Value) (x':α) (t:TypeId)
  (hu:u.cells.toList=[u]) (ht:(P.info? t).map (·.size)=some 1) (h1:u.oneCell'=true) (hj:j+1≤d.sz) (hM:∀ (base:Nat) (ok:Nat→Prop) (c:List Value),d.M W base ok (xs.getD q.toNat z) c→d.M W base ok x' (c.take j ++ [u]++c.drop (j+1))) :
  ∃ w1,(Instr.storeAt t (.pointer (some ⟨g,q.toNat * d.sz+j,none⟩)) u).run P W = .ok () w1∧Own w0 w1 (L.set i (Item.row d e (.slice (some ⟨g,0,none⟩) n cap) (xs.set q.toNat x'))):=by
 obtain ⟨P',hR,hb,hback⟩:=h.upd i hi
 have hn:=(Kd.R_reads' hR).1
 obtain ⟨c,hcl,hm,hcc,_⟩:=Kd.R_elem hR z q h0 (by omega)
 obtain ⟨hrow,hg⟩:=Kd.R_seg hR q h0 (by omega) hcl hcc (seg:=[u]) (j:=j) (by simpa using hj) (x':=x') (hM _ _ c hm) (fun k hk=>hk)
 refine ⟨_,?_,hback _ _ ((Chg.grown hg).mono (fun k hk=>by injection hk with hk;subst hk;exact hR.1 k rfl)) (Kd.R_mono hrow (fun k hk => .inl hk))⟩
 obtain ⟨_,inner,hown,hr⟩:=hR
 rcases hown.2 with ⟨hv,_⟩ | ⟨g',cap',cur,hv,hb,hh,hnc,hcm,hcs,_⟩
 ·cases hv
 injection hv with ha _ hc
 injection ha with ha
 injection ha with hg'
 subst hg';subst hc
 refine run_store_run t u [u] hh hu ht ?_ (fun q hq=>by rw [List.mem_singleton.1 hq];exact h1)
 have hil:q.toNat<n:=by omega
 have h2:q.toNat * d.sz+d.sz≤n * d.sz:=by rw [← Nat.succ_mul];exact Nat.mul_le_mul_right _ hil
 have h3:n * d.sz≤cap * d.sz:=Nat.mul_le_mul_right _ (by omega)
 simp only [List.length_singleton]
 omega
theorem own_seg_ev {α:Type} {d:Kd α} (h:Own w0 W L) (i:Nat) {g n cap e:Nat} {xs:List α} (hi:L[i]?=some (Item.row d e (.slice (some ⟨g,0,none⟩) n cap) xs)) (z:α) (q:Int) (h0:0≤q) (hq:q<(xs.length:Int)) (j:Nat) (u:Value) (x':α) (t:TypeId)
  (hu:u.cells.toList=[u]) (ht:(P.info? t).map (·.size)=some 1) (h1:u.oneCell'=true) (hj:j+1≤d.sz) (hM:∀ (base:Nat) (ok:Nat→Prop) (c:List Value),d.M W base ok (xs.getD q.toNat z) c→d.M W base ok x' (c.take j ++ [u]++c.drop (j+1)))
  (hgd:o.guard=none) (hN:o.dst=none) (p y:Operand) (ho:o.op = .store t p y) (o':Nat) (hoff:o'=q.toNat * d.sz+j) (hp:a.eval p = .pointer (some ⟨g,o',none⟩)) (hx:a.eval y=u)
  (hh:∀ w1,Own w0 w1 (L.set i (Item.row d e (.slice (some ⟨g,0,none⟩) n cap) (xs.set q.toNat x')))→wpList P ops Q rest a w1):wpList P ops Q (o :: rest) a W:=by
 subst hoff
 obtain ⟨w1,hrun,hO⟩:=own_seg_core (P:=P) h i hi z q h0 hq j u x' t hu ht h1 hj hM
 refine wpList_plain hgd fun K hK=>?_
 unfold Oper.wp execOp
 simp only [ho,hp,hx,Sem.run_bind,Sem.run_pure,Result.andThen_ok,hrun]
 show K (a.put o.dst undef) _
 rw [hN]
 exact hK a _ (hh _ hO)
theorem reps_map {α:Type} {enc:α→Value} {h1:∀ x:α,(enc x).oneCell'=true} (W:World) (b:Nat) (ok:Nat→Prop) (xs:List α):Reps ((Kd.scalar enc h1).M W b ok) (Kd.scalar enc h1).sz xs (xs.map enc):=by
 induction xs with
 | nil=>unfold Reps;simp
 | cons x r ih=>exact Reps.one (by first | rfl | (simp;done)) ih
theorem own_litN {α:Type} (enc:α→Value) {h1:∀ x:α,(enc x).oneCell'=true} (h:Own w0 W L) (e:Nat) (xs:List α) (m:Nat) (hm:m=xs.length) (inner:List Value) (hin:inner=xs.map enc) (hml:m≤9223372036854775807) (hgd:o.guard=none) {N:Tmp} (hd:o.dst=some N) (hrun:(execOp a.eval o).run P W = .ok (.value (.slice (some ⟨W.heap.size,0,none⟩) m m)) (W.alloc (.cells inner.toArray e)))
  (hh:∀ v1 w1,Own w0 w1 (Item.row (Kd.scalar enc h1) e v1 xs :: L)→Below W.heap.size W w1→wpList P ops Q rest (a.put o.dst v1) w1):wpList P ops Q (o :: rest) a W:=by
 subst hm hin
 exact Kd.R_lit (Kd.scalar enc h1) (w0:=w0) w0.heap.size e hgd hd (ok:=fun k=>W.heap.size≤k) (okp:=fun _=>False) hrun (reps_map W _ _ xs) (fun _ hk=>hk.elim) (Nat.le_refl _) h.base h.size hml
  (fun v1 w1 hR _ hg _=>hh v1 w1 (h.add (below_grown hg) _ hR) (below_grown hg))
end
section
variable {P:Program} {ops:Array Oper} {o:Oper} {a:Act} {Q:Exit→Act→World→Prop} {w0 W:World} {L:List Item}
theorem own_store_step {Kc:Act→World→Prop} (h:Own w0 W L) (i:Nat) (g T:Nat) (cs cs':Array Value) (hi:L[i]?=some (Item.box g T cs)) (hw:Region.wanted o (yielded ops a.tmps)=true) (hN:o.dst=none) (t:TypeId) (p x:Operand) (ho:o.op = .store t p x) (hp:a.eval p = .pointer (some ⟨g,0,none⟩)) (u:Value)
  (hx:a.eval x=u) (hu:u.cells.toList=cs'.toList) (hsz:cs'.size=cs.size) (ht:(P.info? t).map (·.size)=some cs'.toList.length) (h1:∀ q∈cs'.toList,q.oneCell'=true)
  (hh:∀ w1,Own w0 w1 (L.set i (Item.box g T cs'))→Kc a w1):if Region.wanted o (yielded ops a.tmps)=true then Oper.wp P o a W Kc Q else Kc (a.put none undef) W:=by
 have hb:=h.blk i hi
 have hrun:=run_store_run (P:=P) (w:=W) (g:=g) (o:=0) (e:=T) (cur:=cs) t u cs'.toList hb hu ht (by rw [Array.length_toList];omega) h1
 obtain ⟨cur',c1,c2,c3⟩:=setCells_row cs'.toList 0 W cs hb (by rw [Array.length_toList];omega)
 have hcur:cur'=cs':=by
  apply Array.toList_inj.1
  rw [c3,List.take_zero,List.nil_append,List.drop_of_length_le (by simp;omega),List.append_nil]
 subst hcur
 obtain ⟨s1,s2,s3,s4⟩:=setCells_same g cur'.toList 0 W
 refine skip_ hw hN ?_ (hh _ (h.put i hi ⟨s1,s2,s3,by rw [s4];exact Nat.le_refl _,fun k _ hn=>setCells_far cur'.toList 0 k hn⟩ c1))
 unfold execOp
 simp only [ho,hp,hx,Sem.run_bind,Sem.run_pure,Result.andThen_ok,hrun]
end
end Go.Proofs.YtlnhpkjioppbiaaDoor.Sep
