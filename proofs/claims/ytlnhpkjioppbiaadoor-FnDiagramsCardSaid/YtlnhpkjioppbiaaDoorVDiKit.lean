/- What FnDiagrams uses of Kit. -/
import Derived.Test.YtlnhpkjioppbiaaDoorVDiWMore
import Derived.Test.YtlnhpkjioppbiaaDoorVDiOpen
import Derived.Laws.BitsLemmas
set_option linter.unusedVariables false
set_option linter.unusedSimpArgs false
namespace Go.Proofs.YtlnhpkjioppbiaaDoor.Kit
open Go.RowKit Go.Proofs.YtlnhpkjioppbiaaDoorW.PrintWords Go.Proofs.YtlnhpkjioppbiaaDoor.Open
theorem ev_c {α:Type} {a:Option α} {r:α} (h:a=some r):Ev (fun _=>a) r:=⟨0,fun _ _=>h⟩
theorem ev_p {α:Type} {c:Prop} [Decidable c] {f g:Nat→Option α} {r:α} (h:c) (e:Ev f r):Ev (fun k=>if c then f k else g k) r:=by
 simpa only [if_pos h] using e
theorem ev_n {α:Type} {c:Prop} [Decidable c] {f g:Nat→Option α} {r:α} (h:¬ c) (e:Ev g r):Ev (fun k=>if c then f k else g k) r:=by
 simpa only [if_neg h] using e
theorem ev_ite {α:Type} {c:Prop} [Decidable c] {f g:Nat→Option α} {r:α} (e1:c→Ev f r) (e2:¬ c→Ev g r):Ev (fun k=>if c then f k else g k) r:=by
 by_cases h:c
 ·exact ev_p h (e1 h)
 ·exact ev_n h (e2 h)
theorem ev_up {α:Type} {g:Nat→Option α} {r:α} (h:Ev (fun k=>g (k+1)) r):Ev g r:=Ev.step (fun _=>rfl) h
theorem ev_get {α:Type} {g:Nat→Option α} {r:α} (h:Ev g r):∃ k,g k=some r:=h.rounds
theorem ev_eq {α:Type} {g:Nat→Option α} {r s:α} (h:Ev g r) (e:r=s):Ev g s:=e ▸ h
theorem w64 {n:Int} (h1 : -9223372036854775808≤n) (h2:n≤9223372036854775807):wrap64 n=n:=by
 unfold wrap64
 omega
theorem wN {n:Int} {m:Nat} (h:n=m) (hm:m≤9223372036854775807):wrap64 n=(m:Int):=by
 rw [h,w64 (by omega) (by omega)]
theorem u64w {n:Int} (h1:0≤n) (h2:n≤18446744073709551615):IntKind.u64.wrap n=n:=by
 simp [IntKind.wrap,IntKind.bits,IntKind.signed]
 omega
theorem i64w {n:Int} (h1 : -9223372036854775808≤n) (h2:n≤9223372036854775807):IntKind.i64.wrap n=n:=by
 rw [IntKind.wrap_i64]
 omega
theorem i64n (n:Nat) (h2:n<2 ^ 63):IntKind.i64.wrap (n:Int)=n:=i64w (by omega) (by omega)
theorem shl1 (n:Nat) (h:n≤62):shl .i64 1 (n:Int)=((2 ^ n:Nat):Int):=by
 unfold shl
 have h2:min (n:Int).toNat IntKind.i64.bits=n:=by simp [IntKind.bits];omega
 rw [h2,Int.one_mul]
 have h3:(2:Nat) ^ n≤2 ^ 62:=Nat.pow_le_pow_right (by decide) h
 rw [show ((2:Int) ^ n)=((2 ^ n:Nat):Int) by simp]
 exact i64n _ (by omega)
theorem shlN (a n:Nat) (hn:n≤62) (ha:a * 2 ^ n<2 ^ 63):shl .i64 (a:Int) (n:Int)=((a * 2 ^ n:Nat):Int):=by
 unfold shl
 have h2:min (n:Int).toNat IntKind.i64.bits=n:=by simp [IntKind.bits];omega
 rw [h2,show ((a:Int) * (2:Int) ^ n)=((a * 2 ^ n:Nat):Int) by simp]
 exact i64n _ ha
theorem shrN (a n:Nat) (hn:n≤62):shr .i64 (a:Int) (n:Int)=((a >>> n:Nat):Int):=by
 unfold shr
 have h2:min (n:Int).toNat IntKind.i64.bits=n:=by simp [IntKind.bits];omega
 rw [h2,Nat.shiftRight_eq_div_pow,show ((2:Int) ^ n)=((2 ^ n:Nat):Int) by simp]
 exact (Int.natCast_ediv _ _).symm
theorem ofInt_toNat (a:Nat) (ha:a<2 ^ 63):(BitVec.ofInt 64 (a:Int)).toNat=a:=by
 rw [BitVec.ofInt_natCast,BitVec.toNat_ofNat]
 exact Nat.mod_eq_of_lt (by omega)
theorem andN (a b:Nat) (ha:a<2 ^ 63) (hb:b<2 ^ 63):Go.bits .and .i64 a b=((a &&& b:Nat):Int):=by
 show IntKind.i64.wrap ((BitVec.ofInt 64 (a:Int) &&& BitVec.ofInt 64 (b:Int)).toNat:Int)=_
 rw [BitVec.toNat_and,ofInt_toNat a ha,ofInt_toNat b hb]
 exact i64n _ (Nat.lt_of_le_of_lt Nat.and_le_left ha)
theorem xorN (a b:Nat) (ha:a<2 ^ 63) (hb:b<2 ^ 63):Go.bits .xor .i64 a b=((a ^^^ b:Nat):Int):=by
 show IntKind.i64.wrap ((BitVec.ofInt 64 (a:Int) ^^^ BitVec.ofInt 64 (b:Int)).toNat:Int)=_
 rw [BitVec.toNat_xor,ofInt_toNat a ha,ofInt_toNat b hb]
 exact i64n _ (Nat.xor_lt_two_pow ha hb)
theorem nat_of {n:Int} (h:0≤n):∃ m:Nat,n=m:=⟨n.toNat,by omega⟩
theorem rdN {xs:List Int} {n:Nat} (h:n<xs.length):rd xs (n:Int)=xs[n]:=by
 simp [rd,List.getD_eq_getElem?_getD,List.getElem?_eq_getElem h]
theorem rdA {p r:List Int} {x:Int} {i:Int} (hi:i=p.length):rd (p++x :: r) i=x:=by
 subst hi
 simp [rd,List.getD_eq_getElem?_getD]
theorem getDA {α:Type} {d:α} {p r:List α} {x:α} {i:Int} (hi:i=p.length):(p++x :: r).getD i.toNat d=x:=by
 subst hi
 simp [List.getD_eq_getElem?_getD]
def rmap {α:Type} (m:Nat) (f:Nat→α):List α:=(List.range m).map f
theorem rmap_length {α:Type} (m:Nat) (f:Nat→α):(rmap m f).length=m:=by simp [rmap]
theorem rmap_get {α:Type} {m:Nat} {f:Nat→α} {k:Nat} (h:k<m) (d:α):(rmap m f).getD ((k:Int)).toNat d=f k:=by
 simp [rmap,List.getD_eq_getElem?_getD,h]
theorem rmap_set {α:Type} {m:Nat} {f:Nat→α} {k:Nat} {v:α} (h:k<m):(rmap m f).set k v=rmap m (fun j=>if j=k then v else f j):=by
 apply List.ext_getElem
 ·simp [rmap]
 ·intro n h1 h2
  rw [List.getElem_set]
  simp only [rmap,List.getElem_map,List.getElem_range]
  by_cases e:n=k
  ·rw [if_pos e.symm,if_pos e]
  ·rw [if_neg (fun h=>e h.symm),if_neg e]
theorem rmap_congr {α:Type} {m:Nat} {f g:Nat→α} (h:∀ k,k<m→f k=g k):rmap m f=rmap m g:=by
 unfold rmap
 apply List.map_congr_left
 intro k hk
 exact h k (by simpa using hk)
theorem rmap_const {α:Type} (m:Nat) (v:α):List.replicate m v=rmap m (fun _=>v):=by
 unfold rmap
 rw [List.map_const',List.length_range]
theorem rmap_succ {α:Type} (m:Nat) (f:Nat→α):rmap (m+1) f=rmap m f ++ [f m]:=by
 unfold rmap
 rw [List.range_succ,List.map_append]
 rfl
end Go.Proofs.YtlnhpkjioppbiaaDoor.Kit
