/- What FnExactParseCircuit uses of Kit. -/
import Derived.Test.YtanpidphaanjiaaDoorVPCWMore
import Derived.Test.YtanpidphaanjiaaDoorVPCOpen
import Derived.Laws.BitsLemmas
set_option linter.unusedVariables false
set_option linter.unusedSimpArgs false
namespace Go.Proofs.YtanpidphaanjiaaDoor.Kit
open Go.RowKit Go.Proofs.YtanpidphaanjiaaDoorW.PrintWords Go.Proofs.YtanpidphaanjiaaDoor.Open
theorem ev_c {α:Type} {a:Option α} {r:α} (h:a=some r):Ev (fun _=>a) r:=⟨0,fun _ _=>h⟩
theorem ev_p {α:Type} {c:Prop} [Decidable c] {f g:Nat→Option α} {r:α} (h:c) (e:Ev f r):Ev (fun k=>if c then f k else g k) r:=by
 simpa only [if_pos h] using e
theorem ev_n {α:Type} {c:Prop} [Decidable c] {f g:Nat→Option α} {r:α} (h:¬ c) (e:Ev g r):Ev (fun k=>if c then f k else g k) r:=by
 simpa only [if_neg h] using e
theorem ev_ite {α:Type} {c:Prop} [Decidable c] {f g:Nat→Option α} {r:α} (e1:c→Ev f r) (e2:¬ c→Ev g r):Ev (fun k=>if c then f k else g k) r:=by
 by_cases h:c
 ·exact ev_p h (e1 h)
 ·exact ev_n h (e2 h)
theorem ev_up {α:Type} {g:Nat→Option α} {r:α} (h:Ev (fun k=>g (k+1)) r):Ev g r:=Ev.step (fun _=>rfl) h
theorem ev_get {α:Type} {g:Nat→Option α} {r:α} (h:Ev g r):∃ k,g k=some r:=h.rounds
theorem ev_eq {α:Type} {g:Nat→Option α} {r s:α} (h:Ev g r) (e:r=s):Ev g s:=e ▸ h
theorem w64 {n:Int} (h1 : -9223372036854775808≤n) (h2:n≤9223372036854775807):wrap64 n=n:=by
 unfold wrap64
 omega
theorem wN {n:Int} {m:Nat} (h:n=m) (hm:m≤9223372036854775807):wrap64 n=(m:Int):=by
 rw [h,w64 (by omega) (by omega)]
theorem nat_of {n:Int} (h:0≤n):∃ m:Nat,n=m:=⟨n.toNat,by omega⟩
theorem rdA {p r:List Int} {x:Int} {i:Int} (hi:i=p.length):rd (p++x :: r) i=x:=by
 subst hi
 simp [rd,List.getD_eq_getElem?_getD]
theorem getDA {α:Type} {d:α} {p r:List α} {x:α} {i:Int} (hi:i=p.length):(p++x :: r).getD i.toNat d=x:=by
 subst hi
 simp [List.getD_eq_getElem?_getD]
theorem setA {α:Type} {p r:List α} {x y:α} {i:Int} (hi:i=p.length):(p++x :: r).set i.toNat y=(p ++ [y])++r:=by
 subst hi
 simp
theorem setB {α:Type} {p r:List α} {x y:α} {i:Int} (hi:i=p.length):(p++x :: r).set i.toNat y=p++y :: r:=by
 subst hi
 simp
theorem appA {α:Type} {p r:List α} {x:α}:p++x :: r=(p ++ [x])++r:=by simp
def seqFrom (s:Int):Nat→List Int
 | 0 => []
 | n+1=>s :: seqFrom (s+1) n
theorem seqFrom_length (s:Int) (n:Nat):(seqFrom s n).length=n:=by
 induction n generalizing s with
 | zero=>rfl
 | succ n ih=>simp [seqFrom,ih]
end Go.Proofs.YtanpidphaanjiaaDoor.Kit
