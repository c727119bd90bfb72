/- What FnExactParseCircuit uses of Glob. -/
import Derived.Test.YtanpidphaanjiaaDoorVPCWMore
import Derived.Test.YtanpidphaanjiaaDoorProg
namespace Go.Proofs.YtanpidphaanjiaaDoorW.PrintWords
open Go.RowKit
def gnames:List ByteArray:=[⟨#[97,110,100]⟩,⟨#[111,114]⟩,⟨#[120,111,114]⟩,⟨#[110,111,116]⟩]
def GW (w:World):Prop:=∀ (j:Nat) x,gnames[j]?=some x→w.cell? ⟨0,j,none⟩=some (.string x)
theorem GW_below {w w1:World} (h:GW w) (hb:Below w.heap.size w w1):GW w1:=fun j x hj=>by
 have h1:=h j x hj
 exact (hb.cell (World.block_lt_of_cell? w _ h1)).trans h1
theorem GW_C {w:World} (h:GW w):Kd.C Kd.string w (some ⟨0,0,none⟩) gnames.length gnames:=by
 refine ⟨rfl,by decide,fun _=>⟨_,rfl,fun j p hp=>⟨[.string p],rfl,rfl,fun i u hu=>?_⟩⟩⟩
 obtain rfl:i=0:=by
  have:=(List.getElem?_eq_some_iff.1 hu).1
  simpa using this
 obtain rfl:Value.string p=u:=by simpa using hu
 have h1:=h j p hp
 have e:(⟨0,0,none⟩:Addr).add (j * Kd.string.sz+0)=⟨0,j,none⟩:=by
  show (⟨0,0,none⟩:Addr).add (j * 1+0)=_
  rw [Nat.mul_one,Nat.add_zero]
  unfold Addr.add
  split
  ·subst_vars;rfl
  ·simp
 rw [e]
 exact h1
set_option maxRecDepth 100000 in
theorem garr_at {i:Int} (h0:0≤i) (h1:i<4):∀ w:World,(Instr.index 48 (.agg #[.string (rdOf ByteArray.empty gnames 0),.string (rdOf ByteArray.empty gnames 1),.string (rdOf ByteArray.empty gnames 2),.string (rdOf ByteArray.empty gnames 3)]) (.int .i64 i)).run Tryd.prog w = .ok (.string (rdOf ByteArray.empty gnames i)) w:=by
 have h:i=0∨i=1∨i=2∨i=3:=by omega
 rcases h with rfl | rfl | rfl | rfl <;> exact fun _=>by kernel_rfl
end Go.Proofs.YtanpidphaanjiaaDoorW.PrintWords
