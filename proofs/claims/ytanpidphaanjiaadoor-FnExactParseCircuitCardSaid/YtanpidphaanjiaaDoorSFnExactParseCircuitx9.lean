/- Functions of FnExactParseCircuit, each as a Lean function, with the proof that the Go code comes to its answers. -/
import Derived.Test.YtanpidphaanjiaaDoorSFnExactParseCircuitx2
import Derived.Test.YtanpidphaanjiaaDoorSFnExactParseCircuitx8
namespace Go.Proofs.YtanpidphaanjiaaDoor.QFnExactParseCircuit
open Go.RowKit Go.Proofs.YtanpidphaanjiaaDoorW.PrintWords Go.Proofs.YtanpidphaanjiaaDoorW.PrintLast Go.Proofs.YtanpidphaanjiaaDoorW.PrintMore
open Go.Proofs.YtanpidphaanjiaaDoorW.PrintWords renaming pw_below_drewN→pN,below_drew1→p1,below_alloc→pA
open Go.Proofs.YtanpidphaanjiaaDoorW.PrintWords.Kd renaming R_alloc→kA,R_drewN→kN,R_drew→kD,Q_alloc→qA,Q_drewN→qN,Q_drew→qD,C_alloc→cA,C_drewN→cN,C_drew→cD
open Go.Proofs.YtanpidphaanjiaaDoorW.PrintWords.Aside0 renaming mk→aM
open List renaming setIfInBounds_toArray→sI,set_cons_zero→s0,set_cons_succ→sS,map_toArray→mT,length_take→lT,length_drop→lD,map_cons→mC,map_nil→mN
open Option renaming bind_eq_some_iff→oB,bind_some→oS
attribute [local go_sem] max2_int min2_int max_two min_two max_three min_three max_four min_four
set_option maxHeartbeats 8000000
set_option maxRecDepth 100000
set_option linter.unusedVariables false
set_option linter.unusedSimpArgs false
mutual
def impl_readGate.l0:Nat→List ByteArray→Int→Int→Int→Int→Option (Int×Int×Int×Bool)
 | 0,_,_,_,_,_=>none
 | k+1,x4,x16,x237000,x237001,x237002=>if x16<4 then (if 0≤x16 then (if 0<(x4.length:Int) then (if (rdOf ByteArray.empty x4 0).toList=(rdOf ByteArray.empty gnames x16).toList then (impl_readGate.l0 k x4 (wrap64 (x16+1)) (wrap64 (x16+1)) x237001 x237002) else (impl_readGate.l0 k x4 (wrap64 (x16+1)) x237000 x237001 x237002)) else (none)) else (none)) else (if x237000=0 then (impl_readGate.j1 k x4 true x237000 x237001 x237002) else (if x237000=4 then (if (x4.length:Int)=2 then (impl_readGate.j1 k x4 false x237000 x237001 x237002) else (impl_readGate.j1 k x4 true x237000 x237001 x237002)) else (impl_readGate.j1 k x4 ((x4.length:Int) != 3) x237000 x237001 x237002)))
def impl_readGate.j1:Nat→List ByteArray→Bool→Int→Int→Int→Option (Int×Int×Int×Bool)
 | 0,_,_,_,_,_=>none
 | k+1,x4,x51,x237000,x237001,x237002=>if x51=true then (some (0,0,0,false)) else (if x237000=4 then (if 1<(x4.length:Int) then (if x4.length<8796093022208 then ((some (x4 ++ [rdOf ByteArray.empty x4 1]:List ByteArray)).bind fun y243=>(if 1<(y243.length:Int) then ((impl_decimal.f k (rdOf ByteArray.empty y243 1)).bind fun bt247=>(if 2<(y243.length:Int) then ((impl_decimal.f k (rdOf ByteArray.empty y243 2)).bind fun bt250=>(if bt247.2=true then (some (x237000,bt247.1,bt250.1,bt250.2)) else (some (x237000,bt247.1,bt250.1,false)))) else (none))) else (none))) else (none)) else (none)) else (if 1<(x4.length:Int) then ((impl_decimal.f k (rdOf ByteArray.empty x4 1)).bind fun bt253=>(if 2<(x4.length:Int) then ((impl_decimal.f k (rdOf ByteArray.empty x4 2)).bind fun bt256=>(if bt253.2=true then (some (x237000,bt253.1,bt256.1,bt256.2)) else (some (x237000,bt253.1,bt256.1,false)))) else (none))) else (none)))
end
def impl_readGate.f (k:Nat) (a0:ByteArray):Option (Int×Int×Int×Bool):=(strings_Split.f k a0 (⟨#[32]⟩:ByteArray)).bind fun t233=>(impl_readGate.l0 k t233 0 0 0 0)
theorem impl_readGate.mono_l:∀ k,(∀ y0 y1 y2 y3 y4,LeO (impl_readGate.l0 k y0 y1 y2 y3 y4) (impl_readGate.l0 (k+1) y0 y1 y2 y3 y4))∧(∀ y0 y1 y2 y3 y4,LeO (impl_readGate.j1 k y0 y1 y2 y3 y4) (impl_readGate.j1 (k+1) y0 y1 y2 y3 y4))
 | 0=>⟨fun _ _ _ _ _ r h=>by simp [impl_readGate.l0] at h,fun _ _ _ _ _ r h=>by simp [impl_readGate.j1] at h⟩
 | k+1=>by
  obtain ⟨ih0,ih1⟩:=impl_readGate.mono_l k
  refine ⟨?_,?_⟩
  ·intro y0 y1 y2 y3 y4
   unfold impl_readGate.l0
   repeat' first
   | (with_reducible exact ih0 _ _ _ _ _)
   | (with_reducible exact ih1 _ _ _ _ _)
   | (with_reducible exact impl_decimal.mono _ _)
   | (with_reducible exact strings_Split.mono _ _ _)
   | (with_reducible exact LeO.refl _)
   | (with_reducible exact LeO.none _)
   | (with_reducible refine LeO.ite ?_ ?_)
   | (with_reducible refine LeO.bind ?_ (fun _=>?_))
   | exact ih0 _ _ _ _ _
   | exact ih1 _ _ _ _ _
   | exact impl_decimal.mono _ _
   | exact strings_Split.mono _ _ _
   | exact LeO.none _
   | refine LeO.ite ?_ ?_
   | refine LeO.bind ?_ (fun _=>?_)
  ·intro y0 y1 y2 y3 y4
   unfold impl_readGate.j1
   repeat' first
   | (with_reducible exact ih0 _ _ _ _ _)
   | (with_reducible exact ih1 _ _ _ _ _)
   | (with_reducible exact impl_decimal.mono _ _)
   | (with_reducible exact strings_Split.mono _ _ _)
   | (with_reducible exact LeO.refl _)
   | (with_reducible exact LeO.none _)
   | (with_reducible refine LeO.ite ?_ ?_)
   | (with_reducible refine LeO.bind ?_ (fun _=>?_))
   | exact ih0 _ _ _ _ _
   | exact ih1 _ _ _ _ _
   | exact impl_decimal.mono _ _
   | exact strings_Split.mono _ _ _
   | exact LeO.none _
   | refine LeO.ite ?_ ?_
   | refine LeO.bind ?_ (fun _=>?_)
theorem impl_readGate.mono:∀ a0 k,LeO (impl_readGate.f k a0) (impl_readGate.f (k+1) a0):=by
 intro a0 k
 obtain ⟨ih0,ih1⟩:=impl_readGate.mono_l k
 unfold impl_readGate.f
 repeat' first
   | (with_reducible exact ih0 _ _ _ _ _)
   | (with_reducible exact ih1 _ _ _ _ _)
   | (with_reducible exact impl_decimal.mono _ _)
   | (with_reducible exact strings_Split.mono _ _ _)
   | (with_reducible exact LeO.refl _)
   | (with_reducible exact LeO.none _)
   | (with_reducible refine LeO.ite ?_ ?_)
   | (with_reducible refine LeO.bind ?_ (fun _=>?_))
   | exact ih0 _ _ _ _ _
   | exact ih1 _ _ _ _ _
   | exact impl_decimal.mono _ _
   | exact strings_Split.mono _ _ _
   | exact LeO.none _
   | refine LeO.ite ?_ ?_
   | refine LeO.bind ?_ (fun _=>?_)
theorem impl_readGate.calls (k:Nat) (a0:ByteArray) (r1:Int) (r2:Int) (r3:Int) (r4:Bool) (w:World) (h:impl_readGate.f k a0=some (r1,r2,r3,r4)) (hG:GW w) :
  Calls Tryd.prog 31 #[.string a0] w fun e w'=>e = .returned (.tuple #[.agg #[.int .i64 r1,.int .i64 r2,.int .i64 r3],.bool r4])∧Below w.heap.size w w':=by
 have hu47:=Tryd.underlying47
 have hG_:=aM hG
 have HRG:=aM (GW_C hG)
 clear hG
 have HB:=aM (Below.refl w.heap.size w)
 have H:((strings_Split.f k a0 (⟨#[32]⟩:ByteArray)).bind fun t233=>(impl_readGate.l0 k t233 0 0 0 0))=some (r1,r2,r3,r4):=h
 clear h
 replace H:=oB.mp H
 obtain ⟨t233,A20,H⟩:=H
 replace H:(impl_readGate.l0 k t233 0 0 0 0)=some (r1,r2,r3,r4):=H
 have A2:=aM A20
 clear A20
 have H':=aM H
 clear H
 go_enter Tryd.func31,Tryd.ntmps31
 go_wp2_with (first | ((with_reducible refine gate_dst (N:=2) rfl ?_);(try (refine gate_guard (by rfl) ?_;dsimp only));refine box_event ?hg (N:=2) ?hd (cs:=#[.int .i64 0,.int .i64 0,.int .i64 0]) (t:=47) ?hr ?_;(case hd=>rfl);(case hg=>rfl);(case hr=>exact ze_);intro gb232 hg w3 hbox hb;have n_:=z (below_step zb_ hb)<|z (hbox)<|z ((by rw [hg];exact (below_size zb_):w.heap.size≤gb232))<|z1 ((by rw [hg];exact (below_size zb_):w.heap.size≤gb232));clear HB;obtain ⟨HB,BK232,GW232,GE232⟩:=n_;clear hb hbox hg)|((with_reducible refine gate_callee (f:=32) rfl ?_);refine goesL_ (some 13) rfl rfl Tryd.func32 (by kernel_rfl) rfl #[.string a0,.string (⟨#[32]⟩:ByteArray)] rfl zd_ ?_;(with_reducible refine (strings_Split.calls k a0 (⟨#[32]⟩:ByteArray) t233 _ A2.out).mono ?_);rintro e w4 ⟨v234,rfl,ho0,hb⟩;refine ⟨_,rfl,?_⟩;have n_:=z (Kd.R_lower ho0 (below_size zec_))<|z (blk_below (zb BK232.out) hb)<|z1 (below_step zec_ hb);clear BK232 HB;obtain ⟨HO235,BK232,HB⟩:=n_;clear hb;(try clear ho0))|((with_reducible refine gate_dst (N:=5) rfl ?_);(try (refine gate_guard (by rfl) ?_;dsimp only));refine box_event ?hg (N:=5) ?hd (cs:=#[.int .i64 0,.int .i64 0,.int .i64 0]) (t:=47) ?hr ?_;(case hd=>rfl);(case hg=>rfl);(case hr=>exact ze_);intro gb236 hg w5 hbox hb;have n_:=z (Kd.R_below (zr HO235.out) hb)<|z (blk_below (zb BK232.out) hb)<|z (below_step zec_ hb)<|z (hbox)<|z ((by rw [hg];exact (below_size zec_):w.heap.size≤gb236))<|z ((by rw [hg];exact (below_size zec_):w.heap.size≤gb236))<|z ((by rw [hg];exact Nat.ne_of_lt (blk_lt (zb BK232.out)):gb232≠gb236))<|z1 ((by rw [hg];exact Nat.ne_of_gt (blk_lt (zb BK232.out)):gb236≠gb232));clear HO235 BK232 HB;obtain ⟨HO235,BK232,HB,BK236,GW236,GE236,NB232_236,NB236_232⟩:=n_;clear hb hbox hg;have hnb6:=NB236_232.out;have hnc6:=NB232_236.out;obtain ⟨hcz7_0,hcz7_1,hcz7_2,hfz7_0,hfz7_1,hfz7_2⟩:=zk3 BK236.out;have p237:0≤(0:Int):=(by omega);have q237:0<(gnames.length:Int):=(by decide);obtain ⟨ad237,e237,hx237_0⟩:=Kd.at_string HRG.out 0 p237 q237;obtain rfl:(⟨0,0,none⟩:Addr)=ad237:=(by injection e237);(first | simp only [add_plain] at hx237_0 | simp only [add_at] at hx237_0 | simp only [Addr.add,Nat.zero_add] at hx237_0 | skip);have qi237:(0<gnames.length)=True:=eq_true (by decide);(try rw [show ((0:Int)).toNat=0 from rfl] at hx237_0);(try rw [Addr.add_zero'] at hx237_0);have hn237_0:(⟨0,0,none⟩:Addr).block≠gb236:=Nat.ne_of_lt (Nat.lt_of_lt_of_le (by have:=World.block_lt_of_cell? _ _ hx237_0;first | rwa [add_block] at this | exact this) GW236.out);have hn237_1:(⟨0,0,none⟩:Addr).block≠gb236:=Nat.ne_of_lt (Nat.lt_of_lt_of_le (by have:=World.block_lt_of_cell? _ _ hx237_0;first | rwa [add_block] at this | exact this) GW236.out);have hn237_2:(⟨0,0,none⟩:Addr).block≠gb236:=Nat.ne_of_lt (Nat.lt_of_lt_of_le (by have:=World.block_lt_of_cell? _ _ hx237_0;first | rwa [add_block] at this | exact this) GW236.out);replace hx237_0:=(HB.out.cell (World.block_lt_of_cell? w _ hx237_0)).trans hx237_0;replace hx237_0:=(cell_far (p:=⟨gb236,0,none⟩) (by first | (rw [add_block];exact hn237_0)|(show (Addr.add _ _).block≠_;rw [add_block];exact hn237_0) | exact hn237_0) (.int .i64 0)).trans hx237_0;replace hx237_0:=(cell_far (p:=⟨gb236,1,none⟩) (by first | (rw [add_block];exact hn237_1)|(show (Addr.add _ _).block≠_;rw [add_block];exact hn237_1) | exact hn237_1) (.int .i64 0)).trans hx237_0;replace hx237_0:=(cell_far (p:=⟨gb236,2,none⟩) (by first | (rw [add_block];exact hn237_2)|(show (Addr.add _ _).block≠_;rw [add_block];exact hn237_2) | exact hn237_2) (.int .i64 0)).trans hx237_0;clear hn237_0 hn237_1 hn237_2;replace p237:=eq_true p237;replace q237:=eq_true q237;have p238:0≤(1:Int):=(by omega);have q238:1<(gnames.length:Int):=(by decide);obtain ⟨ad238,e238,hx238_0⟩:=Kd.at_string HRG.out 1 p238 q238;obtain rfl:(⟨0,0,none⟩:Addr)=ad238:=(by injection e238);(first | simp only [add_plain] at hx238_0 | simp only [add_at] at hx238_0 | simp only [Addr.add,Nat.zero_add] at hx238_0 | skip);have qi238:(1<gnames.length)=True:=eq_true (by decide);(try rw [show ((1:Int)).toNat=1 from rfl] at hx238_0);have hn238_0:(⟨0,0,none⟩:Addr).block≠gb236:=Nat.ne_of_lt (Nat.lt_of_lt_of_le (by have:=World.block_lt_of_cell? _ _ hx238_0;first | rwa [add_block] at this | exact this) GW236.out);have hn238_1:(⟨0,0,none⟩:Addr).block≠gb236:=Nat.ne_of_lt (Nat.lt_of_lt_of_le (by have:=World.block_lt_of_cell? _ _ hx238_0;first | rwa [add_block] at this | exact this) GW236.out);have hn238_2:(⟨0,0,none⟩:Addr).block≠gb236:=Nat.ne_of_lt (Nat.lt_of_lt_of_le (by have:=World.block_lt_of_cell? _ _ hx238_0;first | rwa [add_block] at this | exact this) GW236.out);replace hx238_0:=(HB.out.cell (World.block_lt_of_cell? w _ hx238_0)).trans hx238_0;replace hx238_0:=(cell_far (p:=⟨gb236,0,none⟩) (by first | (rw [add_block];exact hn238_0)|(show (Addr.add _ _).block≠_;rw [add_block];exact hn238_0) | exact hn238_0) (.int .i64 0)).trans hx238_0;replace hx238_0:=(cell_far (p:=⟨gb236,1,none⟩) (by first | (rw [add_block];exact hn238_1)|(show (Addr.add _ _).block≠_;rw [add_block];exact hn238_1) | exact hn238_1) (.int .i64 0)).trans hx238_0;replace hx238_0:=(cell_far (p:=⟨gb236,2,none⟩) (by first | (rw [add_block];exact hn238_2)|(show (Addr.add _ _).block≠_;rw [add_block];exact hn238_2) | exact hn238_2) (.int .i64 0)).trans hx238_0;clear hn238_0 hn238_1 hn238_2;replace p238:=eq_true p238;replace q238:=eq_true q238;have p239:0≤(2:Int):=(by omega);have q239:2<(gnames.length:Int):=(by decide);obtain ⟨ad239,e239,hx239_0⟩:=Kd.at_string HRG.out 2 p239 q239;obtain rfl:(⟨0,0,none⟩:Addr)=ad239:=(by injection e239);(first | simp only [add_plain] at hx239_0 | simp only [add_at] at hx239_0 | simp only [Addr.add,Nat.zero_add] at hx239_0 | skip);have qi239:(2<gnames.length)=True:=eq_true (by decide);(try rw [show ((2:Int)).toNat=2 from rfl] at hx239_0);have hn239_0:(⟨0,0,none⟩:Addr).block≠gb236:=Nat.ne_of_lt (Nat.lt_of_lt_of_le (by have:=World.block_lt_of_cell? _ _ hx239_0;first | rwa [add_block] at this | exact this) GW236.out);have hn239_1:(⟨0,0,none⟩:Addr).block≠gb236:=Nat.ne_of_lt (Nat.lt_of_lt_of_le (by have:=World.block_lt_of_cell? _ _ hx239_0;first | rwa [add_block] at this | exact this) GW236.out);have hn239_2:(⟨0,0,none⟩:Addr).block≠gb236:=Nat.ne_of_lt (Nat.lt_of_lt_of_le (by have:=World.block_lt_of_cell? _ _ hx239_0;first | rwa [add_block] at this | exact this) GW236.out);replace hx239_0:=(HB.out.cell (World.block_lt_of_cell? w _ hx239_0)).trans hx239_0;replace hx239_0:=(cell_far (p:=⟨gb236,0,none⟩) (by first | (rw [add_block];exact hn239_0)|(show (Addr.add _ _).block≠_;rw [add_block];exact hn239_0) | exact hn239_0) (.int .i64 0)).trans hx239_0;replace hx239_0:=(cell_far (p:=⟨gb236,1,none⟩) (by first | (rw [add_block];exact hn239_1)|(show (Addr.add _ _).block≠_;rw [add_block];exact hn239_1) | exact hn239_1) (.int .i64 0)).trans hx239_0;replace hx239_0:=(cell_far (p:=⟨gb236,2,none⟩) (by first | (rw [add_block];exact hn239_2)|(show (Addr.add _ _).block≠_;rw [add_block];exact hn239_2) | exact hn239_2) (.int .i64 0)).trans hx239_0;clear hn239_0 hn239_1 hn239_2;replace p239:=eq_true p239;replace q239:=eq_true q239;have p240:0≤(3:Int):=(by omega);have q240:3<(gnames.length:Int):=(by decide);obtain ⟨ad240,e240,hx240_0⟩:=Kd.at_string HRG.out 3 p240 q240;obtain rfl:(⟨0,0,none⟩:Addr)=ad240:=(by injection e240);(first | simp only [add_plain] at hx240_0 | simp only [add_at] at hx240_0 | simp only [Addr.add,Nat.zero_add] at hx240_0 | skip);have qi240:(3<gnames.length)=True:=eq_true (by decide);(try rw [show ((3:Int)).toNat=3 from rfl] at hx240_0);have hn240_0:(⟨0,0,none⟩:Addr).block≠gb236:=Nat.ne_of_lt (Nat.lt_of_lt_of_le (by have:=World.block_lt_of_cell? _ _ hx240_0;first | rwa [add_block] at this | exact this) GW236.out);have hn240_1:(⟨0,0,none⟩:Addr).block≠gb236:=Nat.ne_of_lt (Nat.lt_of_lt_of_le (by have:=World.block_lt_of_cell? _ _ hx240_0;first | rwa [add_block] at this | exact this) GW236.out);have hn240_2:(⟨0,0,none⟩:Addr).block≠gb236:=Nat.ne_of_lt (Nat.lt_of_lt_of_le (by have:=World.block_lt_of_cell? _ _ hx240_0;first | rwa [add_block] at this | exact this) GW236.out);replace hx240_0:=(HB.out.cell (World.block_lt_of_cell? w _ hx240_0)).trans hx240_0;replace hx240_0:=(cell_far (p:=⟨gb236,0,none⟩) (by first | (rw [add_block];exact hn240_0)|(show (Addr.add _ _).block≠_;rw [add_block];exact hn240_0) | exact hn240_0) (.int .i64 0)).trans hx240_0;replace hx240_0:=(cell_far (p:=⟨gb236,1,none⟩) (by first | (rw [add_block];exact hn240_1)|(show (Addr.add _ _).block≠_;rw [add_block];exact hn240_1) | exact hn240_1) (.int .i64 0)).trans hx240_0;replace hx240_0:=(cell_far (p:=⟨gb236,2,none⟩) (by first | (rw [add_block];exact hn240_2)|(show (Addr.add _ _).block≠_;rw [add_block];exact hn240_2) | exact hn240_2) (.int .i64 0)).trans hx240_0;clear hn240_0 hn240_1 hn240_2;replace p240:=eq_true p240;replace q240:=eq_true q240))
 go_loopg [16] k (fun kq v16 w' => ∃ (x16_1:Int) (x237000_1:Int),v16 = .int .i64 x16_1∧Aside0 (impl_readGate.l0 kq t233 x16_1 x237000_1 0 0=some (r1,r2,r3,r4))∧Aside0 (kq≤k)∧Aside0 (Kd.R Kd.string 9 w' w.heap.size (fun _=>True) v234 t233)∧Aside0 (w'.heap[gb232]?=some (.cells #[.int .i64 0,.int .i64 0,.int .i64 0] 47 (0,0)))∧Aside0 (w'.heap[gb236]?=some (.cells #[.int .i64 x237000_1,.int .i64 0,.int .i64 0] 47 (0,0)))∧Aside0 (Below w.heap.size w w'))
 case atStart=>exact ⟨(0),(0),zc_,H',⟨Nat.le_refl _⟩,⟨by refine zr ?_;exact Kd.R_mono (Kd.R_far (p:=⟨gb236,2,none⟩) (Kd.R_far (p:=⟨gb236,1,none⟩) (Kd.R_far (p:=⟨gb236,0,none⟩) (Kd.R_types HO235.out BK236.out (by decide)) (fun _ hk=>hk.2) (.int .i64 0)) (fun _ hk=>hk.2) (.int .i64 0)) (fun _ hk=>hk.2) (.int .i64 0)) (fun _ hk=>trivial)⟩,⟨by refine zb ?_;refine blk_far ?_ NB232_236.out _;refine zb ?_;refine blk_far ?_ NB232_236.out _;refine zb ?_;refine blk_far ?_ NB232_236.out _;refine zb ?_;exact BK232.out⟩,⟨by refine zb ?_;refine blk_put (cs:=#[.int .i64 0,.int .i64 0,.int .i64 0]) ?_ 2 _ rfl;refine zb ?_;refine blk_put (cs:=#[.int .i64 0,.int .i64 0,.int .i64 0]) ?_ 1 _ rfl;refine zb ?_;refine blk_put (cs:=#[.int .i64 0,.int .i64 0,.int .i64 0]) ?_ 0 _ rfl;refine zb ?_;exact BK236.out⟩,⟨zbe_⟩⟩
 case round =>
  clear H';(try clear hcz7_0);(try clear hcz7_1);(try clear hcz7_2);(try clear hfz7_0);(try clear hfz7_1);(try clear hfz7_2);(try clear hx237_0);(try clear hx238_0);(try clear hx239_0);(try clear hx240_0);(try clear p237);(try clear p238);(try clear p239);(try clear p240);(try clear q237);(try clear q238);(try clear q239);(try clear q240);obtain ⟨x16_1,x237000_1,rfl,HA,HK1,HO_4,BK232,BK236,HB⟩:=hrel
  cases gk with
  | zero=>exact absurd HA.out (by simp [impl_readGate.l0])
  | succ k1 =>
   have H:=HA.out;clear HA
   simp only [impl_readGate.l0] at H
   by_cases c8:x16_1<4
   ·rw [if_pos c8] at H
    have c8b0:=decide_eq_true c8;clear c8
    by_cases c9:0≤x16_1
    ·rw [if_pos c9] at H
     have c9b0:=decide_eq_true c9;clear c9
     by_cases c11:0<(t233.length:Int)
     ·rw [if_pos c11] at H
      have c11b0:=decide_eq_true c11;have c11b1:decide (0<t233.length)=true:=decide_eq_true (by omega);clear c11
      by_cases c12:(rdOf ByteArray.empty t233 0).toList=(rdOf ByteArray.empty gnames x16_1).toList
      ·rw [if_pos c12] at H
       have c12b0:=beq_iff_eq.mpr c12;have c12b1:=bne_eq_false_iff_eq.mpr c12;clear c12;have H':=aM H;clear H;have p10:0≤(x16_1:Int):=of_decide_eq_true za_;have q10:x16_1<4:=of_decide_eq_true za_;have hx10:=garr_at p10 q10;replace p10:=eq_true p10;replace q10:=eq_true q10;obtain ⟨Ao13,co13,eo13⟩:=Kd.R_slice HO_4.out;subst eo13;have p241:0≤(0:Int):=(by omega);have q241:0<(t233.length:Int):=of_decide_eq_true za_;obtain ⟨ad241,e241,hx241_0⟩:=Kd.at_string (Kd.R_reads' HO_4.out).2.2 0 p241 q241
       cases e241
       have qi241:(0<t233.length)=True:=eq_true (by omega);(try rw [show ((0:Int)).toNat=0 from rfl] at hx241_0);(try rw [Addr.add_zero'] at hx241_0);replace p241:=eq_true p241;replace q241:=eq_true q241;have hnb14:=NB236_232.out;have hnc14:=NB232_236.out;obtain ⟨hcz15_0,hcz15_1,hcz15_2,hfz15_0,hfz15_1,hfz15_2⟩:=zk3 BK236.out
       go_wp2
       go_roundg k1
       case measure=>have:=HK1.out;omega
       case rel=>exact ⟨(wrap64 (x16_1+1)),(wrap64 (x16_1+1)),zc_,H',⟨zbd_⟩,⟨by refine zr ?_;exact Kd.R_mono (Kd.R_far (p:=⟨gb236,0,none⟩) (Kd.R_types HO_4.out BK236.out (by decide)) (fun _ hk=>hk.2) (.int .i64 (wrap64 (x16_1+1)))) (fun _ hk=>trivial)⟩,⟨by refine zb ?_;refine blk_far ?_ NB232_236.out _;refine zb ?_;exact BK232.out⟩,⟨by refine zb ?_;refine blk_put (cs:=#[.int .i64 x237000_1,.int .i64 0,.int .i64 0]) ?_ 0 _ rfl;refine zb ?_;exact BK236.out⟩,⟨zbe_⟩⟩
      ·rw [if_neg c12] at H
       have c12b0:=beq_eq_false_iff_ne.mpr c12;have c12b1:=bne_iff_ne.mpr c12;have H':=aM H;clear H;have p10:0≤(x16_1:Int):=of_decide_eq_true za_;have q10:x16_1<4:=of_decide_eq_true za_;have hx10:=garr_at p10 q10;replace p10:=eq_true p10;replace q10:=eq_true q10;obtain ⟨Ao16,co16,eo16⟩:=Kd.R_slice HO_4.out;subst eo16;have p241:0≤(0:Int):=(by omega);have q241:0<(t233.length:Int):=of_decide_eq_true za_;obtain ⟨ad241,e241,hx241_0⟩:=Kd.at_string (Kd.R_reads' HO_4.out).2.2 0 p241 q241
       cases e241
       have qi241:(0<t233.length)=True:=eq_true (by omega);(try rw [show ((0:Int)).toNat=0 from rfl] at hx241_0);(try rw [Addr.add_zero'] at hx241_0);replace p241:=eq_true p241;replace q241:=eq_true q241
       go_wp2
       go_roundg k1
       case measure=>have:=HK1.out;omega
       case rel=>exact ⟨(wrap64 (x16_1+1)),(x237000_1),zc_,H',⟨zbd_⟩,⟨zr HO_4.out⟩,⟨zb BK232.out⟩,⟨zb BK236.out⟩,⟨zbe_⟩⟩
     ·rw [if_neg c11] at H
      exact q3n_ H
    ·rw [if_neg c9] at H
     exact q3n_ H
   ·rw [if_neg c8] at H
    have c8b0:=decide_eq_false c8;clear c8;have HC17:=aM H;clear H
    go_upto_region 9 with (fail)
    go_cut [51] (fun v51 wc => ∃ (kq:Nat) (x51_16:Bool),v51 = .bool x51_16∧Aside0 (impl_readGate.j1 kq t233 x51_16 x237000_1 0 0=some (r1,r2,r3,r4))∧Aside0 (kq≤k1)∧Aside0 (Kd.R Kd.string 9 wc w.heap.size (fun _=>True) v234 t233)∧Aside0 (wc.heap[gb232]?=some (.cells #[.int .i64 0,.int .i64 0,.int .i64 0] 47 (0,0)))∧Aside0 (wc.heap[gb236]?=some (.cells #[.int .i64 x237000_1,.int .i64 0,.int .i64 0] 47 (0,0)))∧Aside0 (Below w.heap.size w wc))
    case first =>
     have H:=HC17.out;clear HC17
     by_cases c18:x237000_1=0
     ·rw [if_pos c18] at H
      have c18b0:=beq_iff_eq.mpr c18;have c18b1:=bne_eq_false_iff_eq.mpr c18;clear c18;(first | rw [c18b0]|(simp only [i64_w,i32_w];rw [c18b0]) | skip);have H':=aM H;clear H;have hnb19:=NB236_232.out;have hnc19:=NB232_236.out;obtain ⟨hcz20_0,hcz20_1,hcz20_2,hfz20_0,hfz20_1,hfz20_2⟩:=zk3 BK236.out
      go_wp2
      go_meet
      case rel=>exact ⟨_,(true),zc_,H',⟨zcf_⟩,⟨zr HO_4.out⟩,⟨zb BK232.out⟩,⟨zb BK236.out⟩,⟨zbe_⟩⟩
     ·rw [if_neg c18] at H
      have c18b0:=beq_eq_false_iff_ne.mpr c18;have c18b1:=bne_iff_ne.mpr c18;(first | rw [c18b0]|(simp only [i64_w,i32_w];rw [c18b0]) | skip)
      by_cases c21:x237000_1=4
      ·rw [if_pos c21] at H
       have c21b0:=beq_iff_eq.mpr c21;have c21b1:=bne_eq_false_iff_eq.mpr c21;clear c21
       by_cases c22:(t233.length:Int)=2
       ·rw [if_pos c22] at H
        have c22b0:=beq_iff_eq.mpr c22;have c22b1:=bne_eq_false_iff_eq.mpr c22;clear c22;have H':=aM H;clear H;have hnb23:=NB236_232.out;have hnc23:=NB232_236.out;obtain ⟨hcz24_0,hcz24_1,hcz24_2,hfz24_0,hfz24_1,hfz24_2⟩:=zk3 BK236.out;obtain ⟨Ao25,co25,eo25⟩:=Kd.R_slice HO_4.out;subst eo25
        go_wp2
        go_meet
        case rel=>exact ⟨_,(false),zc_,H',⟨zcf_⟩,⟨zr HO_4.out⟩,⟨zb BK232.out⟩,⟨zb BK236.out⟩,⟨zbe_⟩⟩
       ·rw [if_neg c22] at H
        have c22b0:=beq_eq_false_iff_ne.mpr c22;have c22b1:=bne_iff_ne.mpr c22;have H':=aM H;clear H;have hnb26:=NB236_232.out;have hnc26:=NB232_236.out;obtain ⟨hcz27_0,hcz27_1,hcz27_2,hfz27_0,hfz27_1,hfz27_2⟩:=zk3 BK236.out;obtain ⟨Ao28,co28,eo28⟩:=Kd.R_slice HO_4.out;subst eo28
        go_wp2
        go_meet
        case rel=>exact ⟨_,(true),zc_,H',⟨zcf_⟩,⟨zr HO_4.out⟩,⟨zb BK232.out⟩,⟨zb BK236.out⟩,⟨zbe_⟩⟩
      ·rw [if_neg c21] at H
       have c21b0:=beq_eq_false_iff_ne.mpr c21;have c21b1:=bne_iff_ne.mpr c21;have H':=aM H;clear H;have hnb29:=NB236_232.out;have hnc29:=NB232_236.out;obtain ⟨hcz30_0,hcz30_1,hcz30_2,hfz30_0,hfz30_1,hfz30_2⟩:=zk3 BK236.out;obtain ⟨Ao31,co31,eo31⟩:=Kd.R_slice HO_4.out;subst eo31
       go_wp2
       go_meet
       case rel=>exact ⟨_,(((t233.length:Int) != 3)),zc_,H',⟨zcf_⟩,⟨zr HO_4.out⟩,⟨zb BK232.out⟩,⟨zb BK236.out⟩,⟨zbe_⟩⟩
    case rest =>
     clear HC17;(try clear c8b0);obtain ⟨kq,x51_16,rfl,HA,HJ16,HO_4,BK232,BK236,HB⟩:=hcut
     cases kq with
     | zero=>exact absurd HA.out (by simp [impl_readGate.j1])
     | succ kj16 =>
      have H:=HA.out;clear HA
      simp only [impl_readGate.j1] at H
      by_cases c32:x51_16=true
      ·subst c32
       have H1:(some (0,0,0,false))=some (r1,r2,r3,r4):=by rw [if_pos rfl] at H;exact H
       clear H;have H:=H1;clear H1
       simp only [Option.some.injEq,Prod.mk.injEq] at H
       obtain ⟨rfl,rfl,rfl,rfl⟩:=H;have hnb33:=NB232_236.out;have hnc33:=NB236_232.out;obtain ⟨hcz34_0,hcz34_1,hcz34_2,hfz34_0,hfz34_1,hfz34_2⟩:=zk3 BK232.out
       go_wp2
       refine bodyPost_ret (results_ct rfl _ _ gb232 47 #[.int .i64 0,.int .i64 0,.int .i64 0] (0,0) _ rfl (by refine zb ?_;refine blk_put (cs:=#[.int .i64 0,.int .i64 0,.int .i64 0]) ?_ 2 _ rfl;refine zb ?_;refine blk_put (cs:=#[.int .i64 0,.int .i64 0,.int .i64 0]) ?_ 1 _ rfl;refine zb ?_;refine blk_put (cs:=#[.int .i64 0,.int .i64 0,.int .i64 0]) ?_ 0 _ rfl;refine zb ?_;exact BK232.out) Tryd.underlying47 rfl (by kernel_rfl)) rfl ?_
       exact ⟨zf_,zbe_⟩
      ·replace c32:=Bool.eq_false_iff.mpr c32
       subst c32;have H1:(if x237000_1=4 then (if 1<(t233.length:Int) then (if t233.length<8796093022208 then ((some (t233 ++ [rdOf ByteArray.empty t233 1]:List ByteArray)).bind fun y243=>(if 1<(y243.length:Int) then ((impl_decimal.f kj16 (rdOf ByteArray.empty y243 1)).bind fun bt247=>(if 2<(y243.length:Int) then ((impl_decimal.f kj16 (rdOf ByteArray.empty y243 2)).bind fun bt250=>(if bt247.2=true then (some (x237000_1,bt247.1,bt250.1,bt250.2)) else (some (x237000_1,bt247.1,bt250.1,false)))) else (none))) else (none))) else (none)) else (none)) else (if 1<(t233.length:Int) then ((impl_decimal.f kj16 (rdOf ByteArray.empty t233 1)).bind fun bt253=>(if 2<(t233.length:Int) then ((impl_decimal.f kj16 (rdOf ByteArray.empty t233 2)).bind fun bt256=>(if bt253.2=true then (some (x237000_1,bt253.1,bt256.1,bt256.2)) else (some (x237000_1,bt253.1,bt256.1,false)))) else (none))) else (none)))=some (r1,r2,r3,r4):=by rw [if_neg (show ¬ (false=true) by decide)] at H;exact H
       clear H;have H:=H1;clear H1
       by_cases c35:x237000_1=4
       ·rw [if_pos c35] at H
        have c35b0:=beq_iff_eq.mpr c35;have c35b1:=bne_eq_false_iff_eq.mpr c35;clear c35
        by_cases c36:1<(t233.length:Int)
        ·rw [if_pos c36] at H
         have c36b0:=decide_eq_true c36;have c36b1:decide (1<t233.length)=true:=decide_eq_true (by omega);clear c36
         by_cases c37:t233.length<8796093022208
         ·rw [if_pos c37] at H
          have LMc37:=aM c37;clear c37;obtain ⟨y243,hy243⟩:∃ y_:List ByteArray,y_=(t233 ++ [rdOf ByteArray.empty t233 1]):=⟨_,rfl⟩;replace H:(if 1<(y243.length:Int) then ((impl_decimal.f kj16 (rdOf ByteArray.empty y243 1)).bind fun bt247=>(if 2<(y243.length:Int) then ((impl_decimal.f kj16 (rdOf ByteArray.empty y243 2)).bind fun bt250=>(if bt247.2=true then (some (x237000_1,bt247.1,bt250.1,bt250.2)) else (some (x237000_1,bt247.1,bt250.1,false)))) else (none))) else (none))=some (r1,r2,r3,r4):=q3y_ hy243 H
          have Ny243:=aM hy243;clear hy243
          by_cases c38:1<(y243.length:Int)
          ·rw [if_pos c38] at H
           have c38b0:=decide_eq_true c38;have c38b1:decide (1<y243.length)=true:=decide_eq_true (by omega);clear c38;replace H:=oB.mp H;obtain ⟨⟨t247,t248⟩,A390,H⟩:=H;replace H:(if 2<(y243.length:Int) then ((impl_decimal.f kj16 (rdOf ByteArray.empty y243 2)).bind fun bt250=>(if t248=true then (some (x237000_1,t247,bt250.1,bt250.2)) else (some (x237000_1,t247,bt250.1,false)))) else (none))=some (r1,r2,r3,r4):=H;have A39:=aM A390;clear A390
           by_cases c40:2<(y243.length:Int)
           ·rw [if_pos c40] at H
            have c40b0:=decide_eq_true c40;have c40b1:decide (2<y243.length)=true:=decide_eq_true (by omega);clear c40;replace H:=oB.mp H;obtain ⟨⟨t250,t251⟩,A410,H⟩:=H;replace H:(if t248=true then (some (x237000_1,t247,t250,t251)) else (some (x237000_1,t247,t250,false)))=some (r1,r2,r3,r4):=H;have A41:=aM A410;clear A410
            by_cases c42:t248=true
            ·subst c42
             have H1:(some (x237000_1,t247,t250,t251))=some (r1,r2,r3,r4):=by rw [if_pos rfl] at H;exact H
             clear H;have H:=H1;clear H1
             simp only [Option.some.injEq,Prod.mk.injEq] at H
             obtain ⟨rfl,rfl,rfl,rfl⟩:=H;have hnb43:=NB236_232.out;have hnc43:=NB232_236.out;obtain ⟨hcz44_0,hcz44_1,hcz44_2,hfz44_0,hfz44_1,hfz44_2⟩:=zk3 BK236.out;obtain ⟨Ao45,co45,eo45⟩:=Kd.R_slice HO_4.out;subst eo45;have p242:0≤(1:Int):=(by omega);have q242:1<(t233.length:Int):=of_decide_eq_true za_;obtain ⟨ad242,e242,hx242_0⟩:=Kd.at_string (Kd.R_reads' HO_4.out).2.2 1 p242 q242
             cases e242
             (try simp only [show (1:Int).toNat=1 from rfl,Nat.reduceMul,Nat.reduceEqDiff,Go.Addr.add,↓reduceIte] at hx242_0);have qi242:(1<t233.length)=True:=eq_true (by omega);(try rw [show ((1:Int)).toNat=1 from rfl] at hx242_0);replace p242:=eq_true p242;replace q242:=eq_true q242
             go_wp2_with (first | ((with_reducible refine gate_builtin (b := .append) (xs:=#[.tmp 56,.tmp 60]) rfl ?_);(try (refine gate_guard (by rfl) ?_;dsimp only));at_builtin;refine Kd.R_append Kd.string (w0:=w) w.heap.size rfl (.tmp 56) (.tmp 60) 52 9 (.string ⟨#[]⟩) 16 rfl Tryd.underlying52 info9 rfl (by decide) (by omega) (.slice (some ad242) t233.length co45) t233 (rdOf ByteArray.empty t233 1) [.string (rdOf ByteArray.empty t233 1)] (fun _=>True) (fun _=>False) rfl rfl ?aP (fun _ hk=>hk.elim) ?aF ?aO ?aB ?aS ?aL ?_;(case aP=>exact rfl);(case aB=>exact zbe_);(case aF=>exact zdf_);(case aO=>exact (zr HO_4.out));(case aS=>exact (below_size zbe_));(case aL=>have:=LMc37.out;omega);intro v244 w46 ho hb hg hat;rw [← Ny243.out] at ho;have n_:=z (blk_grown (g:=gb232) (o := .cells #[.int .i64 0,.int .i64 0,.int .i64 0] 47 (0,0)) (zb BK232.out) hg (Kd.R_ne HO_4.out BK232.out (by decide)))<|z (blk_grown (g:=gb236) (o := .cells #[.int .i64 x237000_1,.int .i64 0,.int .i64 0] 47 (0,0)) (zb BK236.out) hg (Kd.R_ne HO_4.out BK236.out (by decide)))<|z (hb)<|z1 (ho);clear BK232 BK236 HB HO_4;obtain ⟨BK232,BK236,HB,HO245⟩:=n_;clear ho hb hg hat;obtain ⟨Ao47,co47,eo47⟩:=Kd.R_slice HO245.out;subst eo47;have p246:0≤(1:Int):=(by omega);have q246:1<(y243.length:Int):=of_decide_eq_true za_;obtain ⟨ad246,e246,hx246_0⟩:=Kd.at_string (Kd.R_reads' HO245.out).2.2 1 p246 q246;cases e246;(try simp only [show (1:Int).toNat=1 from rfl,Nat.reduceMul,Nat.reduceEqDiff,Go.Addr.add,↓reduceIte] at hx246_0);have qi246:(1<y243.length)=True:=eq_true (by omega);(try rw [show ((1:Int)).toNat=1 from rfl] at hx246_0);replace p246:=eq_true p246;replace q246:=eq_true q246)|((with_reducible refine gate_callee (f:=30) rfl ?_);refine goesL_ (some 66) rfl rfl Tryd.func30 (by kernel_rfl) rfl #[.string (rdOf ByteArray.empty y243 1)] rfl zd_ ?_;(with_reducible refine (impl_decimal.calls kj16 (rdOf ByteArray.empty y243 1) t247 true _ A39.out).mono ?_);rintro e w' ⟨rfl,⟨nd,rfl⟩⟩;refine ⟨_,rfl,?_⟩;(try (rw [drewN_self w46];generalize hq_:World.drewN w46 _=w46;have n0_:Aside0 (Kd.R Kd.string 9 w46 w.heap.size (fun _=>True) (.slice (some ad246) y243.length co47) y243):=⟨by rw [← hq_];exact (zr HO245.out)⟩;have n1_:Aside0 (w46.heap[gb232]?=some (.cells #[.int .i64 0,.int .i64 0,.int .i64 0] 47 (0,0))):=⟨zch_⟩;have n2_:Aside0 (w46.heap[gb236]?=some (.cells #[.int .i64 x237000_1,.int .i64 0,.int .i64 0] 47 (0,0))):=⟨zci_⟩;have n3_:Aside0 (Below w.heap.size w w46):=⟨zcj_⟩;clear HO245 BK232 BK236 HB hq_;have HO245:=n0_;have BK232:=n1_;have BK236:=n2_;have HB:=n3_;clear n0_ n1_ n2_ n3_;obtain ⟨hczq232_0,hfzq232_0⟩:=zk1 BK232.out;have hczq232_1:w46.cell? ⟨gb232,1,none⟩=some (.int .i64 0):=(blk_cell BK232.out 1).trans rfl;have hfzq232_1:=blk_frozen BK232.out 1;have hczq232_2:w46.cell? ⟨gb232,2,none⟩=some (.int .i64 0):=(blk_cell BK232.out 2).trans rfl;have hfzq232_2:=blk_frozen BK232.out 2;obtain ⟨hczq236_0,hfzq236_0⟩:=zk1 BK236.out;have hczq236_1:w46.cell? ⟨gb236,1,none⟩=some (.int .i64 0):=(blk_cell BK236.out 1).trans rfl;have hfzq236_1:=blk_frozen BK236.out 1;have hczq236_2:w46.cell? ⟨gb236,2,none⟩=some (.int .i64 0):=(blk_cell BK236.out 2).trans rfl;have hfzq236_2:=blk_frozen BK236.out 2));have p249:0≤(2:Int):=(by omega);have q249:2<(y243.length:Int):=of_decide_eq_true za_;obtain ⟨ad249,e249,hx249_0⟩:=Kd.at_string (Kd.R_reads' HO245.out).2.2 2 p249 q249;obtain rfl:ad246=ad249:=(by injection e249);(try simp only [show (2:Int).toNat=2 from rfl,Nat.reduceMul,Nat.reduceEqDiff,Go.Addr.add,↓reduceIte] at hx249_0);have qi249:(2<y243.length)=True:=eq_true (by omega);(try rw [show ((2:Int)).toNat=2 from rfl] at hx249_0);replace p249:=eq_true p249;replace q249:=eq_true q249)|((with_reducible refine gate_callee (f:=30) rfl ?_);refine goesL_ (some 73) rfl rfl Tryd.func30 (by kernel_rfl) rfl #[.string (rdOf ByteArray.empty y243 2)] rfl zd_ ?_;(with_reducible refine (impl_decimal.calls kj16 (rdOf ByteArray.empty y243 2) t250 t251 _ A41.out).mono ?_);rintro e w' ⟨rfl,⟨nd,rfl⟩⟩;refine ⟨_,rfl,?_⟩;(try (rw [drewN_self w46];generalize hq_:World.drewN w46 _=w46;have n0_:Aside0 (Kd.R Kd.string 9 w46 w.heap.size (fun _=>True) (.slice (some ad246) y243.length co47) y243):=⟨by rw [← hq_];exact (zr HO245.out)⟩;have n1_:Aside0 (w46.heap[gb232]?=some (.cells #[.int .i64 0,.int .i64 0,.int .i64 0] 47 (0,0))):=⟨zch_⟩;have n2_:Aside0 (w46.heap[gb236]?=some (.cells #[.int .i64 x237000_1,.int .i64 0,.int .i64 0] 47 (0,0))):=⟨zci_⟩;have n3_:Aside0 (Below w.heap.size w w46):=⟨zcj_⟩;clear HO245 BK232 BK236 HB hq_;have HO245:=n0_;have BK232:=n1_;have BK236:=n2_;have HB:=n3_;clear n0_ n1_ n2_ n3_;obtain ⟨hczq232_0,hfzq232_0⟩:=zk1 BK232.out;have hczq232_1:w46.cell? ⟨gb232,1,none⟩=some (.int .i64 0):=(blk_cell BK232.out 1).trans rfl;have hfzq232_1:=blk_frozen BK232.out 1;have hczq232_2:w46.cell? ⟨gb232,2,none⟩=some (.int .i64 0):=(blk_cell BK232.out 2).trans rfl;have hfzq232_2:=blk_frozen BK232.out 2;obtain ⟨hczq236_0,hfzq236_0⟩:=zk1 BK236.out;have hczq236_1:w46.cell? ⟨gb236,1,none⟩=some (.int .i64 0):=(blk_cell BK236.out 1).trans rfl;have hfzq236_1:=blk_frozen BK236.out 1;have hczq236_2:w46.cell? ⟨gb236,2,none⟩=some (.int .i64 0):=(blk_cell BK236.out 2).trans rfl;have hfzq236_2:=blk_frozen BK236.out 2));obtain ⟨hcz48_0,hcz48_1,hcz48_2,hfz48_0,hfz48_1,hfz48_2⟩:=zk3 BK236.out;obtain ⟨hcz49_0,hcz49_1,hcz49_2,hfz49_0,hfz49_1,hfz49_2⟩:=zk3 BK232.out))
             refine bodyPost_ret (results_ct rfl _ _ gb232 47 #[.int .i64 x237000_1,.int .i64 t247,.int .i64 t250] (0,0) _ rfl (by refine zb ?_;refine blk_put (cs:=#[.int .i64 x237000_1,.int .i64 t247,.int .i64 0]) ?_ 2 _ rfl;refine zb ?_;refine blk_put (cs:=#[.int .i64 x237000_1,.int .i64 0,.int .i64 0]) ?_ 1 _ rfl;refine zb ?_;refine blk_put (cs:=#[.int .i64 0,.int .i64 0,.int .i64 0]) ?_ 0 _ rfl;refine zb ?_;refine blk_far ?_ NB232_236.out _;refine zb ?_;refine blk_far ?_ NB232_236.out _;refine zb ?_;exact BK232.out) Tryd.underlying47 rfl (by kernel_rfl)) rfl ?_
             exact ⟨zf_,zbe_⟩
            ·replace c42:=Bool.eq_false_iff.mpr c42
             subst c42;have H1:(some (x237000_1,t247,t250,false))=some (r1,r2,r3,r4):=by rw [if_neg (show ¬ (false=true) by decide)] at H;exact H
             clear H;have H:=H1;clear H1
             simp only [Option.some.injEq,Prod.mk.injEq] at H
             obtain ⟨rfl,rfl,rfl,rfl⟩:=H;have hnb50:=NB236_232.out;have hnc50:=NB232_236.out;obtain ⟨hcz51_0,hcz51_1,hcz51_2,hfz51_0,hfz51_1,hfz51_2⟩:=zk3 BK236.out;obtain ⟨Ao52,co52,eo52⟩:=Kd.R_slice HO_4.out;subst eo52;have p242:0≤(1:Int):=(by omega);have q242:1<(t233.length:Int):=of_decide_eq_true za_;obtain ⟨ad242,e242,hx242_0⟩:=Kd.at_string (Kd.R_reads' HO_4.out).2.2 1 p242 q242
             cases e242
             (try simp only [show (1:Int).toNat=1 from rfl,Nat.reduceMul,Nat.reduceEqDiff,Go.Addr.add,↓reduceIte] at hx242_0);have qi242:(1<t233.length)=True:=eq_true (by omega);(try rw [show ((1:Int)).toNat=1 from rfl] at hx242_0);replace p242:=eq_true p242;replace q242:=eq_true q242
             go_wp2_with (first | ((with_reducible refine gate_builtin (b := .append) (xs:=#[.tmp 56,.tmp 60]) rfl ?_);(try (refine gate_guard (by rfl) ?_;dsimp only));at_builtin;refine Kd.R_append Kd.string (w0:=w) w.heap.size rfl (.tmp 56) (.tmp 60) 52 9 (.string ⟨#[]⟩) 16 rfl Tryd.underlying52 info9 rfl (by decide) (by omega) (.slice (some ad242) t233.length co52) t233 (rdOf ByteArray.empty t233 1) [.string (rdOf ByteArray.empty t233 1)] (fun _=>True) (fun _=>False) rfl rfl ?aP (fun _ hk=>hk.elim) ?aF ?aO ?aB ?aS ?aL ?_;(case aP=>exact rfl);(case aB=>exact zbe_);(case aF=>exact zdf_);(case aO=>exact (zr HO_4.out));(case aS=>exact (below_size zbe_));(case aL=>have:=LMc37.out;omega);intro v244 w53 ho hb hg hat;rw [← Ny243.out] at ho;have n_:=z (blk_grown (g:=gb232) (o := .cells #[.int .i64 0,.int .i64 0,.int .i64 0] 47 (0,0)) (zb BK232.out) hg (Kd.R_ne HO_4.out BK232.out (by decide)))<|z (blk_grown (g:=gb236) (o := .cells #[.int .i64 x237000_1,.int .i64 0,.int .i64 0] 47 (0,0)) (zb BK236.out) hg (Kd.R_ne HO_4.out BK236.out (by decide)))<|z (hb)<|z1 (ho);clear BK232 BK236 HB HO_4;obtain ⟨BK232,BK236,HB,HO245⟩:=n_;clear ho hb hg hat;obtain ⟨Ao54,co54,eo54⟩:=Kd.R_slice HO245.out;subst eo54;have p246:0≤(1:Int):=(by omega);have q246:1<(y243.length:Int):=of_decide_eq_true za_;obtain ⟨ad246,e246,hx246_0⟩:=Kd.at_string (Kd.R_reads' HO245.out).2.2 1 p246 q246;cases e246;(try simp only [show (1:Int).toNat=1 from rfl,Nat.reduceMul,Nat.reduceEqDiff,Go.Addr.add,↓reduceIte] at hx246_0);have qi246:(1<y243.length)=True:=eq_true (by omega);(try rw [show ((1:Int)).toNat=1 from rfl] at hx246_0);replace p246:=eq_true p246;replace q246:=eq_true q246)|((with_reducible refine gate_callee (f:=30) rfl ?_);refine goesL_ (some 66) rfl rfl Tryd.func30 (by kernel_rfl) rfl #[.string (rdOf ByteArray.empty y243 1)] rfl zd_ ?_;(with_reducible refine (impl_decimal.calls kj16 (rdOf ByteArray.empty y243 1) t247 false _ A39.out).mono ?_);rintro e w' ⟨rfl,⟨nd,rfl⟩⟩;refine ⟨_,rfl,?_⟩;(try (rw [drewN_self w53];generalize hq_:World.drewN w53 _=w53;have n0_:Aside0 (Kd.R Kd.string 9 w53 w.heap.size (fun _=>True) (.slice (some ad246) y243.length co54) y243):=⟨by rw [← hq_];exact (zr HO245.out)⟩;have n1_:Aside0 (w53.heap[gb232]?=some (.cells #[.int .i64 0,.int .i64 0,.int .i64 0] 47 (0,0))):=⟨zch_⟩;have n2_:Aside0 (w53.heap[gb236]?=some (.cells #[.int .i64 x237000_1,.int .i64 0,.int .i64 0] 47 (0,0))):=⟨zci_⟩;have n3_:Aside0 (Below w.heap.size w w53):=⟨zcj_⟩;clear HO245 BK232 BK236 HB hq_;have HO245:=n0_;have BK232:=n1_;have BK236:=n2_;have HB:=n3_;clear n0_ n1_ n2_ n3_;obtain ⟨hczq232_0,hfzq232_0⟩:=zk1 BK232.out;have hczq232_1:w53.cell? ⟨gb232,1,none⟩=some (.int .i64 0):=(blk_cell BK232.out 1).trans rfl;have hfzq232_1:=blk_frozen BK232.out 1;have hczq232_2:w53.cell? ⟨gb232,2,none⟩=some (.int .i64 0):=(blk_cell BK232.out 2).trans rfl;have hfzq232_2:=blk_frozen BK232.out 2;obtain ⟨hczq236_0,hfzq236_0⟩:=zk1 BK236.out;have hczq236_1:w53.cell? ⟨gb236,1,none⟩=some (.int .i64 0):=(blk_cell BK236.out 1).trans rfl;have hfzq236_1:=blk_frozen BK236.out 1;have hczq236_2:w53.cell? ⟨gb236,2,none⟩=some (.int .i64 0):=(blk_cell BK236.out 2).trans rfl;have hfzq236_2:=blk_frozen BK236.out 2));have p249:0≤(2:Int):=(by omega);have q249:2<(y243.length:Int):=of_decide_eq_true za_;obtain ⟨ad249,e249,hx249_0⟩:=Kd.at_string (Kd.R_reads' HO245.out).2.2 2 p249 q249;obtain rfl:ad246=ad249:=(by injection e249);(try simp only [show (2:Int).toNat=2 from rfl,Nat.reduceMul,Nat.reduceEqDiff,Go.Addr.add,↓reduceIte] at hx249_0);have qi249:(2<y243.length)=True:=eq_true (by omega);(try rw [show ((2:Int)).toNat=2 from rfl] at hx249_0);replace p249:=eq_true p249;replace q249:=eq_true q249)|((with_reducible refine gate_callee (f:=30) rfl ?_);refine goesL_ (some 73) rfl rfl Tryd.func30 (by kernel_rfl) rfl #[.string (rdOf ByteArray.empty y243 2)] rfl zd_ ?_;(with_reducible refine (impl_decimal.calls kj16 (rdOf ByteArray.empty y243 2) t250 t251 _ A41.out).mono ?_);rintro e w' ⟨rfl,⟨nd,rfl⟩⟩;refine ⟨_,rfl,?_⟩;(try (rw [drewN_self w53];generalize hq_:World.drewN w53 _=w53;have n0_:Aside0 (Kd.R Kd.string 9 w53 w.heap.size (fun _=>True) (.slice (some ad246) y243.length co54) y243):=⟨by rw [← hq_];exact (zr HO245.out)⟩;have n1_:Aside0 (w53.heap[gb232]?=some (.cells #[.int .i64 0,.int .i64 0,.int .i64 0] 47 (0,0))):=⟨zch_⟩;have n2_:Aside0 (w53.heap[gb236]?=some (.cells #[.int .i64 x237000_1,.int .i64 0,.int .i64 0] 47 (0,0))):=⟨zci_⟩;have n3_:Aside0 (Below w.heap.size w w53):=⟨zcj_⟩;clear HO245 BK232 BK236 HB hq_;have HO245:=n0_;have BK232:=n1_;have BK236:=n2_;have HB:=n3_;clear n0_ n1_ n2_ n3_;obtain ⟨hczq232_0,hfzq232_0⟩:=zk1 BK232.out;have hczq232_1:w53.cell? ⟨gb232,1,none⟩=some (.int .i64 0):=(blk_cell BK232.out 1).trans rfl;have hfzq232_1:=blk_frozen BK232.out 1;have hczq232_2:w53.cell? ⟨gb232,2,none⟩=some (.int .i64 0):=(blk_cell BK232.out 2).trans rfl;have hfzq232_2:=blk_frozen BK232.out 2;obtain ⟨hczq236_0,hfzq236_0⟩:=zk1 BK236.out;have hczq236_1:w53.cell? ⟨gb236,1,none⟩=some (.int .i64 0):=(blk_cell BK236.out 1).trans rfl;have hfzq236_1:=blk_frozen BK236.out 1;have hczq236_2:w53.cell? ⟨gb236,2,none⟩=some (.int .i64 0):=(blk_cell BK236.out 2).trans rfl;have hfzq236_2:=blk_frozen BK236.out 2));obtain ⟨hcz55_0,hcz55_1,hcz55_2,hfz55_0,hfz55_1,hfz55_2⟩:=zk3 BK236.out;obtain ⟨hcz56_0,hcz56_1,hcz56_2,hfz56_0,hfz56_1,hfz56_2⟩:=zk3 BK232.out))
             refine bodyPost_ret (results_ct rfl _ _ gb232 47 #[.int .i64 x237000_1,.int .i64 t247,.int .i64 t250] (0,0) _ rfl (by refine zb ?_;refine blk_put (cs:=#[.int .i64 x237000_1,.int .i64 t247,.int .i64 0]) ?_ 2 _ rfl;refine zb ?_;refine blk_put (cs:=#[.int .i64 x237000_1,.int .i64 0,.int .i64 0]) ?_ 1 _ rfl;refine zb ?_;refine blk_put (cs:=#[.int .i64 0,.int .i64 0,.int .i64 0]) ?_ 0 _ rfl;refine zb ?_;refine blk_far ?_ NB232_236.out _;refine zb ?_;refine blk_far ?_ NB232_236.out _;refine zb ?_;exact BK232.out) Tryd.underlying47 rfl (by kernel_rfl)) rfl ?_
             exact ⟨zf_,zbe_⟩
           ·rw [if_neg c40] at H
            exact q3n_ H
          ·rw [if_neg c38] at H
           exact q3n_ H
         ·rw [if_neg c37] at H
          exact q3n_ H
        ·rw [if_neg c36] at H
         exact q3n_ H
       ·rw [if_neg c35] at H
        have c35b0:=beq_eq_false_iff_ne.mpr c35;have c35b1:=bne_iff_ne.mpr c35
        by_cases c57:1<(t233.length:Int)
        ·rw [if_pos c57] at H
         have c57b0:=decide_eq_true c57;have c57b1:decide (1<t233.length)=true:=decide_eq_true (by omega);clear c57;replace H:=oB.mp H;obtain ⟨⟨t253,t254⟩,A580,H⟩:=H;replace H:(if 2<(t233.length:Int) then ((impl_decimal.f kj16 (rdOf ByteArray.empty t233 2)).bind fun bt256=>(if t254=true then (some (x237000_1,t253,bt256.1,bt256.2)) else (some (x237000_1,t253,bt256.1,false)))) else (none))=some (r1,r2,r3,r4):=H;have A58:=aM A580;clear A580
         by_cases c59:2<(t233.length:Int)
         ·rw [if_pos c59] at H
          have c59b0:=decide_eq_true c59;have c59b1:decide (2<t233.length)=true:=decide_eq_true (by omega);clear c59;replace H:=oB.mp H;obtain ⟨⟨t256,t257⟩,A600,H⟩:=H;replace H:(if t254=true then (some (x237000_1,t253,t256,t257)) else (some (x237000_1,t253,t256,false)))=some (r1,r2,r3,r4):=H;have A60:=aM A600;clear A600
          by_cases c61:t254=true
          ·subst c61
           have H1:(some (x237000_1,t253,t256,t257))=some (r1,r2,r3,r4):=by rw [if_pos rfl] at H;exact H
           clear H;have H:=H1;clear H1
           simp only [Option.some.injEq,Prod.mk.injEq] at H
           obtain ⟨rfl,rfl,rfl,rfl⟩:=H;have hnb62:=NB236_232.out;have hnc62:=NB232_236.out;obtain ⟨hcz63_0,hcz63_1,hcz63_2,hfz63_0,hfz63_1,hfz63_2⟩:=zk3 BK236.out;obtain ⟨Ao64,co64,eo64⟩:=Kd.R_slice HO_4.out;subst eo64;have p252:0≤(1:Int):=(by omega);have q252:1<(t233.length:Int):=of_decide_eq_true za_;obtain ⟨ad252,e252,hx252_0⟩:=Kd.at_string (Kd.R_reads' HO_4.out).2.2 1 p252 q252
           cases e252
           (try simp only [show (1:Int).toNat=1 from rfl,Nat.reduceMul,Nat.reduceEqDiff,Go.Addr.add,↓reduceIte] at hx252_0);have qi252:(1<t233.length)=True:=eq_true (by omega);(try rw [show ((1:Int)).toNat=1 from rfl] at hx252_0);replace p252:=eq_true p252;replace q252:=eq_true q252
           go_wp2_with (first | ((with_reducible refine gate_callee (f:=30) rfl ?_);refine goesL_ (some 66) rfl rfl Tryd.func30 (by kernel_rfl) rfl #[.string (rdOf ByteArray.empty t233 1)] rfl zd_ ?_;(with_reducible refine (impl_decimal.calls kj16 (rdOf ByteArray.empty t233 1) t253 true _ A58.out).mono ?_);rintro e w' ⟨rfl,⟨nd,rfl⟩⟩;refine ⟨_,rfl,?_⟩;(try (rw [drewN_self wc];generalize hq_:World.drewN wc _=wc;have n0_:Aside0 (Kd.R Kd.string 9 wc w.heap.size (fun _=>True) (.slice (some ad252) t233.length co64) t233):=⟨zdh_⟩;have n1_:Aside0 (wc.heap[gb232]?=some (.cells #[.int .i64 0,.int .i64 0,.int .i64 0] 47 (0,0))):=⟨zch_⟩;have n2_:Aside0 (wc.heap[gb236]?=some (.cells #[.int .i64 x237000_1,.int .i64 0,.int .i64 0] 47 (0,0))):=⟨zci_⟩;have n3_:Aside0 (Below w.heap.size w wc):=⟨zcj_⟩;clear HO_4 BK232 BK236 HB hq_;have HO_4:=n0_;have BK232:=n1_;have BK236:=n2_;have HB:=n3_;clear n0_ n1_ n2_ n3_;obtain ⟨hczq232_0,hfzq232_0⟩:=zk1 BK232.out;have hczq232_1:wc.cell? ⟨gb232,1,none⟩=some (.int .i64 0):=(blk_cell BK232.out 1).trans rfl;have hfzq232_1:=blk_frozen BK232.out 1;have hczq232_2:wc.cell? ⟨gb232,2,none⟩=some (.int .i64 0):=(blk_cell BK232.out 2).trans rfl;have hfzq232_2:=blk_frozen BK232.out 2;obtain ⟨hczq236_0,hfzq236_0⟩:=zk1 BK236.out;have hczq236_1:wc.cell? ⟨gb236,1,none⟩=some (.int .i64 0):=(blk_cell BK236.out 1).trans rfl;have hfzq236_1:=blk_frozen BK236.out 1;have hczq236_2:wc.cell? ⟨gb236,2,none⟩=some (.int .i64 0):=(blk_cell BK236.out 2).trans rfl;have hfzq236_2:=blk_frozen BK236.out 2));have p255:0≤(2:Int):=(by omega);have q255:2<(t233.length:Int):=of_decide_eq_true za_;obtain ⟨ad255,e255,hx255_0⟩:=Kd.at_string (Kd.R_reads' HO_4.out).2.2 2 p255 q255;obtain rfl:ad252=ad255:=(by injection e255);(try simp only [show (2:Int).toNat=2 from rfl,Nat.reduceMul,Nat.reduceEqDiff,Go.Addr.add,↓reduceIte] at hx255_0);have qi255:(2<t233.length)=True:=eq_true (by omega);(try rw [show ((2:Int)).toNat=2 from rfl] at hx255_0);replace p255:=eq_true p255;replace q255:=eq_true q255)|((with_reducible refine gate_callee (f:=30) rfl ?_);refine goesL_ (some 73) rfl rfl Tryd.func30 (by kernel_rfl) rfl #[.string (rdOf ByteArray.empty t233 2)] rfl zd_ ?_;(with_reducible refine (impl_decimal.calls kj16 (rdOf ByteArray.empty t233 2) t256 t257 _ A60.out).mono ?_);rintro e w' ⟨rfl,⟨nd,rfl⟩⟩;refine ⟨_,rfl,?_⟩;(try (rw [drewN_self wc];generalize hq_:World.drewN wc _=wc;have n0_:Aside0 (Kd.R Kd.string 9 wc w.heap.size (fun _=>True) (.slice (some ad252) t233.length co64) t233):=⟨zdh_⟩;have n1_:Aside0 (wc.heap[gb232]?=some (.cells #[.int .i64 0,.int .i64 0,.int .i64 0] 47 (0,0))):=⟨zch_⟩;have n2_:Aside0 (wc.heap[gb236]?=some (.cells #[.int .i64 x237000_1,.int .i64 0,.int .i64 0] 47 (0,0))):=⟨zci_⟩;have n3_:Aside0 (Below w.heap.size w wc):=⟨zcj_⟩;clear HO_4 BK232 BK236 HB hq_;have HO_4:=n0_;have BK232:=n1_;have BK236:=n2_;have HB:=n3_;clear n0_ n1_ n2_ n3_;obtain ⟨hczq232_0,hfzq232_0⟩:=zk1 BK232.out;have hczq232_1:wc.cell? ⟨gb232,1,none⟩=some (.int .i64 0):=(blk_cell BK232.out 1).trans rfl;have hfzq232_1:=blk_frozen BK232.out 1;have hczq232_2:wc.cell? ⟨gb232,2,none⟩=some (.int .i64 0):=(blk_cell BK232.out 2).trans rfl;have hfzq232_2:=blk_frozen BK232.out 2;obtain ⟨hczq236_0,hfzq236_0⟩:=zk1 BK236.out;have hczq236_1:wc.cell? ⟨gb236,1,none⟩=some (.int .i64 0):=(blk_cell BK236.out 1).trans rfl;have hfzq236_1:=blk_frozen BK236.out 1;have hczq236_2:wc.cell? ⟨gb236,2,none⟩=some (.int .i64 0):=(blk_cell BK236.out 2).trans rfl;have hfzq236_2:=blk_frozen BK236.out 2));obtain ⟨hcz65_0,hcz65_1,hcz65_2,hfz65_0,hfz65_1,hfz65_2⟩:=zk3 BK232.out))
           refine bodyPost_ret (results_ct rfl _ _ gb232 47 #[.int .i64 x237000_1,.int .i64 t253,.int .i64 t256] (0,0) _ rfl (by refine zb ?_;refine blk_put (cs:=#[.int .i64 x237000_1,.int .i64 t253,.int .i64 0]) ?_ 2 _ rfl;refine zb ?_;refine blk_put (cs:=#[.int .i64 x237000_1,.int .i64 0,.int .i64 0]) ?_ 1 _ rfl;refine zb ?_;refine blk_put (cs:=#[.int .i64 0,.int .i64 0,.int .i64 0]) ?_ 0 _ rfl;refine zb ?_;refine blk_far ?_ NB232_236.out _;refine zb ?_;refine blk_far ?_ NB232_236.out _;refine zb ?_;exact BK232.out) Tryd.underlying47 rfl (by kernel_rfl)) rfl ?_
           exact ⟨zf_,zbe_⟩
          ·replace c61:=Bool.eq_false_iff.mpr c61
           subst c61;have H1:(some (x237000_1,t253,t256,false))=some (r1,r2,r3,r4):=by rw [if_neg (show ¬ (false=true) by decide)] at H;exact H
           clear H;have H:=H1;clear H1
           simp only [Option.some.injEq,Prod.mk.injEq] at H
           obtain ⟨rfl,rfl,rfl,rfl⟩:=H;have hnb66:=NB236_232.out;have hnc66:=NB232_236.out;obtain ⟨hcz67_0,hcz67_1,hcz67_2,hfz67_0,hfz67_1,hfz67_2⟩:=zk3 BK236.out;obtain ⟨Ao68,co68,eo68⟩:=Kd.R_slice HO_4.out;subst eo68;have p252:0≤(1:Int):=(by omega);have q252:1<(t233.length:Int):=of_decide_eq_true za_;obtain ⟨ad252,e252,hx252_0⟩:=Kd.at_string (Kd.R_reads' HO_4.out).2.2 1 p252 q252
           cases e252
           (try simp only [show (1:Int).toNat=1 from rfl,Nat.reduceMul,Nat.reduceEqDiff,Go.Addr.add,↓reduceIte] at hx252_0);have qi252:(1<t233.length)=True:=eq_true (by omega);(try rw [show ((1:Int)).toNat=1 from rfl] at hx252_0);replace p252:=eq_true p252;replace q252:=eq_true q252
           go_wp2_with (first | ((with_reducible refine gate_callee (f:=30) rfl ?_);refine goesL_ (some 66) rfl rfl Tryd.func30 (by kernel_rfl) rfl #[.string (rdOf ByteArray.empty t233 1)] rfl zd_ ?_;(with_reducible refine (impl_decimal.calls kj16 (rdOf ByteArray.empty t233 1) t253 false _ A58.out).mono ?_);rintro e w' ⟨rfl,⟨nd,rfl⟩⟩;refine ⟨_,rfl,?_⟩;(try (rw [drewN_self wc];generalize hq_:World.drewN wc _=wc;have n0_:Aside0 (Kd.R Kd.string 9 wc w.heap.size (fun _=>True) (.slice (some ad252) t233.length co68) t233):=⟨zdh_⟩;have n1_:Aside0 (wc.heap[gb232]?=some (.cells #[.int .i64 0,.int .i64 0,.int .i64 0] 47 (0,0))):=⟨zch_⟩;have n2_:Aside0 (wc.heap[gb236]?=some (.cells #[.int .i64 x237000_1,.int .i64 0,.int .i64 0] 47 (0,0))):=⟨zci_⟩;have n3_:Aside0 (Below w.heap.size w wc):=⟨zcj_⟩;clear HO_4 BK232 BK236 HB hq_;have HO_4:=n0_;have BK232:=n1_;have BK236:=n2_;have HB:=n3_;clear n0_ n1_ n2_ n3_;obtain ⟨hczq232_0,hfzq232_0⟩:=zk1 BK232.out;have hczq232_1:wc.cell? ⟨gb232,1,none⟩=some (.int .i64 0):=(blk_cell BK232.out 1).trans rfl;have hfzq232_1:=blk_frozen BK232.out 1;have hczq232_2:wc.cell? ⟨gb232,2,none⟩=some (.int .i64 0):=(blk_cell BK232.out 2).trans rfl;have hfzq232_2:=blk_frozen BK232.out 2;obtain ⟨hczq236_0,hfzq236_0⟩:=zk1 BK236.out;have hczq236_1:wc.cell? ⟨gb236,1,none⟩=some (.int .i64 0):=(blk_cell BK236.out 1).trans rfl;have hfzq236_1:=blk_frozen BK236.out 1;have hczq236_2:wc.cell? ⟨gb236,2,none⟩=some (.int .i64 0):=(blk_cell BK236.out 2).trans rfl;have hfzq236_2:=blk_frozen BK236.out 2));have p255:0≤(2:Int):=(by omega);have q255:2<(t233.length:Int):=of_decide_eq_true za_;obtain ⟨ad255,e255,hx255_0⟩:=Kd.at_string (Kd.R_reads' HO_4.out).2.2 2 p255 q255;obtain rfl:ad252=ad255:=(by injection e255);(try simp only [show (2:Int).toNat=2 from rfl,Nat.reduceMul,Nat.reduceEqDiff,Go.Addr.add,↓reduceIte] at hx255_0);have qi255:(2<t233.length)=True:=eq_true (by omega);(try rw [show ((2:Int)).toNat=2 from rfl] at hx255_0);replace p255:=eq_true p255;replace q255:=eq_true q255)|((with_reducible refine gate_callee (f:=30) rfl ?_);refine goesL_ (some 73) rfl rfl Tryd.func30 (by kernel_rfl) rfl #[.string (rdOf ByteArray.empty t233 2)] rfl zd_ ?_;(with_reducible refine (impl_decimal.calls kj16 (rdOf ByteArray.empty t233 2) t256 t257 _ A60.out).mono ?_);rintro e w' ⟨rfl,⟨nd,rfl⟩⟩;refine ⟨_,rfl,?_⟩;(try (rw [drewN_self wc];generalize hq_:World.drewN wc _=wc;have n0_:Aside0 (Kd.R Kd.string 9 wc w.heap.size (fun _=>True) (.slice (some ad252) t233.length co68) t233):=⟨zdh_⟩;have n1_:Aside0 (wc.heap[gb232]?=some (.cells #[.int .i64 0,.int .i64 0,.int .i64 0] 47 (0,0))):=⟨zch_⟩;have n2_:Aside0 (wc.heap[gb236]?=some (.cells #[.int .i64 x237000_1,.int .i64 0,.int .i64 0] 47 (0,0))):=⟨zci_⟩;have n3_:Aside0 (Below w.heap.size w wc):=⟨zcj_⟩;clear HO_4 BK232 BK236 HB hq_;have HO_4:=n0_;have BK232:=n1_;have BK236:=n2_;have HB:=n3_;clear n0_ n1_ n2_ n3_;obtain ⟨hczq232_0,hfzq232_0⟩:=zk1 BK232.out;have hczq232_1:wc.cell? ⟨gb232,1,none⟩=some (.int .i64 0):=(blk_cell BK232.out 1).trans rfl;have hfzq232_1:=blk_frozen BK232.out 1;have hczq232_2:wc.cell? ⟨gb232,2,none⟩=some (.int .i64 0):=(blk_cell BK232.out 2).trans rfl;have hfzq232_2:=blk_frozen BK232.out 2;obtain ⟨hczq236_0,hfzq236_0⟩:=zk1 BK236.out;have hczq236_1:wc.cell? ⟨gb236,1,none⟩=some (.int .i64 0):=(blk_cell BK236.out 1).trans rfl;have hfzq236_1:=blk_frozen BK236.out 1;have hczq236_2:wc.cell? ⟨gb236,2,none⟩=some (.int .i64 0):=(blk_cell BK236.out 2).trans rfl;have hfzq236_2:=blk_frozen BK236.out 2));obtain ⟨hcz69_0,hcz69_1,hcz69_2,hfz69_0,hfz69_1,hfz69_2⟩:=zk3 BK232.out))
           refine bodyPost_ret (results_ct rfl _ _ gb232 47 #[.int .i64 x237000_1,.int .i64 t253,.int .i64 t256] (0,0) _ rfl (by refine zb ?_;refine blk_put (cs:=#[.int .i64 x237000_1,.int .i64 t253,.int .i64 0]) ?_ 2 _ rfl;refine zb ?_;refine blk_put (cs:=#[.int .i64 x237000_1,.int .i64 0,.int .i64 0]) ?_ 1 _ rfl;refine zb ?_;refine blk_put (cs:=#[.int .i64 0,.int .i64 0,.int .i64 0]) ?_ 0 _ rfl;refine zb ?_;refine blk_far ?_ NB232_236.out _;refine zb ?_;refine blk_far ?_ NB232_236.out _;refine zb ?_;exact BK232.out) Tryd.underlying47 rfl (by kernel_rfl)) rfl ?_
           exact ⟨zf_,zbe_⟩
         ·rw [if_neg c59] at H
          exact q3n_ H
        ·rw [if_neg c57] at H
         exact q3n_ H
end Go.Proofs.YtanpidphaanjiaaDoor.QFnExactParseCircuit
