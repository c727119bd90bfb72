/- Functions of FnLevels, each as a Lean function, with the proof that the Go code comes to its answers. -/
import Derived.Test.YtlnhpkjioppbiaaSFnLevelsx1
import Derived.Test.YtlnhpkjioppbiaaSFnLevelsx7
namespace Go.Proofs.Ytlnhpkjioppbiaa.QFnLevels
open Go.RowKit Go.Proofs.YtlnhpkjioppbiaaW.PrintWords Go.Proofs.YtlnhpkjioppbiaaW.PrintLast Go.Proofs.YtlnhpkjioppbiaaW.PrintMore
open Go.Proofs.YtlnhpkjioppbiaaW.PrintWords renaming pw_below_drewN → pN, below_drew1 → p1, below_alloc → pA
open Go.Proofs.YtlnhpkjioppbiaaW.PrintWords.Kd renaming R_alloc → kA, R_drewN → kN, R_drew → kD, Q_alloc → qA, Q_drewN → qN, Q_drew → qD, C_alloc → cA, C_drewN → cN, C_drew → cD
open Go.Proofs.YtlnhpkjioppbiaaW.PrintWords.Aside0 renaming mk → aM
open List renaming setIfInBounds_toArray → sI, set_cons_zero → s0, set_cons_succ → sS, map_toArray → mT, length_take → lT, length_drop → lD, map_cons → mC, map_nil → mN
open Option renaming bind_eq_some_iff → oB
attribute [local go_sem] max2_int min2_int max_two min_two max_three min_three max_four min_four
set_option maxHeartbeats 8000000
set_option maxRecDepth 100000
set_option linter.unusedVariables false
set_option linter.unusedSimpArgs false
theorem lw_in {w0 w : World} {g : Nat} {vS : Value} {code : List Int} {at_ mix : Int} {L : List Sep.Item} (h : Sep.Own w0 w L) (i : Nat) (hi : L[i]? = some (Sep.Item.box g 86 #[vS, .int .i64 at_, .int .u64 mix])) (hS : ∃ A c, vS = .slice A code.length c ∧ Kd.C (Kd.int .u8) w0 A code.length code) : IsS86 w0 w g code at_ mix := by
 obtain ⟨A, c, rfl, hC⟩ := hS
 obtain ⟨P, h1⟩ := h.get i hi
 exact ⟨A, c, h1.2.2, h1.2.1, hC⟩
theorem lw_out {w0 w w1 : World} {g : Nat} {cs : Array Value} {code : List Int} {at_ mix : Int} {L : List Sep.Item} (h : Sep.Own w0 w L) (i : Nat) (hi : L[i]? = some (Sep.Item.box g 86 cs)) (hI : IsS86 w0 w1 g code at_ mix) (hB : Below w0.heap.size w0 w1) (hK : KeepBut w w1 g none) :
  ∃ vS : Value, (∃ A c, vS = .slice A code.length c ∧ Kd.C (Kd.int .u8) w0 A code.length code) ∧ Sep.Own w0 w1 (L.set i (Sep.Item.box g 86 #[vS, .int .i64 at_, .int .u64 mix])) := by
 obtain ⟨A, c, hb, hg, hC⟩ := hI
 exact ⟨_, ⟨A, c, rfl, hC⟩, h.put i hi ⟨hB.os.trans h.base.os.symm, hB.tape.trans h.base.tape.symm, hB.output.trans h.base.output.symm, hK.1, fun k hk hn => hK.2 k hk hn (by simp)⟩ hb⟩
def Item.rowsAt {β : Type} (d : Kd β) (e' e g n cap : Nat) (xss : List (List β)) (q : Int) (u : Value) : Sep.Item where
 H := fun w b P => Kd.S (Kd.slice e' d) e w b P (.slice (some ⟨g, 0, none⟩) n cap) xss ∧ w.cell? ⟨g, q.toNat, none⟩ = some u
 step := fun {w w1 b P} h hm => by
  have hg : some g = (Value.slice (some ⟨g, 0, none⟩) n cap).ownBlock := by simp [Value.ownBlock]
  have e := hm g ((Kd.S_R h.1).1 g hg.symm) (Kd.S_lt h.1 g hg.symm)
  exact ⟨Kd.S_step h.1 hm, by rw [← h.2]; simp only [World.cell?, e]⟩
 mono := fun hP h => ⟨Kd.S_mono h.1 hP, h.2⟩
 bound := fun h => ⟨Kd.S_mono (Kd.S_bound h.1) (fun k hk => ⟨hk.1, hk.2.1, hk.2.2.1⟩), h.2⟩
theorem own_rows_out {β : Type} {d : Kd β} {e' e g n cap : Nat} {xss : List (List β)} {w0 W : World} {L : List Sep.Item} (h : Sep.Own w0 W L) (i : Nat) (hi : L[i]? = some (Sep.Item.rows (Kd.slice e' d) e (.slice (some ⟨g, 0, none⟩) n cap) xss)) (q : Int) (h0 : 0 ≤ q) (h1 : q < n) (hy : 0 < (xss.getD q.toNat []).length) :
  ∃ g' m' c' : Nat, m' = (xss.getD q.toNat []).length ∧ m' ≤ c' ∧ Sep.Own w0 W (L.set i (Item.rowsAt d e' e g n cap xss q (.slice (some ⟨g', 0, none⟩) m' c'))) := by
 obtain ⟨P, hS⟩ := h.get i hi
 obtain ⟨oki, c, hcl, ⟨v, rfl, hv⟩, hcc, _⟩ := Kd.S_lend (d := Kd.slice e' d) hS [] q h0 h1
 obtain ⟨g', c', rfl, _⟩ := Kd.R_form hv hy
 have hle := (Kd.R_reads' hv).2.1
 have hc := hcc 0 _ rfl
 have hc2 : W.cell? ⟨g, q.toNat, none⟩ = some (.slice (some ⟨g', 0, none⟩) (xss.getD q.toNat []).length c') := by simpa [Kd.slice] using hc
 exact ⟨g', _, c', rfl, hle, h.conv i hi (fun P hS => ⟨hS, hc2⟩)⟩
theorem own_rowsAt_cell {β : Type} {d : Kd β} {e' e g n cap : Nat} {xss : List (List β)} {q : Int} {u : Value} {w0 W : World} {L : List Sep.Item} (h : Sep.Own w0 W L) (i : Nat) (hi : L[i]? = some (Item.rowsAt d e' e g n cap xss q u)) : W.cell? ⟨g, q.toNat, none⟩ = some u := by
 obtain ⟨P, hS⟩ := h.get i hi
 exact hS.2
theorem own_rowsAt_put {β : Type} {enc : β → Value} {h1 : ∀ x : β, (enc x).oneCell' = true} (d : β) {e' e g n cap g' m' c' : Nat} {xss : List (List β)} {q : Int} {w0 W : World} {L : List Sep.Item} (h : Sep.Own w0 W L) (i : Nat) (hi : L[i]? = some (Item.rowsAt (Kd.scalar enc h1) e' e g n cap xss q (.slice (some ⟨g', 0, none⟩) m' c'))) (hq0 : 0 ≤ q) (hq1 : q < n) (j : Int) (x : β) (hj0 : 0 ≤ j) (hj1 : j < m') :
  (W.cell? ⟨g', j.toNat, none⟩ = some (enc (rdOf d (xss.getD q.toNat []) j)) ∧ W.frozen? ⟨g', j.toNat, none⟩ = false) ∧ Sep.Own w0 (W.setCell ⟨g', j.toNat, none⟩ (enc x)) (L.set i (Sep.Item.rows (Kd.slice e' (Kd.scalar enc h1)) e (.slice (some ⟨g, 0, none⟩) n cap) (xss.set q.toNat ((xss.getD q.toNat []).set j.toNat x)))) := by
 obtain ⟨P', hR, hb, hback⟩ := h.upd i hi
 obtain ⟨hS, hcell⟩ := hR
 obtain ⟨oki, c, hcl, ⟨v, rfl, hv⟩, hcc, hoki, hB⟩ := Kd.S_borrow (d := Kd.slice e' (Kd.scalar enc h1)) hS [] q hq0 hq1
 have hc2 := hcc 0 _ rfl
 rw [add_at, Nat.zero_add] at hc2
 have hc3 : W.cell? ⟨g, q.toNat, none⟩ = some v := by simpa [Kd.slice] using hc2
 rw [hcell] at hc3
 injection hc3 with hc3
 subst hc3
 have hm := (Kd.R_reads' hv).1
 subst hm
 obtain ⟨h2, h3⟩ := Kd.R_put hv j x
 refine ⟨Kd.R_cell d hv j hj0 hj1, ?_⟩
 have hg : ∀ k, some g' = some k → oki k := fun k hk => by
  injection hk with hk
  subst hk
  exact hv.1 g' (by simp [Value.ownBlock])
 refine hback _ _ ((Sep.Chg.grown h3).mono (fun k hk => (hoki k (hg k hk.symm)).1)) (Kd.S_mono (hB h3 hg ⟨_, rfl, h2⟩) (fun k hk => .inl hk))
theorem own_rows_cut {β : Type} {d : Kd β} {e' e g n cap m' c' : Nat} {A : Option Addr} {xss : List (List β)} {q : Int} {w0 W : World} {L : List Sep.Item} (h : Sep.Own w0 W L) (i : Nat) (hi : L[i]? = some (Item.rowsAt d e' e g n cap xss q (.slice A m' c'))) (hq0 : 0 ≤ q) (hq1 : q < n) (m : Nat) (hm : m ≤ (xss.getD q.toNat []).length) :
  W.frozen? ⟨g, q.toNat, none⟩ = false ∧ Sep.Own w0 (W.setCell ⟨g, q.toNat, none⟩ (.slice A m c')) (L.set i (Sep.Item.rows (Kd.slice e' d) e (.slice (some ⟨g, 0, none⟩) n cap) (xss.set q.toNat ((xss.getD q.toNat []).take m)))) := by
 obtain ⟨P', hR, hb, hback⟩ := h.upd i hi
 obtain ⟨hS, hcell⟩ := hR
 obtain ⟨oki, c, hcl, ⟨v, rfl, hv⟩, hcc, hfr, hoki, hH⟩ := Kd.S_elem (d := Kd.slice e' d) hS [] q hq0 hq1
 have hc2 := hcc 0 _ rfl
 have hc3 : W.cell? ⟨g, q.toNat, none⟩ = some v := by simpa [Kd.slice] using hc2
 rw [hcell] at hc3
 injection hc3 with hc3
 subst hc3
 have hf := hfr 0
 have hf2 : W.frozen? ⟨g, q.toNat, none⟩ = false := by simpa [Kd.slice] using hf
 have ht := Kd.R_take hv hm
 obtain ⟨h2, h3⟩ := Kd.S_seg (d := Kd.slice e' d) (okg := fun _ => False) (okp := oki) (Kd.H_mono hH (fun k hk => ⟨hk, fun f => f⟩)) hq0 hq1 (seg := [.slice A m c']) (j := 0) (by simp [Kd.slice]) (x' := (xss.getD q.toNat []).take m) ⟨_, rfl, ht⟩ (fun k hk => .inl hk) (fun k hk => hk.elim)
 have e1 : W.setCells g (q.toNat * (Kd.slice e' d).sz + 0) [.slice A m c'] = W.setCell ⟨g, q.toNat, none⟩ (.slice A m c') := by simp [Kd.slice, World.setCells]
 rw [e1] at h2 h3
 exact ⟨hf2, hback _ _ ((Sep.Chg.grown h3).mono (fun k hk => by injection hk with hk; subst hk; exact (Kd.S_R hS).1 k (by simp [Value.ownBlock]))) (Kd.S_mono h2 (fun k hk => .inl hk))⟩
theorem own_nilrows {α : Type} (d : Kd α) (e : Nat) {w0 w : World} {L : List Sep.Item} (h : Sep.Own w0 w L) : Sep.Own w0 w (Sep.Item.rows d e (.slice none 0 0) [] :: L) := h.add_rows (ok := fun _ => True) (Kd.S_nil d e w w.heap.size _) (Below.refl _ _)
theorem R_up {α : Type} {d : Kd α} {e b b' : Nat} {W : World} {ok : Nat → Prop} {v : Value} {xs : List α} (hM : ∀ ok0 x cs, (∀ k, ok0 k → b' ≤ k) → d.M W b ok0 x cs → d.M W b' ok0 x cs) (h : d.R e W b ok v xs) (hb : ∀ k, ok k → b' ≤ k) : d.R e W b' ok v xs := by
 obtain ⟨h0, inner, ho, hr⟩ := h
 exact ⟨h0, inner, Kd.own_raise ho (fun k hk => hb k (h0 k hk)), hr.imp_ (fun _ _ hp => hM _ _ _ (fun k hk => hb k hk.1) hp)⟩
theorem S_up {e' e b b' : Nat} {W : World} {ok : Nat → Prop} {v : Value} {xs : List (List Int)} (h : Kd.S (Kd.slice e' (Kd.int .i64)) e W b ok v xs) (hb : ∀ k, ok k → b' ≤ k) : Kd.S (Kd.slice e' (Kd.int .i64)) e W b' ok v xs := by
 obtain ⟨f, hR⟩ := h
 exact ⟨f, R_up (fun ok0 x cs hk hm => by
  obtain ⟨u, hc, hu⟩ := hm
  exact ⟨u, hc, R_up (b := b) (b' := b') (d := Kd.int .i64) (fun _ _ _ _ hm => hm) hu (fun k h2 => hk k h2.1)⟩) hR hb⟩
theorem own_endS {e' e : Nat} {v : Value} {xs : List (List Int)} {w0 w w1 : World} {g T : Nat} {cs : Array Value} {L : List Sep.Item} (h : Sep.Own w0 w1 (Sep.Item.rows (Kd.slice e' (Kd.int .i64)) e v xs :: Sep.Item.box g T cs :: Sep.Item.kept w g :: L)) (h0 : Below w0.heap.size w0 w) (hg : g < w.heap.size) :
  Kd.S (Kd.slice e' (Kd.int .i64)) e w1 w.heap.size (fun _ => True) v xs ∧ w1.heap[g]? = some (.cells cs T (0, 0)) ∧ Below w0.heap.size w0 w1 ∧ KeepBut w w1 g none := by
 have h2 : Sep.Own w0 w1 (Sep.Item.row (Kd.int .i64) 0 (.slice none 0 0) [] :: Sep.Item.box g T cs :: Sep.Item.kept w g :: L) := Sep.Own.nilrow (Kd.int .i64) 0 h.tail
 obtain ⟨_, r1, r2, r3⟩ := Sep.own_end h2 h0 hg (fun w ok x cs b b' hM => hM)
 refine ⟨?_, r1, r2, r3⟩
 obtain ⟨hB, f, hf⟩ := h
 have s0 := Kd.S_bound (hf 0 _ rfl)
 have s1 := hf 1 _ rfl
 have s2 := hf 2 _ rfl
 refine Kd.S_mono (S_up s0 (fun k hk => ?_)) (fun _ _ => trivial)
 by_cases hlt : k < w.heap.size
 ·by_cases hkg : k = g
  ·subst hkg
   have := s1.1; have := hk.1
   omega
  ·have := (s2 k hk.2.1 hlt hkg).1
   have := hk.1
   omega
 ·omega
theorem own_rows_form {β : Type} {d : Kd β} {e : Nat} {v : Value} {xs : List β} {w0 W : World} {L : List Sep.Item} (h : Sep.Own w0 W L) (i : Nat) (hi : L[i]? = some (Sep.Item.rows d e v xs)) (hp : 0 < xs.length) : ∃ g cap : Nat, v = .slice (some ⟨g, 0, none⟩) xs.length cap :=
 Sep.own_row_form (h.slack i hi) i (by rw [List.getElem?_set_self (List.getElem?_eq_some_iff.mp hi).1]) hp
theorem own_rowsAt_back {β : Type} {d : Kd β} {e' e g n cap : Nat} {xss : List (List β)} {q : Int} {u : Value} {w0 W : World} {L : List Sep.Item} (h : Sep.Own w0 W L) (i : Nat) (hi : L[i]? = some (Item.rowsAt d e' e g n cap xss q u)) : Sep.Own w0 W (L.set i (Sep.Item.rows (Kd.slice e' d) e (.slice (some ⟨g, 0, none⟩) n cap) xss)) :=
 h.conv i hi (fun _ hP => hP.1)
theorem store_ev {P : Program} {ops : Array Oper} {rest : List Oper} {o : Oper} {a : Act} {Q : Exit → Act → World → Prop} {W : World} {u0 u : Value} {g j : Nat} (hc : W.cell? ⟨g, j, none⟩ = some u0) (hf : W.frozen? ⟨g, j, none⟩ = false)
  (hgd : o.guard = none) (hN : o.dst = none) (t : TypeId) (p y : Operand) (ho : o.op = .store t p y) (hp : a.eval p = .pointer (some ⟨g, j, none⟩)) (hx : a.eval y = u) (hu : u.cells.toList = [u]) (h1 : u.oneCell' = true) (ht : (P.info? t).map (·.size) = some 1)
  (hh : wpList P ops Q rest a (W.setCell ⟨g, j, none⟩ u)) : wpList P ops Q (o :: rest) a W := by
 refine wpList_plain hgd fun K hK => ?_
 obtain ⟨i, hj, hsz⟩ := Option.map_eq_some_iff.1 ht
 have hst := run_storeCells_cells (P := P) g j [u] 0 W (fun m hm => by
  have : m = 0 := by simpa using hm
  subst this
  simp [hc]) (fun m hm => by
  have : m = 0 := by simpa using hm
  subst this
  simpa using hf) (fun v hv => by rw [List.mem_singleton.1 hv]; exact h1)
 simp only [Nat.add_zero] at hst
 have hcs : u.cells.size = i.size := by rw [hsz, ← Array.length_toList, hu]; rfl
 have hrun : (Instr.storeAt t (.pointer (some ⟨g, j, none⟩)) u).run P W = .ok () (W.setCell ⟨g, j, none⟩ u) := by
  simp [Instr.storeAt, Instr.sureAddr, storeVar, sizeOf, typeInfo, hj, hcs, hu, hst, World.setCells]
 unfold Oper.wp execOp
 simp only [ho, hp, hx, Sem.run_bind, Sem.run_pure, Result.andThen_ok, hrun]
 show K (a.put o.dst undef) _
 rw [hN]
 exact hK a _ hh
theorem rows_two {l : List (List Int)} (h : ∀ y ∈ l, y.length = 2) (i : Nat) (hi : i < l.length) : (l.getD i []).length = 2 := by
 rw [List.getD_eq_getElem?_getD, List.getElem?_eq_getElem hi]
 exact h _ (List.getElem_mem hi)
def lwM (code : List Int) (b : Bool) (x a m : Int) : Option (Int × Int × Int) := if b = true then (spec_l1Cur_among.f code a m [7, 8, 0]) else some (x, a, m)
def lwN (code : List Int) (b : Bool) (x a m : Int) : Option (Int × Int × Int) := if b = true then ((spec_l1Cur_pick.f code a m 2).bind fun z => some (wrap64 (30 + z.1), z.2.1, z.2.2)) else some (x, a, m)
def lwLoop (code : List Int) (mm : Int) : Nat → List (List Int) → Int → Int → Option (List (List Int) × Int × Int)
 | 0, l, a, m => some (l, a, m)
 | d + 1, l, a, m => (spec_l1Cur_pick.f code a m 6).bind fun x => (spec_l1Most.f 1 mm).bind fun k => (spec_l1Cur_pick.f code x.2.1 x.2.2 k).bind fun y => lwLoop code mm d (l ++ [[x.1, y.1]]) y.2.1 y.2.2
def lwSw (code : List Int) (mm : Int) (l : List (List Int)) (q sw a m : Int) : Option (List (List Int) × Int × Int × Int) :=
 if sw = 0 then ((spec_l1Cur_among.f code a m [-1, 29, 30]).bind fun z => some (l.set q.toNat ((l.getD q.toNat []).set 0 z.1), mm, z.2.1, z.2.2))
 else (if sw = 1 then ((spec_l1Cur_among.f code a m [-1, mm]).bind fun z => some (l.set q.toNat ((l.getD q.toNat []).set 1 z.1), mm, z.2.1, z.2.2))
 else (if sw = 2 then some (l.set 0 ((l.getD 0 []).take 1), mm, a, m) else some (l, mm, a, m)))
def lwEnd (code : List Int) (mm n : Int) (l : List (List Int)) (a m : Int) : Option (List (List Int) × Int × Int × Int) :=
 if 0 < n then ((spec_l1Cur_pick.f code a m n).bind fun q => if 0 ≤ q.1 ∧ q.1 < n then ((spec_l1Cur_pick.f code q.2.1 q.2.2 24).bind fun sw => lwSw code mm l q.1 sw.1 sw.2.1 sw.2.2) else none) else some (l, mm, a, m)
def spec_l1Cur_levelWires.f (s0_0 : List Int) (s0_1 : Int) (s0_2 : Int) : Option (List (List Int) × Int × Int × Int) :=
 (spec_l1Cur_pick.f s0_0 s0_1 s0_2 5).bind fun b1 => (spec_l1Cur_one.f s0_0 b1.2.1 b1.2.2 16).bind fun b2 => (lwM s0_0 b2.1 (wrap64 (1 + b1.1)) b2.2.1 b2.2.2).bind fun mm =>
 (spec_l1Cur_pick.f s0_0 mm.2.1 mm.2.2 9).bind fun b3 => (spec_l1Cur_one.f s0_0 b3.2.1 b3.2.2 20).bind fun b4 => (lwN s0_0 b4.1 b3.1 b4.2.1 b4.2.2).bind fun nn =>
 if nn.1 ≤ 1000 then ((lwLoop s0_0 mm.1 nn.1.toNat [] nn.2.1 nn.2.2).bind fun lp => lwEnd s0_0 mm.1 nn.1 lp.1 lp.2.1 lp.2.2) else none
open Go.Proofs.Ytlnhpkjioppbiaa.Sep in
set_option maxHeartbeats 32000000 in
set_option maxRecDepth 100000 in
theorem spec_l1Cur_levelWires.calls (g : Nat) (s0_0 : List Int) (s0_1 : Int) (s0_2 : Int) (r1 : List (List Int)) (r2 : Int) (r3 : Int) (r4 : Int) (w0 w : World) (hI : IsS86 w0 w g s0_0 s0_1 s0_2) (hB : Below w0.heap.size w0 w) (h : spec_l1Cur_levelWires.f s0_0 s0_1 s0_2 = some (r1, r2, r3, r4)) :
  Calls Try.prog 122 #[.pointer (some ⟨g, 0, none⟩)] w fun e w' => ∃ v1_ : Value, e = .returned (.tuple #[v1_, .int .i64 r2]) ∧ Kd.S (Kd.slice 3 (Kd.int .i64)) 39 w' w.heap.size (fun _ => True) v1_ r1 ∧ IsS86 w0 w' g s0_0 r3 r4 ∧ Below w0.heap.size w0 w' ∧ KeepBut w w' g none := by
 obtain ⟨A0, c0, hbx, hge, hC⟩ := hI
 have HG := aM (blk_lt hbx)
 have HGE := aM hge
 obtain ⟨vS_0, hS, ho⟩ : ∃ vS : Value, (∃ A c, vS = .slice A s0_0.length c ∧ Kd.C (Kd.int .u8) w0 A s0_0.length s0_0) ∧ Own w0 w [Sep.Item.box g 86 #[vS, .int .i64 s0_1, .int .u64 s0_2], Sep.Item.kept w g] := ⟨_, ⟨A0, c0, rfl, hC⟩, Sep.own_start hB hge hbx⟩
 have HS_0 := aM hS
 have HO := aM ho
 have HBW := aM hB
 clear hS ho hB hbx hge hC
 unfold spec_l1Cur_levelWires.f at h
 obtain ⟨⟨q9, a9, m9⟩, e9, h_⟩ := oB.mp h
 clear h
 have h := h_
 clear h_
 have HP9 := aM e9
 clear e9
 dsimp only at h
 obtain ⟨⟨q12, a12, m12⟩, e12, h_⟩ := oB.mp h
 clear h
 have h := h_
 clear h_
 have HP12 := aM e12
 clear e12
 dsimp only at h
 obtain ⟨⟨q115, a115, m115⟩, e115, h_⟩ := oB.mp h
 clear h
 have h := h_
 clear h_
 have HP115 := aM e115
 clear e115
 dsimp only at h
 obtain ⟨⟨q17, a17, m17⟩, e17, h_⟩ := oB.mp h
 clear h
 have h := h_
 clear h_
 have HP17 := aM e17
 clear e17
 dsimp only at h
 obtain ⟨⟨q19, a19, m19⟩, e19, h_⟩ := oB.mp h
 clear h
 have h := h_
 clear h_
 have HP19 := aM e19
 clear e19
 dsimp only at h
 obtain ⟨⟨q121, a121, m121⟩, e121, h_⟩ := oB.mp h
 clear h
 have h := h_
 clear h_
 have HP121 := aM e121
 clear e121
 dsimp only at h
 split at h
 ·rename_i hn1
  have HN1 := aM hn1; clear hn1; obtain ⟨⟨q118, a118, m118⟩, e118, h_⟩ := oB.mp h; clear h; have h := h_; clear h_; have HP118 := aM e118; clear e118
  dsimp only at h
  have HF := aM h; clear h
  go_enter Try.func122, Try.ntmps122
  go_upto_if 12 with (first | ((with_reducible refine gate_callee (f := 68) rfl ?_); refine goesL_ (some 9) rfl rfl Try.func68 (by kernel_rfl) rfl #[.pointer (some ⟨g, 0, none⟩), .int .i64 5] rfl ze_ ?_; (refine (spec_l1Cur_pick.calls g s0_0 s0_1 s0_2 5 q9 a9 m9 w0 _ (lw_in HO.out 0 rfl HS_0.out) HO.out.base HP9.out).mono ?_); rintro e w_1 ⟨rfl, hI, hB, hK⟩; refine ⟨_, rfl, ?_⟩; obtain ⟨vS_9, hS, ho⟩ := lw_out HO.out 0 rfl hI hB hK; have HS_9 := aM hS; have HO_1 := aM ho; clear hI hB hK hS ho) | ((with_reducible refine gate_callee (f := 65) rfl ?_); refine goesL_ (some 12) rfl rfl Try.func65 (by kernel_rfl) rfl #[.pointer (some ⟨g, 0, none⟩), .int .i64 16] rfl ze_ ?_; (refine (spec_l1Cur_one.calls g s0_0 a9 m9 16 q12 a12 m12 w0 _ (lw_in HO_1.out 0 rfl HS_9.out) HO_1.out.base HP12.out).mono ?_); rintro e w_2 ⟨rfl, hI, hB, hK⟩; refine ⟨_, rfl, ?_⟩; obtain ⟨vS_12, hS, ho⟩ := lw_out HO_1.out 0 rfl hI hB hK; have HS_12 := aM hS; have HO_2 := aM ho; clear hI hB hK hS ho))
  (try simp only [Act.put, sI, s0, sS])
  go_cut [4] (fun v4 wc => v4 = .int .i64 q115 ∧ (∃ (vS_ : Value), Aside0 (∃ A c, vS_ = .slice A s0_0.length c ∧ Kd.C (Kd.int .u8) w0 A s0_0.length s0_0) ∧ Aside0 (Own w0 wc (Item.box g 86 #[vS_, .int .i64 a115, .int .u64 m115] :: [Sep.Item.kept w g]))))
  case first =>
   have hg := HP115.out
   unfold lwM at hg
   cases q12 with
   | true =>
    rw [if_pos rfl] at hg; have HP15 := aM hg; clear hg
    go_wp2_with (first | ((with_reducible refine gate_dst (N := 14) rfl ?_); refine Sep.own_litN (Value.int .i64) (h1 := fun _ => rfl) HO_2.out 3 [7, 8, 0] 3 rfl [.int .i64 7, .int .i64 8, .int .i64 0] rfl (by decide) ?hg (N := 14) ?hd ?hr ?_; (case hd => rfl); (case hg => rfl); (case hr => exact zd_); intro x_14 w_3 ho _; obtain ⟨g_14, n_14, c_14, hn_, rfl⟩ := Sep.own_row_fseal ho 0 rfl (by simp); obtain rfl : n_14 = 3 := hn_; have HO_3 := aM ho; clear ho) | ((with_reducible refine gate_callee (f := 66) rfl ?_); refine goesL_ (some 15) rfl rfl Try.func66 (by kernel_rfl) rfl #[.pointer (some ⟨g, 0, none⟩), .slice ((some ⟨g_14, 0, none⟩)) 3 c_14] rfl ze_ ?_; (refine (spec_l1Cur_among.calls g s0_0 a12 m12 ((some ⟨g_14, 0, none⟩)) c_14 ([7, 8, 0]) q115 a115 m115 w0 _ (lw_in HO_3.out 1 rfl HS_12.out) HO_3.out.base (by exact (HO_3.out.row_reads 0 rfl).2.2) (by exact (HO_3.out.row_reads 0 rfl).2.1) (fun ad he _ => by injection he with he; subst he; exact HO_3.out.row_ne_box 0 1 (by decide) rfl rfl) HP15.out).mono ?_); rintro e w_4 ⟨rfl, hI, hB, hK⟩; refine ⟨_, rfl, ?_⟩; obtain ⟨vS_15, hS, ho⟩ := lw_out HO_3.out 1 rfl hI hB hK; have HS_15 := aM hS; have HO_4 := aM ho; clear hI hB hK hS ho))
    go_meet
    case rel => exact ⟨rfl, vS_15, HS_15, ⟨((HO_4.out.front 1 rfl).front 1 rfl).tail⟩⟩
   | false =>
    rw [if_neg (by decide)] at hg
    injection hg with hg
    injection hg with e_0 hg
    injection hg with e_1 hg
    have e_2 := hg; clear hg; subst e_0; subst e_1; subst e_2
    go_wp2
    go_meet
    case rel => exact ⟨rfl, vS_12, HS_12, ⟨HO_2.out⟩⟩
  case rest =>
   clear HO_2 HP115 HP12; obtain ⟨rfl, vS_c115, HS_c115, HOC115⟩ := hcut
   go_upto_if 19 with (first | ((with_reducible refine gate_callee (f := 68) rfl ?_); refine goesL_ (some 17) rfl rfl Try.func68 (by kernel_rfl) rfl #[.pointer (some ⟨g, 0, none⟩), .int .i64 9] rfl ze_ ?_; (refine (spec_l1Cur_pick.calls g s0_0 a115 m115 9 q17 a17 m17 w0 _ (lw_in HOC115.out 0 rfl HS_c115.out) HOC115.out.base HP17.out).mono ?_); rintro e w_3 ⟨rfl, hI, hB, hK⟩; refine ⟨_, rfl, ?_⟩; obtain ⟨vS_17, hS, ho⟩ := lw_out HOC115.out 0 rfl hI hB hK; have HS_17 := aM hS; have HO_3 := aM ho; clear hI hB hK hS ho) | ((with_reducible refine gate_callee (f := 65) rfl ?_); refine goesL_ (some 19) rfl rfl Try.func65 (by kernel_rfl) rfl #[.pointer (some ⟨g, 0, none⟩), .int .i64 20] rfl ze_ ?_; (refine (spec_l1Cur_one.calls g s0_0 a17 m17 20 q19 a19 m19 w0 _ (lw_in HO_3.out 0 rfl HS_17.out) HO_3.out.base HP19.out).mono ?_); rintro e w_4 ⟨rfl, hI, hB, hK⟩; refine ⟨_, rfl, ?_⟩; obtain ⟨vS_19, hS, ho⟩ := lw_out HO_3.out 0 rfl hI hB hK; have HS_19 := aM hS; have HO_4 := aM ho; clear hI hB hK hS ho))
   (try simp only [Act.put, sI, s0, sS])
   go_cut [6] (fun v6 wc => v6 = .int .i64 q121 ∧ (∃ (vS_ : Value), Aside0 (∃ A c, vS_ = .slice A s0_0.length c ∧ Kd.C (Kd.int .u8) w0 A s0_0.length s0_0) ∧ Aside0 (Own w0 wc (Item.box g 86 #[vS_, .int .i64 a121, .int .u64 m121] :: [Sep.Item.kept w g]))))
   case first =>
    have hg := HP121.out
    unfold lwN at hg
    cases q19 with
    | true =>
     rw [if_pos rfl] at hg; obtain ⟨⟨q21, a21, m21⟩, e21, h_⟩ := oB.mp hg; clear hg; have hg := h_; clear h_; have HP21 := aM e21; clear e21
     dsimp only at hg
     injection hg with hg
     injection hg with e_0 hg
     injection hg with e_1 hg
     have e_2 := hg; clear hg; subst e_0; subst e_1; subst e_2
     go_wp2_with (first | ((with_reducible refine gate_callee (f := 68) rfl ?_); refine goesL_ (some 21) rfl rfl Try.func68 (by kernel_rfl) rfl #[.pointer (some ⟨g, 0, none⟩), .int .i64 2] rfl ze_ ?_; (refine (spec_l1Cur_pick.calls g s0_0 a19 m19 2 q21 a21 m21 w0 _ (lw_in HO_4.out 0 rfl HS_19.out) HO_4.out.base HP21.out).mono ?_); rintro e w_5 ⟨rfl, hI, hB, hK⟩; refine ⟨_, rfl, ?_⟩; obtain ⟨vS_21, hS, ho⟩ := lw_out HO_4.out 0 rfl hI hB hK; have HS_21 := aM hS; have HO_5 := aM ho; clear hI hB hK hS ho))
     go_meet
     case rel => exact ⟨rfl, vS_21, HS_21, ⟨HO_5.out⟩⟩
    | false =>
     rw [if_neg (by decide)] at hg
     injection hg with hg
     injection hg with e_0 hg
     injection hg with e_1 hg
     have e_2 := hg; clear hg; subst e_0; subst e_1; subst e_2
     go_wp2
     go_meet
     case rel => exact ⟨rfl, vS_19, HS_19, ⟨HO_4.out⟩⟩
   case rest =>
    clear HO_4 HP121 HP19; obtain ⟨rfl, vS_c121, HS_c121, HOC121⟩ := hcut
    go_wp2
    go_loopg [5] q121.toNat (fun kq v5 wr => ∃ (l : List (List Int)) (at_ mx_ : Int) (vS_ : Value) (A_ : Option Addr) (m_ c_ : Nat), v5 = .slice A_ m_ c_ ∧ Aside0 (lwLoop s0_0 q115 kq l at_ mx_ = some (q118, a118, m118)) ∧ Aside0 (m_ = l.length ∧ l.length + kq = q121.toNat ∧ ∀ y ∈ l, y.length = 2) ∧ Aside0 (∃ A c, vS_ = .slice A s0_0.length c ∧ Kd.C (Kd.int .u8) w0 A s0_0.length s0_0) ∧ Aside0 (Own w0 wr (Item.rows (Kd.slice 3 (Kd.int .i64)) 39 (.slice A_ m_ c_) (l) :: Item.box g 86 #[vS_, .int .i64 at_, .int .u64 mx_] :: [Sep.Item.kept w g])))
    case atStart => exact ⟨[], a121, m121, vS_c121, none, 0, 0, rfl, HP118, ⟨rfl, by simp, by simp⟩, HS_c121, ⟨(((own_nilrows (Kd.slice 3 (Kd.int .i64)) 39 HOC121.out).front 1 rfl).front 1 rfl)⟩⟩
    case round =>
     obtain ⟨l, at_, mx_, vS_, A_, m_, c_, rfl, HL, HM, HS_, HO⟩ := hrel; clear HOC121
     cases gk with
     | zero =>
      have c1b : decide ((m_ : Int) < q121) = false := decide_eq_false (by have := HM.out; omega); have hl := HL.out; rw [lwLoop] at hl
      injection hl with hl
      injection hl with e_0 hl
      injection hl with e_1 hl
      have e_2 := hl; clear hl; subst e_0; subst e_1; subst e_2; have h := HF.out; clear HF HL
      unfold lwEnd at h
      by_cases c2 : 0 < q121
      ·have c2b : decide (q121 > 0) = true := decide_eq_true c2
       have c2c : decide (0 < q121) = true := decide_eq_true c2; rw [if_pos c2] at h; obtain ⟨⟨q42, a42, m42⟩, e42, h_⟩ := oB.mp h; clear h; have h := h_; clear h_; have HP42 := aM e42; clear e42
       dsimp only at h
       split at h
       ·rename_i hq
        obtain ⟨hq0, hq1⟩ := hq; obtain ⟨⟨q46, a46, m46⟩, e46, h_⟩ := oB.mp h; clear h; have h := h_; clear h_; have HP46 := aM e46; clear e46
        dsimp only at h
        obtain ⟨gl, c3_, hv3⟩ := own_rows_form HO.out 0 rfl (by have := HM.out; omega)
        injection hv3 with ha hb hc
        subst ha; subst hc; clear hb; have hlen : ∀ q : Int, 0 ≤ q → q < q121 → (l.getD q.toNat []).length = 2 := fun q h0 h1 => rows_two HM.out.2.2 _ (by have := HM.out; omega)
        have HLEN := aM hlen; clear hlen; have HQ := aM (show 0 ≤ q42 ∧ q42 < (m_ : Int) from ⟨hq0, by have := HM.out; omega⟩); have HQ2 := aM hq1; have p42 : (0 ≤ q42) = True := eq_true hq0; have p42b : (q42 < (m_ : Int)) = True := eq_true HQ.out.2; clear hq0 hq1; obtain ⟨gx, mx, cx, hmx, hcx, ho⟩ := own_rows_out HO.out 0 rfl q42 HQ.out.1 HQ.out.2 (by have := HLEN.out q42 HQ.out.1 HQ2.out; omega); obtain rfl : mx = 2 := hmx.trans (HLEN.out q42 HQ.out.1 HQ2.out); have HOA := aM ho; have HCX := aM hcx; clear ho hmx hcx
        unfold lwSw at h
        by_cases c3 : q46 = 0
        ·rw [if_pos c3] at h
         subst c3; obtain ⟨⟨q52, a52, m52⟩, e52, h_⟩ := oB.mp h; clear h; have h := h_; clear h_; have HP52 := aM e52; clear e52
         dsimp only at h
         injection h with h
         injection h with e_0 h
         injection h with e_1 h
         injection h with e_2 h
         have e_3 := h; clear h; subst e_0; subst e_1; subst e_2; subst e_3
         go_wp2_with (first | ((with_reducible refine gate_callee (f := 68) rfl ?_); refine goesL_ (some 42) rfl rfl Try.func68 (by kernel_rfl) rfl #[.pointer (some ⟨g, 0, none⟩), .int .i64 q121] rfl ze_ ?_; (refine (spec_l1Cur_pick.calls g s0_0 at_ mx_ q121 q42 a42 m42 w0 _ (lw_in HOA.out 1 rfl HS_.out) HOA.out.base HP42.out).mono ?_); rintro e w_1 ⟨rfl, hI, hB, hK⟩; refine ⟨_, rfl, ?_⟩; obtain ⟨vS_42, hS, ho⟩ := lw_out HOA.out 1 rfl hI hB hK; have HS_42 := aM hS; have HO_1 := aM ho; clear hI hB hK hS ho; have z_1 : w_1.cell? ⟨gl, q42.toNat, none⟩ = some (.slice ((some ⟨gx, 0, none⟩)) 2 cx) := (own_rowsAt_cell HO_1.out 0 rfl)) | ((with_reducible refine gate_callee (f := 68) rfl ?_); refine goesL_ (some 46) rfl rfl Try.func68 (by kernel_rfl) rfl #[.pointer (some ⟨g, 0, none⟩), .int .i64 24] rfl ze_ ?_; (refine (spec_l1Cur_pick.calls g s0_0 a42 m42 24 0 a46 m46 w0 _ (lw_in HO_1.out 1 rfl HS_42.out) HO_1.out.base HP46.out).mono ?_); rintro e w_2 ⟨rfl, hI, hB, hK⟩; refine ⟨_, rfl, ?_⟩; obtain ⟨vS_46, hS, ho⟩ := lw_out HO_1.out 1 rfl hI hB hK; have HS_46 := aM hS; have HO_2 := aM ho; clear hI hB hK hS ho) | ((with_reducible refine gate_dst (N := 51) rfl ?_); refine Sep.own_litN (Value.int .i64) (h1 := fun _ => rfl) HO_2.out 3 [-1, 29, 30] 3 rfl [.int .i64 (-1), .int .i64 29, .int .i64 30] rfl (by decide) ?hg (N := 51) ?hd ?hr ?_; (case hd => rfl); (case hg => rfl); (case hr => exact zd_); intro x_51 w_3 ho _; obtain ⟨g_51, n_51, c_51, hn_, rfl⟩ := Sep.own_row_fseal ho 0 rfl (by simp); obtain rfl : n_51 = 3 := hn_; have HO_3 := aM ho; clear ho) | ((with_reducible refine gate_callee (f := 66) rfl ?_); refine goesL_ (some 52) rfl rfl Try.func66 (by kernel_rfl) rfl #[.pointer (some ⟨g, 0, none⟩), .slice ((some ⟨g_51, 0, none⟩)) 3 c_51] rfl ze_ ?_; (refine (spec_l1Cur_among.calls g s0_0 a46 m46 ((some ⟨g_51, 0, none⟩)) c_51 ([-1, 29, 30]) q52 a52 m52 w0 _ (lw_in HO_3.out 2 rfl HS_46.out) HO_3.out.base (by exact (HO_3.out.row_reads 0 rfl).2.2) (by exact (HO_3.out.row_reads 0 rfl).2.1) (fun ad he _ => by injection he with he; subst he; exact HO_3.out.row_ne_box 0 2 (by decide) rfl rfl) HP52.out).mono ?_); rintro e w_4 ⟨rfl, hI, hB, hK⟩; refine ⟨_, rfl, ?_⟩; obtain ⟨vS_52, hS, ho⟩ := lw_out HO_3.out 2 rfl hI hB hK; have HS_52 := aM hS; have HO_4 := aM ho; clear hI hB hK hS ho) | ((with_reducible refine gate_store (t := 3) (p := 53) (v := .tmp 52) rfl ?_); obtain ⟨⟨hbs, hbf⟩, ho⟩ := own_rowsAt_put (0 : Int) HO_4.out 1 rfl HQ.out.1 HQ.out.2 0 q52 (by decide) (by decide); refine store_ev (u := .int .i64 q52) hbs hbf rfl rfl 3 (.tmp 53) (.tmp 52) rfl rfl rfl rfl rfl (by kernel_rfl) ?_; have HO_5 := aM ho; clear ho hbs hbf; generalize w_4.setCell ⟨gx, (0 : Int).toNat, none⟩ (.int .i64 q52) = w_5 at HO_5 ⊢))
         obtain ⟨hR, hbx2, hB2, hK2⟩ := own_endS ((((HO_5.out.front 2 rfl).front 2 rfl).front 2 rfl).tail) HBW.out HG.out; obtain ⟨A9, c9, e9, hC9⟩ := HS_52.out; subst e9; have HR_ := aM hR; have HX_ := aM (show IsS86 w0 _ g s0_0 _ _ from ⟨A9, c9, hbx2, HGE.out, hC9⟩); have HB_ := aM hB2; have HK_ := aM hK2; clear hR hbx2 hB2 hK2 hC9
         go_ret2
         exact ⟨_, rfl, HR_.out, HX_.out, HB_.out, HK_.out⟩
        ·rw [if_neg c3] at h
         by_cases c3_1 : q46 = 1
         ·rw [if_pos c3_1] at h
          subst c3_1; obtain ⟨⟨q60, a60, m60⟩, e60, h_⟩ := oB.mp h; clear h; have h := h_; clear h_; have HP60 := aM e60; clear e60
          dsimp only at h
          injection h with h
          injection h with e_0 h
          injection h with e_1 h
          injection h with e_2 h
          have e_3 := h; clear h; subst e_0; subst e_1; subst e_2; subst e_3
          go_wp2_with (first | ((with_reducible refine gate_callee (f := 68) rfl ?_); refine goesL_ (some 42) rfl rfl Try.func68 (by kernel_rfl) rfl #[.pointer (some ⟨g, 0, none⟩), .int .i64 q121] rfl ze_ ?_; (refine (spec_l1Cur_pick.calls g s0_0 at_ mx_ q121 q42 a42 m42 w0 _ (lw_in HOA.out 1 rfl HS_.out) HOA.out.base HP42.out).mono ?_); rintro e w_1 ⟨rfl, hI, hB, hK⟩; refine ⟨_, rfl, ?_⟩; obtain ⟨vS_42, hS, ho⟩ := lw_out HOA.out 1 rfl hI hB hK; have HS_42 := aM hS; have HO_1 := aM ho; clear hI hB hK hS ho; have z_1 : w_1.cell? ⟨gl, q42.toNat, none⟩ = some (.slice ((some ⟨gx, 0, none⟩)) 2 cx) := (own_rowsAt_cell HO_1.out 0 rfl)) | ((with_reducible refine gate_callee (f := 68) rfl ?_); refine goesL_ (some 46) rfl rfl Try.func68 (by kernel_rfl) rfl #[.pointer (some ⟨g, 0, none⟩), .int .i64 24] rfl ze_ ?_; (refine (spec_l1Cur_pick.calls g s0_0 a42 m42 24 1 a46 m46 w0 _ (lw_in HO_1.out 1 rfl HS_42.out) HO_1.out.base HP46.out).mono ?_); rintro e w_2 ⟨rfl, hI, hB, hK⟩; refine ⟨_, rfl, ?_⟩; obtain ⟨vS_46, hS, ho⟩ := lw_out HO_1.out 1 rfl hI hB hK; have HS_46 := aM hS; have HO_2 := aM ho; clear hI hB hK hS ho) | ((with_reducible refine gate_dst (N := 59) rfl ?_); refine Sep.own_litN (Value.int .i64) (h1 := fun _ => rfl) HO_2.out 3 [-1, q115] 2 rfl [.int .i64 (-1), .int .i64 q115] rfl (by decide) ?hg (N := 59) ?hd ?hr ?_; (case hd => rfl); (case hg => rfl); (case hr => exact zd_); intro x_59 w_3 ho _; obtain ⟨g_59, n_59, c_59, hn_, rfl⟩ := Sep.own_row_fseal ho 0 rfl (by simp); obtain rfl : n_59 = 2 := hn_; have HO_3 := aM ho; clear ho) | ((with_reducible refine gate_callee (f := 66) rfl ?_); refine goesL_ (some 60) rfl rfl Try.func66 (by kernel_rfl) rfl #[.pointer (some ⟨g, 0, none⟩), .slice ((some ⟨g_59, 0, none⟩)) 2 c_59] rfl ze_ ?_; (refine (spec_l1Cur_among.calls g s0_0 a46 m46 ((some ⟨g_59, 0, none⟩)) c_59 ([-1, q115]) q60 a60 m60 w0 _ (lw_in HO_3.out 2 rfl HS_46.out) HO_3.out.base (by exact (HO_3.out.row_reads 0 rfl).2.2) (by exact (HO_3.out.row_reads 0 rfl).2.1) (fun ad he _ => by injection he with he; subst he; exact HO_3.out.row_ne_box 0 2 (by decide) rfl rfl) HP60.out).mono ?_); rintro e w_4 ⟨rfl, hI, hB, hK⟩; refine ⟨_, rfl, ?_⟩; obtain ⟨vS_60, hS, ho⟩ := lw_out HO_3.out 2 rfl hI hB hK; have HS_60 := aM hS; have HO_4 := aM ho; clear hI hB hK hS ho) | ((with_reducible refine gate_store (t := 3) (p := 61) (v := .tmp 60) rfl ?_); obtain ⟨⟨hbs, hbf⟩, ho⟩ := own_rowsAt_put (0 : Int) HO_4.out 1 rfl HQ.out.1 HQ.out.2 1 q60 (by decide) (by decide); refine store_ev (u := .int .i64 q60) hbs hbf rfl rfl 3 (.tmp 61) (.tmp 60) rfl rfl rfl rfl rfl (by kernel_rfl) ?_; have HO_5 := aM ho; clear ho hbs hbf; generalize w_4.setCell ⟨gx, (1 : Int).toNat, none⟩ (.int .i64 q60) = w_5 at HO_5 ⊢))
          obtain ⟨hR, hbx2, hB2, hK2⟩ := own_endS ((((HO_5.out.front 2 rfl).front 2 rfl).front 2 rfl).tail) HBW.out HG.out; obtain ⟨A9, c9, e9, hC9⟩ := HS_60.out; subst e9; have HR_ := aM hR; have HX_ := aM (show IsS86 w0 _ g s0_0 _ _ from ⟨A9, c9, hbx2, HGE.out, hC9⟩); have HB_ := aM hB2; have HK_ := aM hK2; clear hR hbx2 hB2 hK2 hC9
          go_ret2
          exact ⟨_, rfl, HR_.out, HX_.out, HB_.out, HK_.out⟩
         ·rw [if_neg c3_1] at h
          by_cases c3_2 : q46 = 2
          ·rw [if_pos c3_2] at h
           subst c3_2
           injection h with h
           injection h with e_0 h
           injection h with e_1 h
           injection h with e_2 h
           have e_3 := h; clear h; subst e_0; subst e_1; subst e_2; subst e_3; have HZ := aM (show (0 : Int) < (m_ : Int) from by have := HQ.out; omega); have HZ2 := aM (show (0 : Int) < q121 from c2); have pz : ((0 : Int) < (m_ : Int)) = True := eq_true HZ.out; have pz2 : (0 < m_) = True := eq_true (by have := HZ.out; omega)
           go_wp2_with (first | ((with_reducible refine gate_callee (f := 68) rfl ?_); refine goesL_ (some 42) rfl rfl Try.func68 (by kernel_rfl) rfl #[.pointer (some ⟨g, 0, none⟩), .int .i64 q121] rfl ze_ ?_; (refine (spec_l1Cur_pick.calls g s0_0 at_ mx_ q121 q42 a42 m42 w0 _ (lw_in HOA.out 1 rfl HS_.out) HOA.out.base HP42.out).mono ?_); rintro e w_1 ⟨rfl, hI, hB, hK⟩; refine ⟨_, rfl, ?_⟩; obtain ⟨vS_42, hS, ho⟩ := lw_out HOA.out 1 rfl hI hB hK; have HS_42 := aM hS; have HO_1 := aM ho; clear hI hB hK hS ho; have z_1 : w_1.cell? ⟨gl, q42.toNat, none⟩ = some (.slice ((some ⟨gx, 0, none⟩)) 2 cx) := (own_rowsAt_cell HO_1.out 0 rfl)) | ((with_reducible refine gate_callee (f := 68) rfl ?_); refine goesL_ (some 46) rfl rfl Try.func68 (by kernel_rfl) rfl #[.pointer (some ⟨g, 0, none⟩), .int .i64 24] rfl ze_ ?_; (refine (spec_l1Cur_pick.calls g s0_0 a42 m42 24 2 a46 m46 w0 _ (lw_in HO_1.out 1 rfl HS_42.out) HO_1.out.base HP46.out).mono ?_); rintro e w_2 ⟨rfl, hI, hB, hK⟩; refine ⟨_, rfl, ?_⟩; obtain ⟨vS_46, hS, ho⟩ := lw_out HO_1.out 1 rfl hI hB hK; have HS_46 := aM hS; have HO_2 := aM ho; clear hI hB hK hS ho; obtain ⟨gz, mz, cz, hmz, hcz, ho⟩ := own_rows_out (own_rowsAt_back HO_2.out 0 rfl) 0 rfl 0 (by decide) HZ.out (by rw [HLEN.out 0 (by decide) HZ2.out]; decide); obtain rfl : mz = 2 := hmz.trans (HLEN.out 0 (by decide) HZ2.out); have HO_3 := aM ho; have pcz : ((1 : Int) ≤ (cz : Int)) = True := eq_true (by omega); have pcz2 : (1 ≤ cz) = True := eq_true (by omega); clear ho hmz hcz; have z_2 : w_2.cell? ⟨gl, 0, none⟩ = some (.slice ((some ⟨gz, 0, none⟩)) 2 cz) := (own_rowsAt_cell HO_3.out 0 rfl)) | ((with_reducible refine gate_store (t := 39) (p := 69) (v := .tmp 68) rfl ?_); obtain ⟨hbf, ho⟩ := own_rows_cut HO_3.out 0 rfl (by decide) HZ.out 1 (by rw [HLEN.out 0 (by decide) HZ2.out]; decide); have hbs := own_rowsAt_cell HO_3.out 0 rfl; refine store_ev (u := .slice (some ⟨gz, 0, none⟩) 1 cz) hbs hbf rfl rfl 39 (.tmp 69) (.tmp 68) rfl rfl rfl rfl rfl (by kernel_rfl) ?_; have HO_4 := aM ho; clear ho hbs hbf; generalize w_2.setCell ⟨gl, (0 : Int).toNat, none⟩ (.slice (some ⟨gz, 0, none⟩) 1 cz) = w_4 at HO_4 ⊢))
           obtain ⟨hR, hbx2, hB2, hK2⟩ := own_endS (((HO_4.out.front 1 rfl).front 1 rfl)) HBW.out HG.out; obtain ⟨A9, c9, e9, hC9⟩ := HS_46.out; subst e9; have HR_ := aM hR; have HX_ := aM (show IsS86 w0 _ g s0_0 _ _ from ⟨A9, c9, hbx2, HGE.out, hC9⟩); have HB_ := aM hB2; have HK_ := aM hK2; clear hR hbx2 hB2 hK2 hC9
           go_ret2
           exact ⟨_, rfl, HR_.out, HX_.out, HB_.out, HK_.out⟩
          ·rw [if_neg c3_2] at h
           have c3b0 := beq_eq_false_iff_ne.mpr c3; clear c3; have c3b1 : (q46 == 1) = false := beq_eq_false_iff_ne.mpr c3_1; clear c3_1; have c3b2 : (q46 == 2) = false := beq_eq_false_iff_ne.mpr c3_2; clear c3_2
           injection h with h
           injection h with e_0 h
           injection h with e_1 h
           injection h with e_2 h
           have e_3 := h; clear h; subst e_0; subst e_1; subst e_2; subst e_3
           go_wp2_with (first | ((with_reducible refine gate_callee (f := 68) rfl ?_); refine goesL_ (some 42) rfl rfl Try.func68 (by kernel_rfl) rfl #[.pointer (some ⟨g, 0, none⟩), .int .i64 q121] rfl ze_ ?_; (refine (spec_l1Cur_pick.calls g s0_0 at_ mx_ q121 q42 a42 m42 w0 _ (lw_in HOA.out 1 rfl HS_.out) HOA.out.base HP42.out).mono ?_); rintro e w_1 ⟨rfl, hI, hB, hK⟩; refine ⟨_, rfl, ?_⟩; obtain ⟨vS_42, hS, ho⟩ := lw_out HOA.out 1 rfl hI hB hK; have HS_42 := aM hS; have HO_1 := aM ho; clear hI hB hK hS ho; have z_1 : w_1.cell? ⟨gl, q42.toNat, none⟩ = some (.slice ((some ⟨gx, 0, none⟩)) 2 cx) := (own_rowsAt_cell HO_1.out 0 rfl)) | ((with_reducible refine gate_callee (f := 68) rfl ?_); refine goesL_ (some 46) rfl rfl Try.func68 (by kernel_rfl) rfl #[.pointer (some ⟨g, 0, none⟩), .int .i64 24] rfl ze_ ?_; (refine (spec_l1Cur_pick.calls g s0_0 a42 m42 24 q46 a46 m46 w0 _ (lw_in HO_1.out 1 rfl HS_42.out) HO_1.out.base HP46.out).mono ?_); rintro e w_2 ⟨rfl, hI, hB, hK⟩; refine ⟨_, rfl, ?_⟩; obtain ⟨vS_46, hS, ho⟩ := lw_out HO_1.out 1 rfl hI hB hK; have HS_46 := aM hS; have HO_2 := aM ho; clear hI hB hK hS ho))
           have HOB := aM (own_rowsAt_back HO_2.out 0 rfl); obtain ⟨hR, hbx2, hB2, hK2⟩ := own_endS (((HOB.out.front 1 rfl).front 1 rfl)) HBW.out HG.out; obtain ⟨A9, c9, e9, hC9⟩ := HS_46.out; subst e9; have HR_ := aM hR; have HX_ := aM (show IsS86 w0 _ g s0_0 _ _ from ⟨A9, c9, hbx2, HGE.out, hC9⟩); have HB_ := aM hB2; have HK_ := aM hK2; clear hR hbx2 hB2 hK2 hC9
           go_ret2
           exact ⟨_, rfl, HR_.out, HX_.out, HB_.out, HK_.out⟩
       ·cases h
      ·have c2b : decide (q121 > 0) = false := decide_eq_false c2
       have c2c : decide (0 < q121) = false := decide_eq_false c2; rw [if_neg c2] at h
       injection h with h
       injection h with e_0 h
       injection h with e_1 h
       injection h with e_2 h
       have e_3 := h; clear h; subst e_0; subst e_1; subst e_2; subst e_3
       go_wp2
       obtain ⟨hR, hbx2, hB2, hK2⟩ := own_endS (((HO.out.front 1 rfl).front 1 rfl)) HBW.out HG.out; obtain ⟨A9, c9, e9, hC9⟩ := HS_.out; subst e9; have HR_ := aM hR; have HX_ := aM (show IsS86 w0 _ g s0_0 _ _ from ⟨A9, c9, hbx2, HGE.out, hC9⟩); have HB_ := aM hB2; have HK_ := aM hK2; clear hR hbx2 hB2 hK2 hC9
       go_ret2
       exact ⟨_, rfl, HR_.out, HX_.out, HB_.out, HK_.out⟩
     | succ k1 =>
      have c1b : decide ((m_ : Int) < q121) = true := decide_eq_true (by have := HM.out; omega); have hl := HL.out; rw [lwLoop] at hl; obtain ⟨⟨q29, a29, m29⟩, e29, h_⟩ := oB.mp hl; clear hl; have hl := h_; clear h_; have HP29 := aM e29; clear e29
      dsimp only at hl
      obtain ⟨q32, e32, h_⟩ := oB.mp hl; clear hl; have hl := h_; clear h_; have HP32 := aM e32; clear e32; obtain ⟨⟨q33, a33, m33⟩, e33, h_⟩ := oB.mp hl; clear hl; have hl := h_; clear h_; have HP33 := aM e33; clear e33
      dsimp only at hl
      have HL2 := aM hl; clear hl HL
      go_wp2_with (first | ((with_reducible refine gate_callee (f := 68) rfl ?_); refine goesL_ (some 29) rfl rfl Try.func68 (by kernel_rfl) rfl #[.pointer (some ⟨g, 0, none⟩), .int .i64 6] rfl ze_ ?_; (refine (spec_l1Cur_pick.calls g s0_0 at_ mx_ 6 q29 a29 m29 w0 _ (lw_in HO.out 1 rfl HS_.out) HO.out.base HP29.out).mono ?_); rintro e w_1 ⟨rfl, hI, hB, hK⟩; refine ⟨_, rfl, ?_⟩; obtain ⟨vS_29, hS, ho⟩ := lw_out HO.out 1 rfl hI hB hK; have HS_29 := aM hS; have HO_1 := aM ho; clear hI hB hK hS ho) | ((with_reducible refine gate_callee (f := 63) rfl ?_); refine goesL_ (some 32) rfl rfl Try.func63 (by kernel_rfl) rfl #[.int .i64 1, .int .i64 q115] rfl ze_ ?_; (refine (spec_l1Most.calls 1 q115 q32 _ HP32.out).mono ?_); rintro e w_2 ⟨rfl, ⟨nd, hnd⟩⟩; refine ⟨_, rfl, ?_⟩; have HO_2 := aM (HO_1.out.drewN nd); rw [← hnd] at HO_2; clear hnd) | ((with_reducible refine gate_callee (f := 68) rfl ?_); refine goesL_ (some 33) rfl rfl Try.func68 (by kernel_rfl) rfl #[.pointer (some ⟨g, 0, none⟩), .int .i64 q32] rfl ze_ ?_; (refine (spec_l1Cur_pick.calls g s0_0 a29 m29 q32 q33 a33 m33 w0 _ (lw_in HO_2.out 1 rfl HS_29.out) HO_2.out.base HP33.out).mono ?_); rintro e w_3 ⟨rfl, hI, hB, hK⟩; refine ⟨_, rfl, ?_⟩; obtain ⟨vS_33, hS, ho⟩ := lw_out HO_2.out 1 rfl hI hB hK; have HS_33 := aM hS; have HO_3 := aM ho; clear hI hB hK hS ho) | ((with_reducible refine gate_dst (N := 34) rfl ?_); refine Sep.own_litN (Value.int .i64) (h1 := fun _ => rfl) HO_3.out 3 [q29, q33] 2 rfl [.int .i64 q29, .int .i64 q33] rfl (by decide) ?hg (N := 34) ?hd ?hr ?_; (case hd => rfl); (case hg => rfl); (case hr => exact zd_); intro x_34 w_4 ho _; obtain ⟨g_34, n_34, c_34, hn_, rfl⟩ := Sep.own_row_fseal ho 0 rfl (by simp); obtain rfl : n_34 = 2 := hn_; have HO_4 := aM ho; clear ho) | ((with_reducible refine gate_dst (N := 36) rfl ?_); at_builtin; refine Sep.own_append_row (Kd.int .i64) 3 HO_4.out 1 0 (by decide) _ (l) 39 rfl _ ([q29, q33]) rfl rfl (.tmp 27) (.tmp 35) 63 (.slice none 0 0) 24 rfl Try.underlying63 info39 rfl (by omega) rfl rfl (by have := HM.out; have := HN1.out; omega) ?_; intro x_36 w_6 ho; have HO_6 := aM ho; clear ho))
      obtain ⟨A_36, n_36, c_36, hn_, rfl⟩ := HO_6.out.rows_seal 1 rfl; have HN_36 := aM hn_; clear hn_
      go_roundg k1
      case measure => omega
      case rel => exact ⟨l ++ [[q29, q33]], a33, m33, vS_33, _, _, _, rfl, HL2, ⟨HN_36.out, by rw [List.length_append, List.length_singleton]; have := HM.out; omega, fun y hy => by rcases List.mem_append.mp hy with hy | hy; exact HM.out.2.2 y hy; rw [List.mem_singleton.mp hy]; rfl⟩, HS_33, ⟨(((HO_6.out.front 2 rfl).front 2 rfl).front 2 rfl).tail⟩⟩
 ·cases h
def spec_DrawAreLevelWires.f (l0 : List Int) : Option ((List (List Int)) × Int) := (spec_l1Cur_levelWires.f l0 0 0).bind fun bt244 => (some (bt244.1, bt244.2.1))
theorem spec_DrawAreLevelWires.calls (A0 : Option Addr) (c0 : Nat) (l0 : List Int) (r1 : List (List Int)) (r2 : Int) (w : World) (hr0 : Kd.C (Kd.int .u8) w A0 l0.length l0) (hc0 : l0.length ≤ c0) (h : spec_DrawAreLevelWires.f l0 = some (r1, r2)) :
  Calls Try.prog 89 #[.slice A0 l0.length c0] w fun e w' => ∃ v0_ : Value, e = .returned (.tuple #[v0_, .int .i64 r2]) ∧ Kd.S (Kd.slice 3 (Kd.int .i64)) 39 w' w.heap.size (fun _ => True) v0_ r1 ∧ Below w.heap.size w w' := by
 have hu86 := Try.underlying86
 have HR0 := aM hr0
 have HC0 := aM hc0
 clear hr0 hc0
 have HB := aM (Below.refl w.heap.size w)
 have H : ((spec_l1Cur_levelWires.f l0 0 0).bind fun bt244 => (some (bt244.1, bt244.2.1))) = some (r1, r2) := h
 clear h
 replace H := oB.mp H
 obtain ⟨⟨t244, t247, t248, t249⟩, A20, H⟩ := H
 replace H : (some (t244, t247)) = some (r1, r2) := H
 have A2 := aM A20
 clear A20
 simp only [Option.some.injEq, Prod.mk.injEq] at H
 obtain ⟨rfl, rfl⟩ := H
 go_enter Try.func89, Try.ntmps89
 go_wp2_with (first | ((with_reducible refine gate_dst (N := 7) rfl ?_); refine box_event ?hg (N := 7) ?hd (cs := #[.slice A0 l0.length c0, .int .i64 0, .int .u64 0]) (t := 86) ?hr ?_; (case hd => rfl); (case hg => rfl); (case hr => exact zd_); intro gb243 hg w3 hbox hb; have n_ := z (below_step zb_ hb) <| z ((by rw [hg]; exact (below_size zb_) : w.heap.size ≤ gb243)) <| z ((by rw [hg]; exact (below_size zb_) : w.heap.size ≤ gb243)) <| z1 ((⟨_, _, hbox, (by rw [hg]; exact (below_size zb_) : w.heap.size ≤ gb243), HR0.out⟩ : IsS86 w w3 gb243 l0 0 0)); clear HB; obtain ⟨HB, GW243, GE243, HI243⟩ := n_; clear hb hbox hg) | ((with_reducible refine gate_callee (f := 122) rfl ?_); refine goesL_ (some 9) rfl rfl Try.func122 (by kernel_rfl) rfl #[.pointer (some ⟨gb243, 0, none⟩)] rfl zf_ ?_; (with_reducible refine (spec_l1Cur_levelWires.calls gb243 l0 0 0 t244 t247 t248 t249 w _ ?side1 ?side2 A2.out).mono ?_); (case side1 => repeat (first | (with_reducible first | exact HI243.out | apply IsS86.alloc | apply IsS86.drewN | apply IsS86.drew | apply IsS86.set_1 | apply IsS86.set_2) | exact HI243.out)); (case side2 => exact zhi_); rintro e w4 ⟨v245, rfl, ho0, hi, hb, hk⟩; refine ⟨_, rfl, ?_⟩; have n_ := z (Kd.S_lower ho0 (below_size zhi_)) <| z (hb) <| z1 (hi); clear HB HI243; obtain ⟨HO246, HB, HI243⟩ := n_; clear hb hk hi; (try clear ho0)))
 go_ret2
 exact ⟨_, zh_, by refine zs ?_; exact HO246.out, zhi_⟩
def spec_DrawFewestCrossings.f (l0 : List Int) : Option ((List (List Int)) × Int) := (spec_DrawAreLevelWires.f l0).bind fun bt250 => (some (bt250.1, bt250.2))
theorem spec_DrawFewestCrossings.calls (A0 : Option Addr) (c0 : Nat) (l0 : List Int) (r1 : List (List Int)) (r2 : Int) (w : World) (hr0 : Kd.C (Kd.int .u8) w A0 l0.length l0) (hc0 : l0.length ≤ c0) (h : spec_DrawFewestCrossings.f l0 = some (r1, r2)) :
  Calls Try.prog 37 #[.slice A0 l0.length c0] w fun e w' => ∃ v0_ : Value, e = .returned (.tuple #[v0_, .int .i64 r2]) ∧ Kd.S (Kd.slice 3 (Kd.int .i64)) 39 w' w.heap.size (fun _ => True) v0_ r1 ∧ Below w.heap.size w w' := by
 have HR0 := aM hr0
 have HC0 := aM hc0
 clear hr0 hc0
 have HB := aM (Below.refl w.heap.size w)
 have H : ((spec_DrawAreLevelWires.f l0).bind fun bt250 => (some (bt250.1, bt250.2))) = some (r1, r2) := h
 clear h
 replace H := oB.mp H
 obtain ⟨⟨t250, t251⟩, A20, H⟩ := H
 replace H : (some (t250, t251)) = some (r1, r2) := H
 have A2 := aM A20
 clear A20
 simp only [Option.some.injEq, Prod.mk.injEq] at H
 obtain ⟨rfl, rfl⟩ := H
 go_enter Try.func37, Try.ntmps37
 go_wp2_with (first | ((with_reducible refine gate_callee (f := 89) rfl ?_); refine goesL_ (some 5) rfl rfl Try.func89 (by kernel_rfl) rfl #[.slice A0 l0.length c0] rfl zf_ ?_; (with_reducible refine (spec_DrawAreLevelWires.calls _ _ l0 t250 t251 _ ?side1 ?side2 A2.out).mono ?_); (case side1 => exact zi_); (case side2 => exact HC0.out); rintro e w3 ⟨v252, rfl, ho0, hb⟩; refine ⟨_, rfl, ?_⟩; have n_ := z (Kd.S_lower ho0 (below_size zb_)) <| z1 (below_step zb_ hb); clear HB; obtain ⟨HO253, HB⟩ := n_; clear hb; (try clear ho0)))
 go_ret2
 exact ⟨_, zh_, by refine zs ?_; exact HO253.out, zb_⟩
mutual
def impl_AreLevelWires.j0 : Nat → List (List Int) → Int → Bool → Option (Bool)
 | 0, _, _, _ => none
 | k + 1, x0, x1, x17 => if x17 = true then (some false) else (impl_AreLevelWires.l0 k x1 x0 (x0.length : Int) 0)
def impl_AreLevelWires.l0 : Nat → Int → List (List Int) → Int → Int → Option (Bool)
 | 0, _, _, _, _ => none
 | k + 1, x1, x18, x19, x20 => if x20 < x19 then (if 0 ≤ x20 then (if x20 < (x18.length : Int) then (if ((rd_L4 x18 x20).length : Int) = 2 then (if 0 < ((rd_L4 x18 x20).length : Int) then (if (rd (rd_L4 x18 x20) 0) < 0 then (some false) else (if (rd (rd_L4 x18 x20) 0) > 29 then (some false) else (if 1 < ((rd_L4 x18 x20).length : Int) then (if (rd (rd_L4 x18 x20) 1) < 0 then (some false) else (if (rd (rd_L4 x18 x20) 1) ≥ x1 then (some false) else (impl_AreLevelWires.l0 k x1 x18 x19 (wrap64 (x20 + 1))))) else (none)))) else (none)) else (some false)) else (none)) else (none)) else (some true)
end
def impl_AreLevelWires.f (k : Nat) (l0 : List (List Int)) (a1 : Int) : Option (Bool) := if a1 < 1 then (impl_AreLevelWires.j0 k l0 a1 true) else (if a1 > 7 then (impl_AreLevelWires.j0 k l0 a1 true) else (impl_AreLevelWires.j0 k l0 a1 (decide ((l0.length : Int) > 30))))
theorem impl_AreLevelWires.calls (k : Nat) (A0 : Option Addr) (c0 : Nat) (l0 : List (List Int)) (a1 : Int) (r : Bool) (w : World) (hr0 : Kd.C (Kd.slice 3 (Kd.int .i64)) w A0 l0.length l0) (hc0 : l0.length ≤ c0) (h : impl_AreLevelWires.f k l0 a1 = some r) :
  Calls Try.prog 48 #[.slice A0 l0.length c0, .int .i64 a1] w fun e w' => e = .returned (.bool r) ∧ Drawn0 w w' := by
 have HR0 := aM hr0
 have HC0 := aM hc0
 clear hr0 hc0
 have H : (if a1 < 1 then (impl_AreLevelWires.j0 k l0 a1 true) else (if a1 > 7 then (impl_AreLevelWires.j0 k l0 a1 true) else (impl_AreLevelWires.j0 k l0 a1 (decide ((l0.length : Int) > 30))))) = some r := h
 clear h
 have HC3 := aM H
 clear H
 go_enter Try.func48, Try.ntmps48
 go_upto_region 1 with (fail)
 go_cut [17] (fun v17 wc => ∃ (kq : Nat) (x17_2 : Bool), v17 = .bool x17_2 ∧ Aside0 (impl_AreLevelWires.j0 kq l0 a1 x17_2 = some r) ∧ Aside0 (kq ≤ k) ∧ Drawn0 w wc)
 case first =>
  have H := HC3.out; clear HC3
  by_cases c4 : a1 < 1
  ·rw [if_pos c4] at H
   have c4b0 := decide_eq_true c4; clear c4; (first | rw [c4b0] | (simp only [i64_w, i32_w]; rw [c4b0]) | skip); have H' := aM H; clear H
   go_wp2
   go_meet
   case rel => exact ⟨_, (true), zc_, H', ⟨zdb_⟩, zg_⟩
  ·rw [if_neg c4] at H
   have c4b0 := decide_eq_false c4; clear c4; (first | rw [c4b0] | (simp only [i64_w, i32_w]; rw [c4b0]) | skip)
   by_cases c5 : a1 > 7
   ·rw [if_pos c5] at H
    have c5b0 : decide (7 < a1) = true := decide_eq_true c5; clear c5; have H' := aM H; clear H
    go_wp2
    go_meet
    case rel => exact ⟨_, (true), zc_, H', ⟨zdb_⟩, zg_⟩
   ·rw [if_neg c5] at H
    have c5b0 : decide (7 < a1) = false := decide_eq_false c5; clear c5; have H' := aM H; clear H
    go_wp2
    go_meet
    case rel => exact ⟨_, (decide ((l0.length : Int) > 30)), zc_, H', ⟨zdb_⟩, zg_⟩
 case rest =>
  clear HC3; obtain ⟨kq, x17_2, rfl, HA, HJ2, ⟨mc2, rfl⟩⟩ := hcut
  cases kq with
  | zero => exact absurd HA.out (by simp [impl_AreLevelWires.j0])
  | succ kj2 =>
   have H := HA.out; clear HA
   simp only [impl_AreLevelWires.j0] at H
   by_cases c6 : x17_2 = true
   ·subst c6
    have H1 : (some false) = some r := by rw [if_pos rfl] at H; exact H
    clear H; have H := H1; clear H1; obtain rfl := Option.some.inj H
    go_wp2
    go_ret
    exact ⟨zc_, zg_⟩
   ·replace c6 := Bool.eq_false_iff.mpr c6
    subst c6; have H1 : (impl_AreLevelWires.l0 kj2 a1 l0 (l0.length : Int) 0) = some r := by rw [if_neg (show ¬ (false = true) by decide)] at H; exact H
    clear H; have H := H1; clear H1; have H' := aM H; clear H
    go_wp2
    go_loopg [20] kj2 (fun kq v20 w' => ∃ (x20_2 : Int), v20 = .int .i64 x20_2 ∧ Aside0 (impl_AreLevelWires.l0 kq a1 l0 (l0.length : Int) x20_2 = some r) ∧ Aside0 (kq ≤ kj2) ∧ Drawn0 w w')
    case atStart => exact ⟨(0), zc_, H', ⟨Nat.le_refl _⟩, zg_⟩
    case round =>
     clear H'; obtain ⟨x20_2, rfl, HA, HK2, ⟨m2, rfl⟩⟩ := hrel
     cases gk with
     | zero => exact absurd HA.out (by simp [impl_AreLevelWires.l0])
     | succ k2 =>
      have H := HA.out; clear HA
      simp only [impl_AreLevelWires.l0] at H
      by_cases c7 : x20_2 < (l0.length : Int)
      ·rw [if_pos c7] at H
       have c7b0 := decide_eq_true c7; clear c7
       by_cases c8 : 0 ≤ x20_2
       ·rw [if_pos c8] at H
        have c8b0 := decide_eq_true c8; clear c8
        by_cases c9 : x20_2 < (l0.length : Int)
        ·rw [if_pos c9] at H
         have c9b0 := decide_eq_true c9; clear c9
         by_cases c10 : ((rd_L4 l0 x20_2).length : Int) = 2
         ·rw [if_pos c10] at H
          have c10b0 := beq_iff_eq.mpr c10; have c10b1 := bne_eq_false_iff_eq.mpr c10; clear c10
          by_cases c11 : 0 < ((rd_L4 l0 x20_2).length : Int)
          ·rw [if_pos c11] at H
           have c11b0 := decide_eq_true c11; have c11b1 : decide (0 < (rd_L4 l0 x20_2).length) = true := decide_eq_true (by omega); clear c11
           by_cases c12 : (rd (rd_L4 l0 x20_2) 0) < 0
           ·rw [if_pos c12] at H
            have c12b0 := decide_eq_true c12; clear c12; obtain rfl := Option.some.inj H; have p254 : 0 ≤ (x20_2 : Int) := of_decide_eq_true za_; have q254 : x20_2 < (l0.length : Int) := of_decide_eq_true za_; obtain ⟨ad254, A254_0, c254_0, e254, hx254_0, hl254_0, hi254_0⟩ := at_L4 HR0.out x20_2 p254 q254
            cases e254
            have HR254_0 := aM hi254_0; have HC254_0 := aM hl254_0; clear hi254_0 hl254_0; replace p254 := eq_true p254; replace q254 := eq_true q254; have p255 : 0 ≤ (0 : Int) := (by omega); have q255 : 0 < ((rd_L4 l0 x20_2).length : Int) := of_decide_eq_true za_; obtain ⟨ad255, e255, hx255_0⟩ := Kd.at_int HR254_0.out 0 p255 q255
            cases e255
            have qi255 : (0 < (rd_L4 l0 x20_2).length) = True := eq_true (by omega); (try rw [show ((0 : Int)).toNat = 0 from rfl] at hx255_0); (try rw [Addr.add_zero'] at hx255_0); replace p255 := eq_true p255; replace q255 := eq_true q255
            go_wp2
            go_ret
            exact ⟨zc_, zg_⟩
           ·rw [if_neg c12] at H
            have c12b0 := decide_eq_false c12; clear c12
            by_cases c13 : (rd (rd_L4 l0 x20_2) 0) > 29
            ·rw [if_pos c13] at H
             have c13b0 : decide (29 < (rd (rd_L4 l0 x20_2) 0)) = true := decide_eq_true c13; clear c13; obtain rfl := Option.some.inj H; have p254 : 0 ≤ (x20_2 : Int) := of_decide_eq_true za_; have q254 : x20_2 < (l0.length : Int) := of_decide_eq_true za_; obtain ⟨ad254, A254_0, c254_0, e254, hx254_0, hl254_0, hi254_0⟩ := at_L4 HR0.out x20_2 p254 q254
             cases e254
             have HR254_0 := aM hi254_0; have HC254_0 := aM hl254_0; clear hi254_0 hl254_0; replace p254 := eq_true p254; replace q254 := eq_true q254; have p255 : 0 ≤ (0 : Int) := (by omega); have q255 : 0 < ((rd_L4 l0 x20_2).length : Int) := of_decide_eq_true za_; obtain ⟨ad255, e255, hx255_0⟩ := Kd.at_int HR254_0.out 0 p255 q255
             cases e255
             have qi255 : (0 < (rd_L4 l0 x20_2).length) = True := eq_true (by omega); (try rw [show ((0 : Int)).toNat = 0 from rfl] at hx255_0); (try rw [Addr.add_zero'] at hx255_0); replace p255 := eq_true p255; replace q255 := eq_true q255; have p256 : 0 ≤ (0 : Int) := (by omega); have q256 : 0 < ((rd_L4 l0 x20_2).length : Int) := of_decide_eq_true za_; obtain ⟨ad256, e256, hx256_0⟩ := Kd.at_int HR254_0.out 0 p256 q256; obtain rfl : ad255 = ad256 := (by injection e256); have qi256 : (0 < (rd_L4 l0 x20_2).length) = True := eq_true (by omega); (try rw [show ((0 : Int)).toNat = 0 from rfl] at hx256_0); (try rw [Addr.add_zero'] at hx256_0); replace p256 := eq_true p256; replace q256 := eq_true q256
             go_wp2
             go_ret
             exact ⟨zc_, zg_⟩
            ·rw [if_neg c13] at H
             have c13b0 : decide (29 < (rd (rd_L4 l0 x20_2) 0)) = false := decide_eq_false c13; clear c13
             by_cases c14 : 1 < ((rd_L4 l0 x20_2).length : Int)
             ·rw [if_pos c14] at H
              have c14b0 := decide_eq_true c14; have c14b1 : decide (1 < (rd_L4 l0 x20_2).length) = true := decide_eq_true (by omega); clear c14
              by_cases c15 : (rd (rd_L4 l0 x20_2) 1) < 0
              ·rw [if_pos c15] at H
               have c15b0 := decide_eq_true c15; clear c15; obtain rfl := Option.some.inj H; have p254 : 0 ≤ (x20_2 : Int) := of_decide_eq_true za_; have q254 : x20_2 < (l0.length : Int) := of_decide_eq_true za_; obtain ⟨ad254, A254_0, c254_0, e254, hx254_0, hl254_0, hi254_0⟩ := at_L4 HR0.out x20_2 p254 q254
               cases e254
               have HR254_0 := aM hi254_0; have HC254_0 := aM hl254_0; clear hi254_0 hl254_0; replace p254 := eq_true p254; replace q254 := eq_true q254; have p255 : 0 ≤ (0 : Int) := (by omega); have q255 : 0 < ((rd_L4 l0 x20_2).length : Int) := of_decide_eq_true za_; obtain ⟨ad255, e255, hx255_0⟩ := Kd.at_int HR254_0.out 0 p255 q255
               cases e255
               have qi255 : (0 < (rd_L4 l0 x20_2).length) = True := eq_true (by omega); (try rw [show ((0 : Int)).toNat = 0 from rfl] at hx255_0); (try rw [Addr.add_zero'] at hx255_0); replace p255 := eq_true p255; replace q255 := eq_true q255; have p256 : 0 ≤ (0 : Int) := (by omega); have q256 : 0 < ((rd_L4 l0 x20_2).length : Int) := of_decide_eq_true za_; obtain ⟨ad256, e256, hx256_0⟩ := Kd.at_int HR254_0.out 0 p256 q256; obtain rfl : ad255 = ad256 := (by injection e256); have qi256 : (0 < (rd_L4 l0 x20_2).length) = True := eq_true (by omega); (try rw [show ((0 : Int)).toNat = 0 from rfl] at hx256_0); (try rw [Addr.add_zero'] at hx256_0); replace p256 := eq_true p256; replace q256 := eq_true q256; have p257 : 0 ≤ (1 : Int) := (by omega); have q257 : 1 < ((rd_L4 l0 x20_2).length : Int) := of_decide_eq_true za_; obtain ⟨ad257, e257, hx257_0⟩ := Kd.at_int HR254_0.out 1 p257 q257; obtain rfl : ad255 = ad257 := (by injection e257); (try simp only [show (1 : Int).toNat = 1 from rfl, Nat.reduceMul, Nat.reduceEqDiff, Go.Addr.add, ↓reduceIte] at hx257_0); have qi257 : (1 < (rd_L4 l0 x20_2).length) = True := eq_true (by omega); (try rw [show ((1 : Int)).toNat = 1 from rfl] at hx257_0); replace p257 := eq_true p257; replace q257 := eq_true q257
               go_wp2
               go_ret
               exact ⟨zc_, zg_⟩
              ·rw [if_neg c15] at H
               have c15b0 := decide_eq_false c15; clear c15
               by_cases c16 : (rd (rd_L4 l0 x20_2) 1) ≥ a1
               ·rw [if_pos c16] at H
                have c16b0 : decide (a1 ≤ (rd (rd_L4 l0 x20_2) 1)) = true := decide_eq_true c16; clear c16; obtain rfl := Option.some.inj H; have p254 : 0 ≤ (x20_2 : Int) := of_decide_eq_true za_; have q254 : x20_2 < (l0.length : Int) := of_decide_eq_true za_; obtain ⟨ad254, A254_0, c254_0, e254, hx254_0, hl254_0, hi254_0⟩ := at_L4 HR0.out x20_2 p254 q254
                cases e254
                have HR254_0 := aM hi254_0; have HC254_0 := aM hl254_0; clear hi254_0 hl254_0; replace p254 := eq_true p254; replace q254 := eq_true q254; have p255 : 0 ≤ (0 : Int) := (by omega); have q255 : 0 < ((rd_L4 l0 x20_2).length : Int) := of_decide_eq_true za_; obtain ⟨ad255, e255, hx255_0⟩ := Kd.at_int HR254_0.out 0 p255 q255
                cases e255
                have qi255 : (0 < (rd_L4 l0 x20_2).length) = True := eq_true (by omega); (try rw [show ((0 : Int)).toNat = 0 from rfl] at hx255_0); (try rw [Addr.add_zero'] at hx255_0); replace p255 := eq_true p255; replace q255 := eq_true q255; have p256 : 0 ≤ (0 : Int) := (by omega); have q256 : 0 < ((rd_L4 l0 x20_2).length : Int) := of_decide_eq_true za_; obtain ⟨ad256, e256, hx256_0⟩ := Kd.at_int HR254_0.out 0 p256 q256; obtain rfl : ad255 = ad256 := (by injection e256); have qi256 : (0 < (rd_L4 l0 x20_2).length) = True := eq_true (by omega); (try rw [show ((0 : Int)).toNat = 0 from rfl] at hx256_0); (try rw [Addr.add_zero'] at hx256_0); replace p256 := eq_true p256; replace q256 := eq_true q256; have p257 : 0 ≤ (1 : Int) := (by omega); have q257 : 1 < ((rd_L4 l0 x20_2).length : Int) := of_decide_eq_true za_; obtain ⟨ad257, e257, hx257_0⟩ := Kd.at_int HR254_0.out 1 p257 q257; obtain rfl : ad255 = ad257 := (by injection e257); (try simp only [show (1 : Int).toNat = 1 from rfl, Nat.reduceMul, Nat.reduceEqDiff, Go.Addr.add, ↓reduceIte] at hx257_0); have qi257 : (1 < (rd_L4 l0 x20_2).length) = True := eq_true (by omega); (try rw [show ((1 : Int)).toNat = 1 from rfl] at hx257_0); replace p257 := eq_true p257; replace q257 := eq_true q257; have p258 : 0 ≤ (1 : Int) := (by omega); have q258 : 1 < ((rd_L4 l0 x20_2).length : Int) := of_decide_eq_true za_; obtain ⟨ad258, e258, hx258_0⟩ := Kd.at_int HR254_0.out 1 p258 q258; obtain rfl : ad255 = ad258 := (by injection e258); (try simp only [show (1 : Int).toNat = 1 from rfl, Nat.reduceMul, Nat.reduceEqDiff, Go.Addr.add, ↓reduceIte] at hx258_0); have qi258 : (1 < (rd_L4 l0 x20_2).length) = True := eq_true (by omega); (try rw [show ((1 : Int)).toNat = 1 from rfl] at hx258_0); replace p258 := eq_true p258; replace q258 := eq_true q258
                go_wp2
                go_ret
                exact ⟨zc_, zg_⟩
               ·rw [if_neg c16] at H
                have c16b0 : decide (a1 ≤ (rd (rd_L4 l0 x20_2) 1)) = false := decide_eq_false c16; clear c16; have H' := aM H; clear H; have p254 : 0 ≤ (x20_2 : Int) := of_decide_eq_true za_; have q254 : x20_2 < (l0.length : Int) := of_decide_eq_true za_; obtain ⟨ad254, A254_0, c254_0, e254, hx254_0, hl254_0, hi254_0⟩ := at_L4 HR0.out x20_2 p254 q254
                cases e254
                have HR254_0 := aM hi254_0; have HC254_0 := aM hl254_0; clear hi254_0 hl254_0; replace p254 := eq_true p254; replace q254 := eq_true q254; have p255 : 0 ≤ (0 : Int) := (by omega); have q255 : 0 < ((rd_L4 l0 x20_2).length : Int) := of_decide_eq_true za_; obtain ⟨ad255, e255, hx255_0⟩ := Kd.at_int HR254_0.out 0 p255 q255
                cases e255
                have qi255 : (0 < (rd_L4 l0 x20_2).length) = True := eq_true (by omega); (try rw [show ((0 : Int)).toNat = 0 from rfl] at hx255_0); (try rw [Addr.add_zero'] at hx255_0); replace p255 := eq_true p255; replace q255 := eq_true q255; have p256 : 0 ≤ (0 : Int) := (by omega); have q256 : 0 < ((rd_L4 l0 x20_2).length : Int) := of_decide_eq_true za_; obtain ⟨ad256, e256, hx256_0⟩ := Kd.at_int HR254_0.out 0 p256 q256; obtain rfl : ad255 = ad256 := (by injection e256); have qi256 : (0 < (rd_L4 l0 x20_2).length) = True := eq_true (by omega); (try rw [show ((0 : Int)).toNat = 0 from rfl] at hx256_0); (try rw [Addr.add_zero'] at hx256_0); replace p256 := eq_true p256; replace q256 := eq_true q256; have p257 : 0 ≤ (1 : Int) := (by omega); have q257 : 1 < ((rd_L4 l0 x20_2).length : Int) := of_decide_eq_true za_; obtain ⟨ad257, e257, hx257_0⟩ := Kd.at_int HR254_0.out 1 p257 q257; obtain rfl : ad255 = ad257 := (by injection e257); (try simp only [show (1 : Int).toNat = 1 from rfl, Nat.reduceMul, Nat.reduceEqDiff, Go.Addr.add, ↓reduceIte] at hx257_0); have qi257 : (1 < (rd_L4 l0 x20_2).length) = True := eq_true (by omega); (try rw [show ((1 : Int)).toNat = 1 from rfl] at hx257_0); replace p257 := eq_true p257; replace q257 := eq_true q257; have p258 : 0 ≤ (1 : Int) := (by omega); have q258 : 1 < ((rd_L4 l0 x20_2).length : Int) := of_decide_eq_true za_; obtain ⟨ad258, e258, hx258_0⟩ := Kd.at_int HR254_0.out 1 p258 q258; obtain rfl : ad255 = ad258 := (by injection e258); (try simp only [show (1 : Int).toNat = 1 from rfl, Nat.reduceMul, Nat.reduceEqDiff, Go.Addr.add, ↓reduceIte] at hx258_0); have qi258 : (1 < (rd_L4 l0 x20_2).length) = True := eq_true (by omega); (try rw [show ((1 : Int)).toNat = 1 from rfl] at hx258_0); replace p258 := eq_true p258; replace q258 := eq_true q258
                go_wp2
                go_roundg k2
                case measure => have := HJ2.out; have := HK2.out; omega
                case rel => exact ⟨(wrap64 (x20_2 + 1)), zc_, H', ⟨by have := HJ2.out; have := HK2.out; omega⟩, zg_⟩
             ·rw [if_neg c14] at H
              exact q3n_ H
          ·rw [if_neg c11] at H
           exact q3n_ H
         ·rw [if_neg c10] at H
          have c10b0 := beq_eq_false_iff_ne.mpr c10; have c10b1 := bne_iff_ne.mpr c10; obtain rfl := Option.some.inj H; have p254 : 0 ≤ (x20_2 : Int) := of_decide_eq_true za_; have q254 : x20_2 < (l0.length : Int) := of_decide_eq_true za_; obtain ⟨ad254, A254_0, c254_0, e254, hx254_0, hl254_0, hi254_0⟩ := at_L4 HR0.out x20_2 p254 q254
          cases e254
          have HR254_0 := aM hi254_0; have HC254_0 := aM hl254_0; clear hi254_0 hl254_0; replace p254 := eq_true p254; replace q254 := eq_true q254
          go_wp2
          go_ret
          exact ⟨zc_, zg_⟩
        ·rw [if_neg c9] at H
         exact q3n_ H
       ·rw [if_neg c8] at H
        exact q3n_ H
      ·rw [if_neg c7] at H
       have c7b0 := decide_eq_false c7; clear c7; obtain rfl := Option.some.inj H
       go_wp2
       go_ret
       exact ⟨zc_, zg_⟩
def slices_Index_int_int.l0 : Nat → List Int → Int → Int → Int → Option (Int)
 | 0, _, _, _, _ => none
 | k + 1, x0, x1, x7, x8 => if x8 < x7 then (if 0 ≤ x8 then (if x8 < (x0.length : Int) then (if x1 = (rd x0 x8) then (some x8) else (slices_Index_int_int.l0 k x0 x1 x7 (wrap64 (x8 + 1)))) else (none)) else (none)) else (some (-1))
def slices_Index_int_int.f (k : Nat) (l0 : List Int) (a1 : Int) : Option (Int) := slices_Index_int_int.l0 k l0 a1 (l0.length : Int) 0
theorem slices_Index_int_int.calls (k : Nat) (A0 : Option Addr) (c0 : Nat) (l0 : List Int) (a1 : Int) (r : Int) (w : World) (hr0 : Kd.C (Kd.int .i64) w A0 l0.length l0) (hc0 : l0.length ≤ c0) (h : slices_Index_int_int.f k l0 a1 = some r) :
  Calls Try.prog 127 #[.slice A0 l0.length c0, .int .i64 a1] w fun e w' => e = .returned (.int .i64 r) ∧ Drawn0 w w' := by
 have HR0 := aM hr0
 have HC0 := aM hc0
 clear hr0 hc0
 have H : (slices_Index_int_int.l0 k l0 a1 (l0.length : Int) 0) = some r := h
 clear h
 have H' := aM H
 clear H
 go_enter Try.func127, Try.ntmps127
 go_wp2
 go_loopg [8] k (fun kq v8 w' => ∃ (x8_1 : Int), v8 = .int .i64 x8_1 ∧ Aside0 (slices_Index_int_int.l0 kq l0 a1 (l0.length : Int) x8_1 = some r) ∧ Aside0 (kq ≤ k) ∧ Drawn0 w w')
 case atStart => exact ⟨(0), zc_, H', ⟨Nat.le_refl _⟩, zg_⟩
 case round =>
  clear H'; obtain ⟨x8_1, rfl, HA, HK1, ⟨m1, rfl⟩⟩ := hrel
  cases gk with
  | zero => exact absurd HA.out (by simp [slices_Index_int_int.l0])
  | succ k1 =>
   have H := HA.out; clear HA
   simp only [slices_Index_int_int.l0] at H
   by_cases c3 : x8_1 < (l0.length : Int)
   ·rw [if_pos c3] at H
    have c3b0 := decide_eq_true c3; clear c3
    by_cases c4 : 0 ≤ x8_1
    ·rw [if_pos c4] at H
     have c4b0 := decide_eq_true c4; clear c4
     by_cases c5 : x8_1 < (l0.length : Int)
     ·rw [if_pos c5] at H
      have c5b0 := decide_eq_true c5; clear c5
      by_cases c6 : a1 = (rd l0 x8_1)
      ·rw [if_pos c6] at H
       have c6b0 := beq_iff_eq.mpr c6; have c6b1 := bne_eq_false_iff_eq.mpr c6; clear c6; obtain rfl := Option.some.inj H; have p259 : 0 ≤ (x8_1 : Int) := of_decide_eq_true za_; have q259 : x8_1 < (l0.length : Int) := of_decide_eq_true za_; obtain ⟨ad259, e259, hx259_0⟩ := Kd.at_int HR0.out x8_1 p259 q259
       cases e259
       replace p259 := eq_true p259; replace q259 := eq_true q259
       go_wp2
       go_ret
       exact ⟨zc_, zg_⟩
      ·rw [if_neg c6] at H
       have c6b0 := beq_eq_false_iff_ne.mpr c6; have c6b1 := bne_iff_ne.mpr c6; have H' := aM H; clear H; have p259 : 0 ≤ (x8_1 : Int) := of_decide_eq_true za_; have q259 : x8_1 < (l0.length : Int) := of_decide_eq_true za_; obtain ⟨ad259, e259, hx259_0⟩ := Kd.at_int HR0.out x8_1 p259 q259
       cases e259
       replace p259 := eq_true p259; replace q259 := eq_true q259
       go_wp2
       go_roundg k1
       case measure => have := HK1.out; omega
       case rel => exact ⟨(wrap64 (x8_1 + 1)), zc_, H', ⟨zbe_⟩, zg_⟩
     ·rw [if_neg c5] at H
      exact q3n_ H
    ·rw [if_neg c4] at H
     exact q3n_ H
   ·rw [if_neg c3] at H
    have c3b0 := decide_eq_false c3; clear c3; obtain rfl := Option.some.inj H
    go_wp2
    go_ret
    exact ⟨zc_, zg_⟩
def slices_Contains_int_int.f (k : Nat) (l0 : List Int) (a1 : Int) : Option (Bool) := (slices_Index_int_int.f k l0 a1).bind fun t260 => (some (decide (t260 ≥ 0)))
theorem slices_Contains_int_int.calls (k : Nat) (A0 : Option Addr) (c0 : Nat) (l0 : List Int) (a1 : Int) (r : Bool) (w : World) (hr0 : Kd.C (Kd.int .i64) w A0 l0.length l0) (hc0 : l0.length ≤ c0) (h : slices_Contains_int_int.f k l0 a1 = some r) :
  Calls Try.prog 118 #[.slice A0 l0.length c0, .int .i64 a1] w fun e w' => e = .returned (.bool r) ∧ Drawn0 w w' := by
 have HR0 := aM hr0
 have HC0 := aM hc0
 clear hr0 hc0
 have H : ((slices_Index_int_int.f k l0 a1).bind fun t260 => (some (decide (t260 ≥ 0)))) = some r := h
 clear h
 replace H := oB.mp H
 obtain ⟨t260, A30, H⟩ := H
 replace H : (some (decide (t260 ≥ 0))) = some r := H
 have A3 := aM A30
 clear A30
 obtain rfl := Option.some.inj H
 go_enter Try.func118, Try.ntmps118
 go_wp2_with (first | ((with_reducible refine gate_callee (f := 127) rfl ?_); refine goesL_ (some 7) rfl rfl Try.func127 (by kernel_rfl) rfl #[.slice A0 l0.length c0, .int .i64 a1] rfl zf_ ?_; (with_reducible refine (slices_Index_int_int.calls k _ _ l0 a1 t260 _ ?side1 ?side2 A3.out).mono ?_); (case side1 => exact zi_); (case side2 => exact HC0.out); rintro e w' ⟨rfl, ⟨nd, rfl⟩⟩; refine ⟨_, rfl, ?_⟩))
 go_ret
 exact ⟨zc_, zg_⟩
end Go.Proofs.Ytlnhpkjioppbiaa.QFnLevels
