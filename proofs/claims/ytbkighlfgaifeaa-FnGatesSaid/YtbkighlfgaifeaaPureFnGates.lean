/- The pure part of the law FnGates: what the program and the reference compute is the same, for all arguments. Conditions: the numbers are of Go's int, the lengths of slices are. -/
import Derived.Test.YtbkighlfgaifeaaSFnGatesx16
import Derived.Test.YtbkighlfgaifeaaVGaKit
set_option linter.unusedVariables false
set_option linter.unusedSimpArgs false
namespace Go.Proofs.Ytbkighlfgaifeaa.Pure
open Go.RowKit Go.Proofs.Ytbkighlfgaifeaa.QFnGates Go.Proofs.YtbkighlfgaifeaaW.PrintWords Go.Proofs.YtbkighlfgaifeaaW.PrintLast Go.Proofs.Ytbkighlfgaifeaa.Open Go.Proofs.Ytbkighlfgaifeaa.Kit
theorem rd_mem {ds : List Int} {i : Int} (h0 : 0 ≤ i) (h1 : i < ds.length) : rd ds i ∈ ds := by
 obtain ⟨n, rfl⟩ := nat_of h0
 have hn : n < ds.length := by omega
 rw [rdN hn]
 exact List.getElem_mem hn
def bytesOk (code : List Int) : Prop := code.length ≤ 140737488355328 ∧ ∀ x ∈ code, 0 ≤ x ∧ x ≤ 255
theorem bits255 (y : Int) : 0 ≤ wrap64 (Go.bits .and .u64 y 255) ∧ wrap64 (Go.bits .and .u64 y 255) ≤ 255 := by
 show 0 ≤ wrap64 (IntKind.u64.wrap ((BitVec.ofInt 64 y &&& BitVec.ofInt 64 255).toNat : Int)) ∧ wrap64 (IntKind.u64.wrap ((BitVec.ofInt 64 y &&& BitVec.ofInt 64 255).toNat : Int)) ≤ 255
 have h : (BitVec.ofInt 64 y &&& BitVec.ofInt 64 255).toNat ≤ 255 := by
  rw [BitVec.toNat_and]
  exact Nat.le_trans Nat.and_le_right (by decide)
 generalize (BitVec.ofInt 64 y &&& BitVec.ofInt 64 255).toNat = m at h
 rw [u64w (by omega) (by omega), w64 (n := (m : Int)) (by omega) (by omega)]
 omega
theorem next_ok {code : List Int} (hc : bytesOk code) (at_ mix : Int) (h0 : 0 ≤ at_) (h1 : at_ ≤ 4000000000000000000) : ∃ r m, spec_l1Cur_next.f code at_ mix = some (r, at_ + 1, m) ∧ 0 ≤ r ∧ r ≤ 255 := by
 unfold spec_l1Cur_next.f
 rw [w64 (n := at_ + 1) (by omega) (by omega)]
 by_cases c1 : at_ < (code.length : Int)
 ·have hm := hc.2 (rd code at_) (rd_mem h0 c1)
  rw [if_pos c1, if_pos h0, if_pos (by omega), w64 (n := rd code at_) (by omega) (by omega)]
  exact ⟨_, _, rfl, hm.1, hm.2⟩
 ·rw [if_neg c1, if_neg (by omega)]
  exact ⟨_, _, rfl, (bits255 _).1, (bits255 _).2⟩
theorem pick_ok {code : List Int} (hc : bytesOk code) (at_ mix n : Int) (h0 : 0 ≤ at_) (h1 : at_ ≤ 3999999999999999990) : ∃ r a m, spec_l1Cur_pick.f code at_ mix n = some (r, a, m) ∧ (at_ ≤ a ∧ a ≤ at_ + 2) ∧ 0 ≤ r ∧ (r = 0 ∨ r < n) := by
 unfold spec_l1Cur_pick.f
 by_cases c : n ≤ 1
 ·rw [if_pos c]
  exact ⟨0, at_, mix, rfl, by omega, by omega, .inl rfl⟩
 ·rw [if_neg c]
  obtain ⟨r, m, e, hr0, hr1⟩ := next_ok hc at_ mix h0 (by omega)
  rw [e, Option.bind_some]
  by_cases c2 : n > 200
  ·obtain ⟨r2, m2, e2, hs0, hs1⟩ := next_ok hc (at_ + 1) m (by omega) (by omega)
   rw [if_pos c2, e2, Option.bind_some, if_neg (by omega)]
   dsimp only
   rw [w64 (n := r * 256) (by omega) (by omega), w64 (n := r * 256 + r2) (by omega) (by omega)]
   exact ⟨_, _, _, rfl, by omega, Int.tmod_nonneg _ (by omega), .inr (Int.tmod_lt_of_pos _ (by omega))⟩
  ·rw [if_neg c2, if_neg (by omega)]
   dsimp only
   exact ⟨_, _, _, rfl, by omega, Int.tmod_nonneg _ (by omega), .inr (Int.tmod_lt_of_pos _ (by omega))⟩
theorem among_ok {code : List Int} (hc : bytesOk code) (at_ mix : Int) (l : List Int) (hl : 0 < l.length) (h0 : 0 ≤ at_) (h1 : at_ ≤ 3999999999999999990) : ∃ r a m, spec_l1Cur_among.f code at_ mix l = some (r, a, m) ∧ (at_ ≤ a ∧ a ≤ at_ + 2) ∧ r ∈ l := by
 unfold spec_l1Cur_among.f
 obtain ⟨r, a, m, e, ha, hr0, hr1⟩ := pick_ok hc at_ mix (l.length : Int) h0 h1
 have hr2 : r < (l.length : Int) := by omega
 rw [e, Option.bind_some]
 dsimp only
 rw [if_pos hr0, if_pos hr2]
 exact ⟨_, _, _, rfl, ha, rd_mem hr0 hr2⟩
theorem one_ok {code : List Int} (hc : bytesOk code) (at_ mix n : Int) (h0 : 0 ≤ at_) (h1 : at_ ≤ 3999999999999999990) : ∃ r a m, spec_l1Cur_one.f code at_ mix n = some (r, a, m) ∧ (at_ ≤ a ∧ a ≤ at_ + 2) := by
 unfold spec_l1Cur_one.f
 obtain ⟨r, a, m, e, ha, _⟩ := pick_ok hc at_ mix n h0 h1
 rw [e, Option.bind_some]
 exact ⟨_, _, _, rfl, ha⟩
theorem bytes_of {l : List Int} (h1 : l.length * 1 ≤ 140737488351232) (h2 : ∀ x ∈ l, (Lit.int .u8 x).wf = true) : bytesOk l := by
 refine ⟨by omega, fun x hx => ?_⟩
 have := h2 x hx
 simp [Lit.wf, IntKind.min, IntKind.max, IntKind.bits, IntKind.signed] at this
 omega
theorem rdGateA {p r : List S57} {x : S57} {i : Int} (hi : i = p.length) : rd_T57 (p ++ x :: r) i = x := getDA hi
theorem zz9 {code : List Int} (hc : bytesOk code) (inp : Int) : ∀ (d : Nat) (l : List S57) (a m : Int), 0 ≤ a → a + 6 * d ≤ 1000000000 → ∃ l' a' m', ciGates code inp d l a m = some (l', a', m') ∧ (a ≤ a' ∧ a' ≤ a + 6 * d) ∧ l'.length = l.length + d := by
 intro d
 induction d with
 | zero => intro l a m h0 _; exact ⟨l, a, m, rfl, by omega, by omega⟩
 | succ d ih =>
  intro l a m h0 h1
  rw [ciGates]
  obtain ⟨x, a1, m1, e1, ha1, _⟩ := pick_ok hc a m 4 h0 (by omega)
  rw [e1, Option.bind_some]
  dsimp only
  obtain ⟨y, a2, m2, e2, ha2, _⟩ := pick_ok hc a1 m1 (wrap64 (inp + (l.length : Int))) (by omega) (by omega)
  rw [e2, Option.bind_some]
  dsimp only
  obtain ⟨z, a3, m3, e3, ha3, _⟩ := pick_ok hc a2 m2 (wrap64 (inp + (l.length : Int))) (by omega) (by omega)
  rw [e3, Option.bind_some]
  dsimp only
  obtain ⟨l', a', m', e, ha, hl⟩ := ih (l ++ [(⟨wrap64 (1 + x), y, if wrap64 (1 + x) = 4 then y else z⟩ : S57)]) a3 m3 (by omega) (by omega)
  exact ⟨l', a', m', e, by omega, by rw [hl, List.length_append, List.length_singleton]; omega⟩
theorem zz10 {code : List Int} (hc : bytesOk code) (inp n : Int) : ∀ (d : Nat) (l : List Int) (a m : Int), 0 ≤ a → a + 6 * d ≤ 1000000000 → ∃ l' a' m', ciOuts code inp n d l a m = some (l', a', m') ∧ (a ≤ a' ∧ a' ≤ a + 6 * d) ∧ l'.length = l.length + d := by
 intro d
 induction d with
 | zero => intro l a m h0 _; exact ⟨l, a, m, rfl, by omega, by omega⟩
 | succ d ih =>
  intro l a m h0 h1
  rw [ciOuts]
  obtain ⟨y, a1, m1, e1, ha1, _⟩ := pick_ok hc a m (wrap64 (inp + n)) h0 (by omega)
  rw [e1, Option.bind_some]
  dsimp only
  obtain ⟨z, a2, m2, e2, ha2, _⟩ := among_ok hc a1 m1 [wrap64 (wrap64 (inp + n) - 1), y] (by simp) (by omega) (by omega)
  rw [e2, Option.bind_some]
  dsimp only
  obtain ⟨l', a', m', e, ha, hl⟩ := ih (l ++ [z]) a2 m2 (by omega) (by omega)
  exact ⟨l', a', m', e, by omega, by rw [hl, List.length_append, List.length_singleton]; omega⟩
theorem zz11 {code : List Int} (hc : bytesOk code) (a m : Int) (h0 : 0 ≤ a) (h1 : a ≤ 900000000) : ∃ n gs os a' m', spec_l1Cur_circuit.f code a m = some (n, gs, os, a', m') ∧ (a ≤ a' ∧ a' ≤ a + 1000) ∧ (1 ≤ n ∧ n ≤ 4) ∧ gs.length ≤ 16 ∧ (1 ≤ os.length ∧ os.length ≤ 3) := by
 unfold spec_l1Cur_circuit.f
 obtain ⟨x, a1, m1, e1, ha1, hx0, hx1⟩ := pick_ok hc a m 4 h0 (by omega)
 rw [e1, Option.bind_some]
 dsimp only
 obtain ⟨n, a2, m2, e2, ha2, hn0, hn1⟩ := pick_ok hc a1 m1 7 (by omega) (by omega)
 rw [e2, Option.bind_some]
 dsimp only
 obtain ⟨b, a3, m3, e3, ha3⟩ := one_ok hc a2 m2 20 (by omega) (by omega)
 rw [e3, Option.bind_some]
 dsimp only
 rw [w64 (n := 1 + x) (by omega) (by omega)]
 have body : ∀ N : Int, 0 ≤ N → N ≤ 16 → ∃ n gs os a' m', ciBody code (1 + x) N a3 m3 = some (n, gs, os, a', m') ∧ (a3 ≤ a' ∧ a' ≤ a3 + 900) ∧ (1 ≤ n ∧ n ≤ 4) ∧ gs.length ≤ 16 ∧ (1 ≤ os.length ∧ os.length ≤ 3) := by
  intro N hN0 hN1
  unfold ciBody
  rw [if_pos (by omega)]
  obtain ⟨gs, a4, m4, e4, ha4, hl4⟩ := zz9 hc (1 + x) N.toNat [] a3 m3 (by omega) (by omega)
  rw [e4, Option.bind_some]
  dsimp only
  obtain ⟨k, a5, m5, e5, ha5, hk0, hk1⟩ := pick_ok hc a4 m4 3 (by omega) (by omega)
  rw [e5, Option.bind_some]
  dsimp only
  rw [w64 (n := 1 + k) (by omega) (by omega), if_pos (by omega)]
  obtain ⟨os, a6, m6, e6, ha6, hl6⟩ := zz10 hc (1 + x) N (1 + k).toNat [] a5 m5 (by omega) (by omega)
  rw [e6, Option.bind_some]
  rw [List.length_nil, Nat.zero_add] at hl4 hl6
  exact ⟨1 + x, gs, os, a6, m6, rfl, by omega, by omega, by omega, by omega⟩
 cases b with
 | true =>
  rw [if_pos rfl]
  obtain ⟨n', gs, os, a', m', e, h2, h3⟩ := body 16 (by omega) (by omega)
  exact ⟨n', gs, os, a', m', e, by omega, h3⟩
 | false =>
  rw [if_neg (by decide)]
  obtain ⟨n', gs, os, a', m', e, h2, h3⟩ := body n hn0 (by omega)
  exact ⟨n', gs, os, a', m', e, by omega, h3⟩
theorem anG_ok {code : List Int} (hc : bytesOk code) (inp : Int) (l : List S57) (a m : Int) (h0 : 0 ≤ a) (h1 : a ≤ 900000000) : ∃ l' a' m', anG code inp (l.length : Int) l a m = some (l', a', m') ∧ (a ≤ a' ∧ a' ≤ a + 10) ∧ l'.length = l.length := by
 unfold anG
 by_cases c : (0 : Int) < (l.length : Int)
 ·rw [if_pos c]
  obtain ⟨q, a1, m1, e1, ha1, hq0, hq1⟩ := pick_ok hc a m (l.length : Int) h0 (by omega)
  rw [e1, Option.bind_some]
  dsimp only
  rw [if_pos ⟨hq0, by omega⟩]
  obtain ⟨s, a2, m2, e2, ha2, _⟩ := pick_ok hc a1 m1 30 (by omega) (by omega)
  rw [e2, Option.bind_some]
  dsimp only
  by_cases s0 : s = 0
  ·rw [if_pos s0]
   obtain ⟨z, a3, m3, e3, ha3, _⟩ := among_ok hc a2 m2 [0, 4, 5] (by simp) (by omega) (by omega)
   rw [e3, Option.bind_some]
   exact ⟨_, _, _, rfl, by dsimp only; omega, List.length_set ..⟩
  rw [if_neg s0]
  by_cases s1 : s = 1
  ·rw [if_pos s1]
   obtain ⟨z, a3, m3, e3, ha3, _⟩ := among_ok hc a2 m2 [-1, wrap64 (inp + (l.length : Int))] (by simp) (by omega) (by omega)
   rw [e3, Option.bind_some]
   exact ⟨_, _, _, rfl, by dsimp only; omega, List.length_set ..⟩
  rw [if_neg s1]
  by_cases s2 : s = 2
  ·rw [if_pos s2]
   obtain ⟨z, a3, m3, e3, ha3, _⟩ := among_ok hc a2 m2 [-1, wrap64 (wrap64 (inp + (l.length : Int)) - 1)] (by simp) (by omega) (by omega)
   rw [e3, Option.bind_some]
   exact ⟨_, _, _, rfl, by dsimp only; omega, List.length_set ..⟩
  ·rw [if_neg s2]
   exact ⟨_, _, _, rfl, by omega, rfl⟩
 ·rw [if_neg c]
  exact ⟨_, _, _, rfl, by omega, rfl⟩
theorem anE_ok {code : List Int} (hc : bytesOk code) (inp : Int) (l : List S57) (lo : List Int) (a m : Int) (h0 : 0 ≤ a) (h1 : a ≤ 900000000) (hn : 1 ≤ inp ∧ inp ≤ 4) (hl : l.length ≤ 16) (ho : 1 ≤ lo.length ∧ lo.length ≤ 3) : ∃ n gs os a' m', anE code inp l lo a m = some (n, gs, os, a', m') ∧ (a ≤ a' ∧ a' ≤ a + 10) ∧ (-1 ≤ n ∧ n ≤ 5) ∧ gs.length ≤ 100 ∧ os.length ≤ 100 := by
 unfold anE
 obtain ⟨s, a1, m1, e1, ha1, hs0, hs1⟩ := pick_ok hc a m 30 h0 (by omega)
 rw [e1, Option.bind_some]
 dsimp only
 by_cases s0 : s = 0
 ·rw [if_pos s0]
  obtain ⟨z, a3, m3, e3, ha3, hz⟩ := among_ok hc a1 m1 [-1, 0, 5] (by simp) (by omega) (by omega)
  rw [e3, Option.bind_some]
  simp only [List.mem_cons, List.not_mem_nil, or_false] at hz
  exact ⟨z, l, lo, a3, m3, rfl, by omega, by omega, by omega, by omega⟩
 rw [if_neg s0]
 by_cases s1 : s = 1
 ·rw [if_pos s1]
  exact ⟨_, _, _, _, _, rfl, by omega, by omega, by omega, by simp⟩
 rw [if_neg s1]
 by_cases s2 : s = 2
 ·rw [if_pos s2]
  obtain ⟨z, a3, m3, e3, ha3, hz0, hz1⟩ := pick_ok hc a1 m1 2 (by omega) (by omega)
  rw [e3, Option.bind_some]
  dsimp only
  rw [w64 (n := 4 + z) (by omega) (by omega), if_pos ⟨by omega, by omega⟩]
  exact ⟨_, _, _, _, _, rfl, by omega, by omega, by omega, by rw [List.length_append, List.length_replicate]; omega⟩
 rw [if_neg s2]
 by_cases s3 : s = 3
 ·rw [if_pos s3, if_pos (by omega)]
  obtain ⟨z, a3, m3, e3, ha3, _⟩ := among_ok hc a1 m1 [-1, wrap64 (inp + (l.length : Int))] (by simp) (by omega) (by omega)
  rw [e3, Option.bind_some]
  exact ⟨inp, l, lo.set 0 z, a3, m3, rfl, by omega, by omega, by omega, by rw [List.length_set]; omega⟩
 rw [if_neg s3]
 by_cases s4 : s = 4
 ·rw [if_pos s4]
  obtain ⟨z, a3, m3, e3, ha3, hz0, hz1⟩ := pick_ok hc a1 m1 2 (by omega) (by omega)
  rw [e3, Option.bind_some]
  dsimp only
  rw [w64 (n := 16 + z) (by omega) (by omega), if_pos ⟨by omega, by omega⟩]
  exact ⟨_, _, _, _, _, rfl, by omega, by omega, by rw [List.length_append, List.length_replicate]; omega, by omega⟩
 ·rw [if_neg s4]
  exact ⟨_, _, _, _, _, rfl, by omega, by omega, by omega, by omega⟩
theorem zz14 {code : List Int} (hc : bytesOk code) (a m : Int) (h0 : 0 ≤ a) (h1 : a ≤ 800000000) : ∃ n gs os a' m', spec_l1Cur_anyCircuit.f code a m = some (n, gs, os, a', m') ∧ (a ≤ a' ∧ a' ≤ a + 2000) ∧ (-1 ≤ n ∧ n ≤ 5) ∧ gs.length ≤ 100 ∧ os.length ≤ 100 := by
 unfold spec_l1Cur_anyCircuit.f
 obtain ⟨n, gs, os, a1, m1, e1, ha1, hn, hg, ho⟩ := zz11 hc a m h0 (by omega)
 rw [e1, Option.bind_some]
 dsimp only
 obtain ⟨l', a2, m2, e2, ha2, hl⟩ := anG_ok hc n gs a1 m1 (by omega) (by omega)
 rw [e2, Option.bind_some]
 dsimp only
 obtain ⟨n', gs', os', a3, m3, e3, ha3, hr⟩ := anE_ok hc n l' os a2 m2 (by omega) (by omega) hn (by omega) ho
 exact ⟨n', gs', os', a3, m3, e3, by omega, hr⟩
theorem zz15 {code : List Int} (hc : bytesOk code) : ∃ n gs os, spec_DrawIsCircuit.f code = some (n, gs, os) ∧ (-1 ≤ n ∧ n ≤ 5) ∧ gs.length ≤ 100 ∧ os.length ≤ 100 := by
 unfold spec_DrawIsCircuit.f
 obtain ⟨n, gs, os, a', m', e, _, h⟩ := zz14 hc 0 0 (by omega) (by omega)
 rw [e]
 exact ⟨n, gs, os, rfl, h⟩
theorem zz16 {code : List Int} (hc : bytesOk code) : ∃ n gs os i, spec_DrawCircuitTable.f code = some (n, gs, os, i) ∧ (-1 ≤ n ∧ n ≤ 5) ∧ gs.length ≤ 100 ∧ os.length ≤ 100 := by
 unfold spec_DrawCircuitTable.f
 obtain ⟨n, gs, os, a1, m1, e1, ha1, h⟩ := zz14 hc 0 0 (by omega) (by omega)
 rw [e1, Option.bind_some]
 dsimp only
 obtain ⟨t, ht⟩ : ∃ t, spec_l1Most.f 1 (os.length : Int) = some t := by
  unfold spec_l1Most.f
  split <;> exact ⟨_, rfl⟩
 rw [ht, Option.bind_some]
 obtain ⟨p, a2, m2, e2, ha2, _⟩ := pick_ok hc a1 m1 16 (by omega) (by omega)
 rw [e2, Option.bind_some]
 dsimp only
 obtain ⟨q, a3, m3, e3, ha3, _⟩ := pick_ok hc a2 m2 (wrap64 (t + wrap64 (Int.tdiv p 15))) (by omega) (by omega)
 rw [e3, Option.bind_some]
 dsimp only
 obtain ⟨r, a4, m4, e4, ha4, _⟩ := pick_ok hc a3 m3 24 (by omega) (by omega)
 rw [e4, Option.bind_some]
 exact ⟨_, _, _, _, rfl, h⟩
theorem zz17 (l : List Int) (hl : l.length ≤ 9223372036854775806) (r : List Int) : ∀ (p : List Int) (i : Int), i = p.length → l = p ++ r → Ev (fun k => laws_sameInts.l0 k l l l.length i) true := by
 induction r with
 | nil =>
  intro p i hi e
  have hlen : l.length = p.length := by rw [e]; simp
  apply ev_up
  simp only [laws_sameInts.l0]
  exact ev_n (by omega) (Ev.now _)
 | cons x r ih =>
  intro p i hi e
  have hlen : l.length = p.length + r.length + 1 := by rw [e]; simp; omega
  have ih' := ih (p ++ [x]) (i + 1) (by simp; omega) (by rw [e]; simp)
  apply ev_up
  simp only [laws_sameInts.l0]
  refine ev_p (by omega) (ev_p (by omega) (ev_p (by omega) (ev_p (by omega) (ev_p (by trivial) ?_))))
  rw [w64 (n := i + 1) (by omega) (by omega)]
  exact ih'
theorem zz18 (l : List Int) (hl : l.length ≤ 9223372036854775806) : Ev (fun k => laws_sameInts.f k l l) true := by
 unfold laws_sameInts.f
 exact ev_p rfl (zz17 l hl l [] 0 rfl rfl)
theorem zz19 (l : List (List Int)) (hl : l.length ≤ 9223372036854775806) (hy : ∀ y ∈ l, y.length ≤ 9223372036854775806) (r : List (List Int)) : ∀ (p : List (List Int)) (i : Int), i = p.length → l = p ++ r → Ev (fun k => laws_sameLists.l0 k l l l.length i) true := by
 induction r with
 | nil =>
  intro p i hi e
  have hlen : l.length = p.length := by rw [e]; simp
  apply ev_up
  simp only [laws_sameLists.l0]
  exact ev_n (by omega) (Ev.now _)
 | cons x r ih =>
  intro p i hi e
  have hlen : l.length = p.length + r.length + 1 := by rw [e]; simp; omega
  have hx : rd_L4 l i = x := by rw [e]; exact getDA hi
  have ih' := ih (p ++ [x]) (i + 1) (by simp; omega) (by rw [e]; simp)
  apply ev_up
  simp only [laws_sameLists.l0]
  rw [hx, w64 (n := i + 1) (by omega) (by omega)]
  exact ev_p (by omega) (ev_p (by omega) (ev_p (by omega) (ev_p (by omega) (Ev.bind (zz18 x (hy x (by rw [e]; simp))) (ev_p rfl ih')))))
theorem zz20 (l : List (List Int)) (hl : l.length ≤ 9223372036854775806) (hy : ∀ y ∈ l, y.length ≤ 9223372036854775806) : Ev (fun k => laws_sameLists.f k l l) true := by
 unfold laws_sameLists.f
 exact ev_p rfl (zz19 l hl hy l [] 0 rfl rfl)
theorem pSum_l0 (l : List Int) (hl : l.length ≤ 1000) (hb : ∀ x ∈ l, 0 ≤ x ∧ x ≤ 1000000) (r : List Int) : ∀ (p : List Int) (i acc : Int), i = p.length → l = p ++ r → 0 ≤ acc → acc ≤ 1000000 * i → Ev (fun k => laws_pSum.l0 k acc l l.length i) (acc + r.sum) := by
 induction r with
 | nil =>
  intro p i acc hi e h0 h1
  have hlen : l.length = p.length := by rw [e]; simp
  apply ev_up
  simp only [laws_pSum.l0]
  exact ev_n (by omega) (ev_eq (Ev.now _) (by simp))
 | cons x r ih =>
  intro p i acc hi e h0 h1
  have hlen : l.length = p.length + r.length + 1 := by rw [e]; simp; omega
  have hx : rd l i = x := by rw [e]; exact rdA hi
  have hxb := hb x (by rw [e]; simp)
  apply ev_up
  simp only [laws_pSum.l0]
  rw [hx, w64 (n := i + 1) (by omega) (by omega), w64 (n := acc + x) (by omega) (by omega)]
  refine ev_p (by omega) (ev_p (by omega) (ev_p (by omega) (ev_eq (ih (p ++ [x]) (i + 1) (acc + x) (by simp; omega) (by rw [e]; simp) (by omega) (by omega)) ?_)))
  rw [List.sum_cons]
  omega
theorem pSum_ev (l : List Int) (hl : l.length ≤ 1000) (hb : ∀ x ∈ l, 0 ≤ x ∧ x ≤ 1000000) : Ev (fun k => laws_pSum.f k l) l.sum := by
 unfold laws_pSum.f
 exact ev_eq (pSum_l0 l hl hb l [] 0 0 rfl rfl (by omega) (by omega)) (by omega)
theorem l1In_eq (a b c : Int) : spec_l1In.f a b c = some (decide (b ≤ a ∧ a ≤ c)) := by
 unfold spec_l1In.f
 by_cases h : b ≤ a
 ·rw [if_pos h]; simp [h]
 ·rw [if_neg h]; simp [h]
def inB (a b : Int) (x : Int) : Bool := decide (a ≤ x ∧ x ≤ b)
theorem l1All_l0 (l : List Int) (a b : Int) (hl : l.length ≤ 9223372036854775807) (r : List Int) : ∀ (p : List Int) (i : Int), i = p.length → l = p ++ r →
  Ev (fun k => spec_l1All.l0 k a b l l.length i) (r.all (inB a b)) := by
 induction r with
 | nil =>
  intro p i hi e
  have hlen : l.length = p.length := by rw [e]; simp
  apply ev_up
  simp only [spec_l1All.l0]
  exact ev_n (by omega) (Ev.now _)
 | cons x r ih =>
  intro p i hi e
  have hlen : l.length = p.length + r.length + 1 := by rw [e]; simp; omega
  have hx : rd l i = x := by rw [e]; exact rdA hi
  have ih' := ih (p ++ [x]) (i + 1) (by simp; omega) (by rw [e]; simp)
  apply ev_up
  simp only [spec_l1All.l0]
  refine ev_p (by omega) (ev_p (by omega) (ev_p (by omega) ?_))
  rw [hx, l1In_eq]
  refine Ev.bind (ev_c rfl) ?_
  refine ev_ite (fun h => ?_) (fun h => ?_)
  ·rw [w64 (by omega) (by omega)]
   refine ev_eq ih' ?_
   rw [List.all_cons, show inB a b x = true from h, Bool.true_and]
  ·refine ev_eq (Ev.now _) ?_
   rw [List.all_cons, show inB a b x = false from decide_eq_false (fun hh => h (decide_eq_true hh)), Bool.false_and]
theorem l1All_ev (l : List Int) (a b : Int) (hl : l.length ≤ 9223372036854775807) : Ev (fun k => spec_l1All.f k l a b) (l.all (inB a b)) := by
 unfold spec_l1All.f
 exact l1All_l0 l a b hl l [] 0 rfl rfl
theorem zz27 (a : Int) : spec_ttInputs.f a = some (decide (0 ≤ a ∧ a ≤ 4)) := by
 unfold spec_ttInputs.f
 rw [l1In_eq, Option.bind_some]
def tableM (n : Int) (l : List Int) : Bool := decide (0 ≤ n ∧ n ≤ 4 ∧ l.length = 2 ^ n.toNat) && l.all (inB 0 1)
theorem zz29 (l : List Int) (hl : l.length ≤ 9223372036854775807) (r : List Int) : ∀ (p : List Int) (i : Int), i = p.length → l = p ++ r →
  Ev (fun k => impl_areBits.l0 k l l.length i) (r.all (inB 0 1)) := by
 induction r with
 | nil =>
  intro p i hi e
  have hlen : l.length = p.length := by rw [e]; simp
  apply ev_up
  simp only [impl_areBits.l0]
  exact ev_n (by omega) (Ev.now _)
 | cons x r ih =>
  intro p i hi e
  have hlen : l.length = p.length + r.length + 1 := by rw [e]; simp; omega
  have hx : rd l i = x := by rw [e]; exact rdA hi
  have ih' := ih (p ++ [x]) (i + 1) (by simp; omega) (by rw [e]; simp)
  apply ev_up
  simp only [impl_areBits.l0]
  refine ev_p (by omega) (ev_p (by omega) (ev_p (by omega) ?_))
  rw [hx, w64 (n := i + 1) (by omega) (by omega)]
  refine ev_ite (fun h => ?_) (fun h => ev_ite (fun h2 => ?_) (fun h2 => ?_))
  ·rw [List.all_cons, show inB 0 1 x = true from decide_eq_true (by omega), Bool.true_and]
   exact ih'
  ·rw [List.all_cons, show inB 0 1 x = true from decide_eq_true (by omega), Bool.true_and]
   exact ih'
  ·rw [List.all_cons, show inB 0 1 x = false from decide_eq_false (by omega), Bool.false_and]
   exact Ev.now _
theorem zz30 (l : List Int) (hl : l.length ≤ 9223372036854775807) : Ev (fun k => impl_areBits.f k l) (l.all (inB 0 1)) := by
 unfold impl_areBits.f
 exact zz29 l hl l [] 0 rfl rfl
theorem zz31 (n : Int) (l : List Int) (hl : l.length ≤ 9223372036854775807) : Ev (fun k => impl_IsTable.f k n l) (tableM n l) := by
 unfold impl_IsTable.f tableM
 refine ev_ite (fun h1 => ev_ite (fun h2 => ?_) (fun h2 => ?_)) (fun h1 => ?_)
 ·obtain ⟨a, rfl⟩ := nat_of h1
  rw [shl1 a (by omega)]
  refine ev_p (by omega) (ev_ite (fun h3 => ?_) (fun h3 => ?_))
  ·have h4 : l.length = 2 ^ a := by exact_mod_cast h3
   rw [decide_eq_true ⟨h1, h2, by simpa using h4⟩, Bool.true_and]
   exact Ev.bind (zz30 l hl) (Ev.now _)
  ·rw [decide_eq_false (fun hh => h3 (by have := hh.2.2; simp only [Int.toNat_natCast] at this; exact_mod_cast this)), Bool.false_and]
   exact Ev.now _
 ·rw [decide_eq_false (fun hh => h2 hh.2.1), Bool.false_and]
  exact Ev.now _
 ·rw [decide_eq_false (fun hh => h1 hh.1), Bool.false_and]
  exact Ev.now _
def gateOk (w : Int) (g : S57) : Bool := decide (1 ≤ g.f0 ∧ g.f0 ≤ 4 ∧ 0 ≤ g.f1 ∧ g.f1 < w ∧ 0 ≤ g.f2 ∧ g.f2 < w ∧ (g.f0 = 4 → g.f1 = g.f2))
def gatesOk (w : Int) : List S57 → Bool
 | [] => true
 | g :: r => gateOk w g && gatesOk (w + 1) r
def circuitM (n : Int) (gs : List S57) (os : List Int) : Bool := decide (0 ≤ n ∧ n ≤ 4 ∧ gs.length ≤ 16 ∧ 1 ≤ os.length ∧ os.length ≤ 4) && (gatesOk n gs && os.all (inB 0 (n + gs.length - 1)))
theorem zz35 {n : Int} {gs : List S57} {os : List Int} (h : circuitM n gs os = true) :
  ∃ a : Nat, n = a ∧ a ≤ 4 ∧ gs.length ≤ 16 ∧ 1 ≤ os.length ∧ os.length ≤ 4 ∧ gatesOk n gs = true ∧ ∀ o ∈ os, 0 ≤ o ∧ o < n + gs.length := by
 unfold circuitM at h
 rw [Bool.and_eq_true, Bool.and_eq_true, List.all_eq_true] at h
 obtain ⟨h1, h2, h3⟩ := h
 obtain ⟨h4, h5, h6, h7, h8⟩ := of_decide_eq_true h1
 obtain ⟨a, rfl⟩ := nat_of h4
 refine ⟨a, rfl, by omega, h6, h7, h8, h2, fun o ho => ?_⟩
 have := of_decide_eq_true (h3 o ho)
 omega
def gateV (k a b : Int) : Int := if k = 1 then a * b else if k = 2 then (if a < b then b else a) else if k = 3 then (a + b) % 2 else 1 - a
def wiresM : List Int → List S57 → List Int
 | xs, [] => xs
 | xs, g :: r => wiresM (xs ++ [gateV g.f0 (rd xs g.f1) (rd xs g.f2)]) r
theorem zz38 (r : List S57) : ∀ xs, (wiresM xs r).length = xs.length + r.length := by
 induction r with
 | nil => intro xs; rfl
 | cons g r ih =>
  intro xs
  rw [wiresM, ih]
  simp
  omega
theorem zz39 (k a b : Int) (ha : a = 0 ∨ a = 1) (hb : b = 0 ∨ b = 1) : gateV k a b = 0 ∨ gateV k a b = 1 := by
 unfold gateV
 rcases ha with rfl | rfl <;> rcases hb with rfl | rfl <;> (repeat' split) <;> simp
theorem zz40 (r : List S57) : ∀ (xs : List Int) (w : Int), (xs.length : Int) = w → gatesOk w r = true → (∀ b ∈ xs, b = 0 ∨ b = 1) → ∀ b ∈ wiresM xs r, b = 0 ∨ b = 1 := by
 induction r with
 | nil => intro xs w _ _ h; exact h
 | cons g r ih =>
  intro xs w hw hk hb
  rw [gatesOk, Bool.and_eq_true] at hk
  have hk1 := of_decide_eq_true hk.1
  rw [wiresM]
  refine ih _ (w + 1) (by simp; omega) hk.2 (fun b h => ?_)
  rw [List.mem_append] at h
  rcases h with h | h
  ·exact hb b h
  ·simp only [List.mem_singleton] at h
   rw [h]
   exact zz39 _ _ _ (hb _ (rd_mem (by omega) (by omega))) (hb _ (rd_mem (by omega) (by omega)))
theorem bit_and1 (a n : Nat) (ha : a < 2 ^ 62) (hn : n ≤ 62) : Go.bits .and .i64 (shr .i64 (a : Int) (n : Int)) 1 = (((a >>> n) % 2 : Nat) : Int) := by
 rw [shrN a n hn]
 have h : a >>> n ≤ a := Nat.shiftRight_le a n
 have := andN (a >>> n) 1 (by omega) (by omega)
 rw [Nat.and_one_is_mod] at this
 exact this
def bitsL (x n : Nat) : List Int := rmap n (fun i => (((x >>> i) % 2 : Nat) : Int))
theorem zz43 (x n : Nat) : (bitsL x n).length = n := rmap_length _ _
theorem zz44 (x n : Nat) : ∀ b ∈ bitsL x n, b = 0 ∨ b = 1 := by
 intro b hb
 unfold bitsL rmap at hb
 obtain ⟨i, _, rfl⟩ := List.mem_map.1 hb
 omega
def wval (n : Nat) (gs : List S57) (x : Nat) (w : Int) : Int := rd (wiresM (bitsL x n) gs) w
def ctabV (n : Nat) (gs : List S57) (w : Int) : List Int := rmap (2 ^ n) (fun x => wval n gs x w)
theorem zz47 (n : Nat) (gs : List S57) (w : Int) : (ctabV n gs w).length = 2 ^ n := rmap_length _ _
theorem wval_bit {n : Nat} {gs : List S57} (hk : gatesOk n gs = true) {w : Int} (h0 : 0 ≤ w) (h1 : w < n + gs.length) (x : Nat) : wval n gs x w = 0 ∨ wval n gs x w = 1 :=
 zz40 gs (bitsL x n) n (by rw [zz43]) hk (zz44 x n) _ (rd_mem h0 (by rw [zz38, zz43]; omega))
def constB (l : List Int) : Bool := decide (∀ x ∈ l, x = rd l 0)
def selM (f : Nat → Bool) : Nat → Nat → List Int
 | _, 0 => []
 | i, d + 1 => (if f i then [(i : Int)] else []) ++ selM f (i + 1) d
theorem zz51 (f : Nat → Bool) (d : Nat) : ∀ i, (selM f i d).length ≤ d := by
 induction d with
 | zero => intro i; simp [selM]
 | succ d ih =>
  intro i
  have := ih (i + 1)
  rw [selM]
  split <;> simp <;> omega
def constF (n : Nat) (gs : List S57) (i : Nat) : Bool := constB (ctabV n gs ((n + i : Nat) : Int))
theorem zz53 (a : Nat) (ha : a ≤ 4) (l : List Int) (hl : l.length = 2 ^ a) (hc : ∀ x ∈ l, x = rd l 0) (j : Nat) (hj : j < a) (R : List Int × Bool) (hn : Ev (fun k => impl_DependsOn.l0 k [] (wrap64 ((j : Int) + 1)) a l) R) (d : Nat) : ∀ i : Nat, i + d = l.length →
  Ev (fun k => impl_DependsOn.l1 k [] j l l.length i a l) R := by
 have h8 : 2 ^ a ≤ 2 ^ 4 := Nat.pow_le_pow_right (by decide) ha
 have hj8 : 2 ^ j < 2 ^ a := Nat.pow_lt_pow_right (by decide) hj
 induction d with
 | zero =>
  intro i hi
  apply ev_up
  simp only [impl_DependsOn.l1]
  exact ev_n (by omega) hn
 | succ d ih =>
  intro i hi
  have hx : i ^^^ 2 ^ j < 2 ^ a := Nat.xor_lt_two_pow (by omega) hj8
  have e1 : rd l (i : Int) = rd l 0 := hc _ (by rw [rdN (by omega)]; exact List.getElem_mem _)
  have e2 : rd l ((i ^^^ 2 ^ j : Nat) : Int) = rd l 0 := hc _ (by rw [rdN (by omega)]; exact List.getElem_mem _)
  apply ev_up
  simp only [impl_DependsOn.l1]
  rw [shl1 j (by omega), xorN i (2 ^ j) (by omega) (by omega), wN (n := (i : Int) + 1) (m := i + 1) (by push_cast; rfl) (by omega)]
  exact ev_p (by omega) (ev_p (by omega) (ev_p (by omega) (ev_p (by omega) (ev_p (by omega) (ev_p (by omega) (ev_p (by rw [e1, e2]) (ih (i + 1) (by omega))))))))
theorem zz54 (a : Nat) (ha : a ≤ 4) (l : List Int) (hl : l.length = 2 ^ a) (hc : ∀ x ∈ l, x = rd l 0) (d : Nat) : ∀ j : Nat, j + d = a → Ev (fun k => impl_DependsOn.l0 k [] j a l) ([], true) := by
 induction d with
 | zero =>
  intro j hj
  apply ev_up
  simp only [impl_DependsOn.l0]
  exact ev_n (by omega) (Ev.now _)
 | succ d ih =>
  intro j hj
  apply ev_up
  simp only [impl_DependsOn.l0]
  refine ev_p (by omega) (zz53 a ha l hl hc j (by omega) _ ?_ l.length 0 (by omega))
  rw [wN (n := (j : Int) + 1) (m := j + 1) (by push_cast; rfl) (by omega)]
  exact ih (j + 1) (by omega)
theorem zz55 (a : Nat) (ha : a ≤ 4) (l : List Int) (hl : l.length = 2 ^ a) (hb : ∀ x ∈ l, 0 ≤ x ∧ x ≤ 1) (hc : ∀ x ∈ l, x = rd l 0) : Ev (fun k => impl_DependsOn.f k a l) ([], true) := by
 have h8 : 2 ^ a ≤ 2 ^ 4 := Nat.pow_le_pow_right (by decide) ha
 unfold impl_DependsOn.f
 refine Ev.bind (zz31 (a : Int) l (by omega)) (ev_p ?_ (zz54 a ha l hl hc a 0 (by omega)))
 unfold tableM
 rw [Bool.and_eq_true, List.all_eq_true]
 exact ⟨decide_eq_true ⟨by omega, by omega, by rw [Int.toNat_natCast]; exact hl⟩, fun x hx => decide_eq_true (hb x hx)⟩
def depthsM : List Int → List S57 → List Int
 | ds, [] => ds
 | ds, g :: r => depthsM (ds ++ [1 + (if rd ds g.f1 < rd ds g.f2 then rd ds g.f2 else rd ds g.f1)]) r
theorem zz57 (r : List S57) : ∀ ds, (depthsM ds r).length = ds.length + r.length := by
 induction r with
 | nil => intro ds; rfl
 | cons g r ih =>
  intro ds
  rw [depthsM, ih]
  simp
  omega
def bump (xs : List Int) (i : Int) : List Int := xs.set i.toNat (rd xs i + 1)
theorem zz59 (xs : List Int) (i : Int) : (bump xs i).length = xs.length := by simp [bump]
theorem zz60 {xs : List Int} {i B : Int} (h0 : 0 ≤ i) (h1 : i < xs.length) (h : ∀ x ∈ xs, 0 ≤ x ∧ x ≤ B) : ∀ x ∈ bump xs i, 0 ≤ x ∧ x ≤ B + 1 := by
 intro x hx
 unfold bump at hx
 rcases List.mem_or_eq_of_mem_set hx with hx | hx
 ·have := h x hx
  omega
 ·have := h _ (rd_mem h0 h1)
  omega
def fanG : List Int → List S57 → List Int
 | xs, [] => xs
 | xs, g :: r => fanG (if g.f0 = 4 then bump xs g.f1 else bump (bump xs g.f1) g.f2) r
def fanO : List Int → List Int → List Int
 | xs, [] => xs
 | xs, o :: r => fanO (bump xs o) r
theorem zz63 (r : List S57) : ∀ xs, (fanG xs r).length = xs.length := by
 induction r with
 | nil => intro xs; rfl
 | cons g r ih =>
  intro xs
  rw [fanG, ih]
  split <;> simp [zz59]
theorem zz64 (r : List Int) : ∀ xs, (fanO xs r).length = xs.length := by
 induction r with
 | nil => intro xs; rfl
 | cons g r ih =>
  intro xs
  rw [fanO, ih, zz59]
theorem zz65 (r : List S57) : ∀ ds, ∃ t, depthsM ds r = ds ++ t := by
 induction r with
 | nil => intro ds; exact ⟨[], by simp [depthsM]⟩
 | cons g r ih =>
  intro ds
  obtain ⟨t, e⟩ := ih (ds ++ [1 + (if rd ds g.f1 < rd ds g.f2 then rd ds g.f2 else rd ds g.f1)])
  exact ⟨_, by rw [depthsM, e, List.append_assoc]⟩
theorem rd_app {a b : List Int} {w : Int} (h0 : 0 ≤ w) (h1 : w < a.length) : rd (a ++ b) w = rd a w := by
 obtain ⟨n, rfl⟩ := nat_of h0
 rw [rdN (xs := a) (by omega), rdN (by rw [List.length_append]; omega)]
 exact List.getElem_append_left (by omega)
theorem zz67 (r : List S57) : ∀ ds, gatesOk ds.length r = true → (∀ x ∈ ds, 0 ≤ x) → ∀ x ∈ depthsM ds r, 0 ≤ x := by
 induction r with
 | nil => intro ds _ h; exact h
 | cons g r ih =>
  intro ds hk h
  rw [gatesOk, Bool.and_eq_true] at hk
  obtain ⟨_, _, h1, h2, h3, h4, _⟩ := of_decide_eq_true hk.1
  have p1 := h _ (rd_mem h1 h2)
  have p2 := h _ (rd_mem h3 h4)
  rw [depthsM]
  refine ih _ (by rw [List.length_append, List.length_singleton]; push_cast; exact hk.2) (fun x hx => ?_)
  rw [List.mem_append, List.mem_singleton] at hx
  rcases hx with hx | rfl
  ·exact h x hx
  ·split <;> omega
theorem zz68 (r : List S57) : ∀ ds, gatesOk ds.length r = true → ∀ (i : Nat) (g : S57), r[i]? = some g → gateOk (ds.length + i : Nat) g = true ∧ (rd (depthsM ds r) g.f1 < rd (depthsM ds r) ((ds.length + i : Nat) : Int) ∧ rd (depthsM ds r) g.f2 < rd (depthsM ds r) ((ds.length + i : Nat) : Int)) := by
 induction r with
 | nil => intro ds _ i g h; simp at h
 | cons s r ih =>
  intro ds hk i g h
  rw [gatesOk, Bool.and_eq_true] at hk
  rw [depthsM]
  cases i with
  | zero =>
   have : s = g := by simpa using h
   subst this
   obtain ⟨_, _, h1, h2, h3, h4, _⟩ := of_decide_eq_true hk.1
   obtain ⟨t, e⟩ := zz65 r (ds ++ [1 + (if rd ds s.f1 < rd ds s.f2 then rd ds s.f2 else rd ds s.f1)])
   rw [e, Nat.add_zero, List.append_assoc, rd_app h1 h2, rd_app h3 h4, List.singleton_append, rdA (by rfl)]
   refine ⟨hk.1, ?_⟩
   split <;> omega
  | succ i =>
   have := ih (ds ++ [1 + (if rd ds s.f1 < rd ds s.f2 then rd ds s.f2 else rd ds s.f1)]) (by rw [List.length_append, List.length_singleton]; push_cast; exact hk.2) i g (by simpa using h)
   rw [List.length_append, List.length_singleton, show ds.length + 1 + i = ds.length + (i + 1) by omega] at this
   exact this
theorem bump_sum {xs : List Int} {i : Int} (h0 : 0 ≤ i) (h1 : i < xs.length) : (bump xs i).sum = xs.sum + 1 := by
 obtain ⟨n, rfl⟩ := nat_of h0
 have hn : n < xs.length := by omega
 unfold bump
 rw [Int.toNat_natCast, rdN hn]
 clear h0 h1
 induction xs generalizing n with
 | nil => simp at hn
 | cons x xs ih =>
  cases n with
  | zero => simp; omega
  | succ n =>
   have := ih n (by simpa using hn)
   simp only [List.set_cons_succ, List.sum_cons, List.getElem_cons_succ]
   omega
def usesG (gs : List S57) : Int := (gs.map (fun g => if g.f0 = 4 then (1 : Int) else 2)).sum
theorem fanG_sum (r : List S57) : ∀ (xs : List Int) (w : Int), gatesOk w r = true → w + r.length ≤ xs.length → (fanG xs r).sum = xs.sum + usesG r := by
 induction r with
 | nil => intro xs w _ _; simp [fanG, usesG]
 | cons g r ih =>
  intro xs w hk hw
  rw [gatesOk, Bool.and_eq_true] at hk
  rw [List.length_cons] at hw
  obtain ⟨_, _, h1, h2, h3, h4, _⟩ := of_decide_eq_true hk.1
  have hu : usesG (g :: r) = (if g.f0 = 4 then (1 : Int) else 2) + usesG r := by unfold usesG; rw [List.map_cons, List.sum_cons]
  have b1 := bump_sum (xs := xs) h1 (by omega)
  rw [fanG, hu]
  split
  ·rw [ih _ (w + 1) hk.2 (by rw [zz59]; omega), b1]
   omega
  ·rw [ih _ (w + 1) hk.2 (by rw [zz59, zz59]; omega), bump_sum h3 (by rw [zz59]; omega), b1]
   omega
theorem fanO_sum (r : List Int) : ∀ (xs : List Int), (∀ o ∈ r, 0 ≤ o ∧ o < xs.length) → (fanO xs r).sum = xs.sum + r.length := by
 induction r with
 | nil => intro xs _; simp [fanO]
 | cons o r ih =>
  intro xs h
  have ho := h o (by simp)
  rw [fanO, ih _ (fun q hq => by rw [zz59]; exact h q (by simp [hq])), bump_sum ho.1 ho.2, List.length_cons]
  omega
theorem zz73 (r : List S57) : ∀ (xs : List Int) (w B : Int), gatesOk w r = true → w + r.length ≤ xs.length → (∀ x ∈ xs, 0 ≤ x ∧ x ≤ B) → ∀ x ∈ fanG xs r, 0 ≤ x ∧ x ≤ B + 2 * r.length := by
 induction r with
 | nil => intro xs w B _ _ h x hx; have := h x hx; simp; omega
 | cons g r ih =>
  intro xs w B hk hw h x hx
  rw [gatesOk, Bool.and_eq_true] at hk
  rw [List.length_cons] at hw ⊢
  obtain ⟨_, _, h1, h2, h3, h4, _⟩ := of_decide_eq_true hk.1
  have b1 := zz60 (xs := xs) h1 (by omega) h
  rw [fanG] at hx
  split at hx
  ·have := ih _ (w + 1) (B + 1) hk.2 (by rw [zz59]; omega) b1 x hx
   omega
  ·have := ih _ (w + 1) (B + 1 + 1) hk.2 (by rw [zz59, zz59]; omega) (zz60 h3 (by rw [zz59]; omega) b1) x hx
   omega
theorem zz74 (r : List Int) : ∀ (xs : List Int) (B : Int), (∀ o ∈ r, 0 ≤ o ∧ o < xs.length) → (∀ x ∈ xs, 0 ≤ x ∧ x ≤ B) → ∀ x ∈ fanO xs r, 0 ≤ x ∧ x ≤ B + r.length := by
 induction r with
 | nil => intro xs B _ h x hx; have := h x hx; simp; omega
 | cons o r ih =>
  intro xs B ho h x hx
  have h1 := ho o (by simp)
  rw [fanO] at hx
  have := ih _ (B + 1) (fun q hq => by rw [zz59]; exact ho q (by simp [hq])) (zz60 h1.1 h1.2 h) x hx
  rw [List.length_cons]
  omega
theorem zz75 (n : Int) (gs : List S57) (os : List Int) (hn : I64 n) (hg : gs.length ≤ 1048576) (ho : os.length ≤ 1048576) :
  Ev (fun k => (spec_ttInputs.f n).bind fun t108 => (if t108 = true then (if (gs.length : Int) ≤ 16 then ((spec_l1In.f (os.length : Int) 1 4).bind fun t109 => (if t109 = true then ((spec_l1All.f k os 0 (wrap64 ((wrap64 (n + (gs.length : Int))) - 1))).bind fun t110 => (some t110)) else (some false))) else (some false)) else (some false)))
   (decide (0 ≤ n ∧ n ≤ 4 ∧ gs.length ≤ 16 ∧ 1 ≤ os.length ∧ os.length ≤ 4) && os.all (inB 0 (n + gs.length - 1))) := by
 rw [zz27, l1In_eq]
 refine Ev.bind (ev_c rfl) (ev_ite (fun h1 => ?_) (fun h1 => ?_))
 ·have h1' := of_decide_eq_true h1
  refine ev_ite (fun h2 => ?_) (fun h2 => ?_)
  ·refine Ev.bind (ev_c rfl) (ev_ite (fun h3 => ?_) (fun h3 => ?_))
   ·have h3' := of_decide_eq_true h3
    rw [w64 (n := n + gs.length) (by omega) (by omega), w64 (by omega) (by omega), decide_eq_true (by omega), Bool.true_and]
    exact Ev.bind (l1All_ev os 0 _ (by omega)) (Ev.now _)
   ·rw [decide_eq_false (fun hh => h3 (decide_eq_true (by omega))), Bool.false_and]
    exact Ev.now _
  ·rw [decide_eq_false (by omega), Bool.false_and]
   exact Ev.now _
 ·rw [decide_eq_false (fun hh => h1 (decide_eq_true (by omega))), Bool.false_and]
  exact Ev.now _
theorem zz76 (n : Int) (gs : List S57) (os : List Int) (hn : I64 n) (hg : gs.length ≤ 1048576) (ho : os.length ≤ 1048576) (r : List S57) : ∀ (p : List S57) (i : Int), i = p.length → gs = p ++ r →
  Ev (fun k => spec_ciGood.l0 k gs gs.length i n gs os) (decide (0 ≤ n ∧ n ≤ 4 ∧ gs.length ≤ 16 ∧ 1 ≤ os.length ∧ os.length ≤ 4) && (gatesOk (n + i) r && os.all (inB 0 (n + gs.length - 1)))) := by
 have hn' := hn
 unfold I64 at hn'
 induction r with
 | nil =>
  intro p i hi e
  have hlen : gs.length = p.length := by rw [e]; simp
  apply ev_up
  simp only [spec_ciGood.l0]
  refine ev_n (by omega) ?_
  rw [gatesOk, Bool.true_and]
  exact zz75 n gs os hn hg ho
 | cons x r ih =>
  intro p i hi e
  have hlen : gs.length = p.length + r.length + 1 := by rw [e]; simp; omega
  have hx : rd_T57 gs i = x := by rw [e]; exact rdGateA hi
  have ih' := ih (p ++ [x]) (i + 1) (by simp; omega) (by rw [e]; simp)
  apply ev_up
  simp only [spec_ciGood.l0]
  refine ev_p (by omega) (ev_p (by omega) (ev_p (by omega) ?_))
  rw [hx, w64 (n := i + 1) (by omega) (by omega)]
  simp only [l1In_eq]
  by_cases hv : 0 ≤ n ∧ n ≤ 4
  ·rw [w64 (n := n + i) (by omega) (by omega), w64 (n := n + i - 1) (by omega) (by omega)]
   have no : gateOk (n + i) x = false → Ev (fun _ => some false) (decide (0 ≤ n ∧ n ≤ 4 ∧ gs.length ≤ 16 ∧ 1 ≤ os.length ∧ os.length ≤ 4) && (gatesOk (n + i) (x :: r) && os.all (inB 0 (n + gs.length - 1)))) := fun h => by
    rw [gatesOk, h, Bool.false_and, Bool.false_and, Bool.and_false]
    exact Ev.now _
   have yes : gateOk (n + i) x = true → Ev (fun k => spec_ciGood.l0 k gs gs.length (i + 1) n gs os) (decide (0 ≤ n ∧ n ≤ 4 ∧ gs.length ≤ 16 ∧ 1 ≤ os.length ∧ os.length ≤ 4) && (gatesOk (n + i) (x :: r) && os.all (inB 0 (n + gs.length - 1)))) := fun h => by
    rw [gatesOk, h, Bool.true_and, Int.add_assoc]
    exact ih'
   refine Ev.bind (ev_c rfl) (ev_ite (fun h1 => Ev.bind (ev_c rfl) (ev_ite (fun h2 => Ev.bind (ev_c rfl) (ev_ite (fun h3 => ev_ite (fun h4 => ev_ite (fun h5 => ?_) (fun h5 => ?_)) (fun h4 => ?_)) (fun h3 => ?_))) (fun h2 => ?_))) (fun h1 => ?_))
   ·simp only [decide_eq_true_eq] at h1 h2 h3
    exact yes (decide_eq_true (by omega))
   ·exact no (decide_eq_false (fun hh => h5 (hh.2.2.2.2.2.2 h4).symm))
   ·simp only [decide_eq_true_eq] at h1 h2 h3
    exact yes (decide_eq_true (by omega))
   ·simp only [decide_eq_true_eq] at h3
    exact no (decide_eq_false (by omega))
   ·simp only [decide_eq_true_eq] at h2
    exact no (decide_eq_false (by omega))
   ·simp only [decide_eq_true_eq] at h1
    exact no (decide_eq_false (by omega))
  ·have ef : decide (0 ≤ n ∧ n ≤ 4 ∧ gs.length ≤ 16 ∧ 1 ≤ os.length ∧ os.length ≤ 4) = false := decide_eq_false (by omega)
   rw [ef, Bool.false_and] at ih' ⊢
   refine Ev.bind (ev_c rfl) (ev_ite (fun h1 => Ev.bind (ev_c rfl) (ev_ite (fun h2 => Ev.bind (ev_c rfl) (ev_ite (fun h3 => ev_ite (fun h4 => ev_ite (fun h5 => ih') (fun h5 => Ev.now _)) (fun h4 => ih')) (fun h3 => Ev.now _))) (fun h2 => Ev.now _))) (fun h1 => Ev.now _))
theorem zz77 (n : Int) (gs : List S57) (os : List Int) (hn : I64 n) (hg : gs.length ≤ 1048576) (ho : os.length ≤ 1048576) : Ev (fun k => spec_ciGood.f k n gs os) (circuitM n gs os) := by
 unfold spec_ciGood.f circuitM
 have := zz76 n gs os hn hg ho gs [] 0 rfl rfl
 rwa [Int.add_zero] at this
theorem zz78 (a b : Int) : spec_l1Most.f a b = some (if a < b then b else a) := by
 unfold spec_l1Most.f
 by_cases h : a > b
 ·rw [if_pos h, if_neg (by omega)]
 ·rw [if_neg h]
  by_cases h2 : a < b
  ·rw [if_pos h2]
  ·rw [if_neg h2]
   congr 1
   omega
theorem zz79 (a : Nat) (ha : a ≤ 4) (gs : List S57) (os : List Int) (hg : gs.length ≤ 16) (r : List S57) : ∀ (p : List S57) (ds : List Int) (i : Int), i = p.length → gs = p ++ r → (ds.length : Int) = a + i → gatesOk (a + i) r = true → (∀ x ∈ ds, 0 ≤ x ∧ x ≤ i) →
  Ev (fun k => spec_ciDepths.l0 k ds gs gs.length i a gs os) ((depthsM ds r).drop a) := by
 induction r with
 | nil =>
  intro p ds i hi e hd hk hb
  have hlen : gs.length = p.length := by rw [e]; simp
  apply ev_up
  simp only [spec_ciDepths.l0]
  refine ev_n (by omega) (ev_p (by omega) (ev_p (by omega) ?_))
  rw [Int.toNat_natCast]
  exact Ev.now _
 | cons x r ih =>
  intro p ds i hi e hd hk hb
  have hlen : gs.length = p.length + r.length + 1 := by rw [e]; simp; omega
  have hx : rd_T57 gs i = x := by rw [e]; exact rdGateA hi
  rw [gatesOk, Bool.and_eq_true] at hk
  have hk1 := of_decide_eq_true hk.1
  have b1 := hb _ (rd_mem (i := x.f1) (by omega) (by omega))
  have b2 := hb _ (rd_mem (i := x.f2) (by omega) (by omega))
  apply ev_up
  simp only [spec_ciDepths.l0]
  refine ev_p (by omega) (ev_p (by omega) (ev_p (by omega) ?_))
  rw [hx]
  refine ev_p (by omega) (ev_p (by omega) (ev_p (by omega) (ev_p (by omega) ?_)))
  rw [zz78]
  refine Ev.bind (ev_c rfl) (ev_p (by omega) ?_)
  have hm : 0 ≤ (if rd ds x.f1 < rd ds x.f2 then rd ds x.f2 else rd ds x.f1) ∧ (if rd ds x.f1 < rd ds x.f2 then rd ds x.f2 else rd ds x.f1) ≤ i := by
   split <;> omega
  rw [w64 (n := i + 1) (by omega) (by omega), w64 (by omega) (by omega), depthsM]
  refine ih (p ++ [x]) _ (i + 1) (by simp; omega) (by rw [e]; simp) (by simp; omega) (by rw [← Int.add_assoc]; exact hk.2) (fun y hy => ?_)
  rw [List.mem_append] at hy
  rcases hy with hy | hy
  ·have := hb y hy
   omega
  ·simp only [List.mem_singleton] at hy
   omega
theorem zz80 (a : Nat) (gs : List S57) (os : List Int) (h : circuitM a gs os = true) : Ev (fun k => spec_ciDepths.f k a gs os) ((depthsM (List.replicate a 0) gs).drop a) := by
 obtain ⟨b, hab, ha, hg, _, _, hk, _⟩ := zz35 h
 obtain rfl : a = b := by omega
 unfold spec_ciDepths.f
 refine ev_p (by omega) (ev_p (by omega) ?_)
 rw [Int.toNat_natCast]
 exact zz79 a ha gs os hg gs [] _ 0 rfl rfl (by simp) (by rw [Int.add_zero]; exact hk) (fun x hx => by have := (List.mem_replicate.1 hx).2; omega)
def zz81 (n : Int) (gs : List S57) (os : List Int) : List Int × Bool := if circuitM n gs os = true then ((depthsM (List.replicate n.toNat 0) gs).drop n.toNat, true) else ([], false)
theorem zz82 (n : Int) (gs : List S57) (os : List Int) (h0 : 0 ≤ n) (h4 : n ≤ 4) (hg : gs.length ≤ 1048576) (ho : os.length ≤ 1048576) (r : List Int) : ∀ (p : List Int) (i : Int), i = p.length → os = p ++ r →
  Ev (fun k => impl_IsCircuit.l1 k os os.length i n gs os) (r.all (inB 0 (n + gs.length - 1))) := by
 induction r with
 | nil =>
  intro p i hi e
  have hlen : os.length = p.length := by rw [e]; simp
  apply ev_up
  simp only [impl_IsCircuit.l1]
  exact ev_n (by omega) (Ev.now _)
 | cons x r ih =>
  intro p i hi e
  have hlen : os.length = p.length + r.length + 1 := by rw [e]; simp; omega
  have hx : rd os i = x := by rw [e]; exact rdA hi
  have ih' := ih (p ++ [x]) (i + 1) (by simp; omega) (by rw [e]; simp)
  apply ev_up
  simp only [impl_IsCircuit.l1]
  refine ev_p (by omega) (ev_p (by omega) (ev_p (by omega) ?_))
  rw [hx, w64 (n := i + 1) (by omega) (by omega), w64 (n := n + gs.length) (by omega) (by omega)]
  refine ev_ite (fun h1 => ?_) (fun h1 => ev_ite (fun h2 => ?_) (fun h2 => ?_))
  ·rw [List.all_cons, show inB 0 (n + gs.length - 1) x = false from decide_eq_false (by omega), Bool.false_and]
   exact Ev.now _
  ·rw [List.all_cons, show inB 0 (n + gs.length - 1) x = false from decide_eq_false (by omega), Bool.false_and]
   exact Ev.now _
  ·rw [List.all_cons, show inB 0 (n + gs.length - 1) x = true from decide_eq_true (by omega), Bool.true_and]
   exact ih'
theorem zz83 (n : Int) (gs : List S57) (os : List Int) (h0 : 0 ≤ n) (h4 : n ≤ 4) (hg : gs.length ≤ 1048576) (ho : os.length ≤ 1048576) (r : List S57) : ∀ (p : List S57) (i : Int), i = p.length → gs = p ++ r →
  Ev (fun k => impl_IsCircuit.l0 k gs gs.length i n gs os) (gatesOk (n + i) r && os.all (inB 0 (n + gs.length - 1))) := by
 induction r with
 | nil =>
  intro p i hi e
  have hlen : gs.length = p.length := by rw [e]; simp
  apply ev_up
  simp only [impl_IsCircuit.l0]
  refine ev_n (by omega) ?_
  rw [gatesOk, Bool.true_and]
  exact zz82 n gs os h0 h4 hg ho os [] 0 rfl rfl
 | cons x r ih =>
  intro p i hi e
  have hlen : gs.length = p.length + r.length + 1 := by rw [e]; simp; omega
  have hx : rd_T57 gs i = x := by rw [e]; exact rdGateA hi
  have ih' := ih (p ++ [x]) (i + 1) (by simp; omega) (by rw [e]; simp)
  apply ev_up
  simp only [impl_IsCircuit.l0]
  refine ev_p (by omega) (ev_p (by omega) (ev_p (by omega) ?_))
  rw [hx, w64 (n := i + 1) (by omega) (by omega), w64 (n := n + i) (by omega) (by omega)]
  have no : gateOk (n + i) x = false → Ev (fun _ => some false) (gatesOk (n + i) (x :: r) && os.all (inB 0 (n + gs.length - 1))) := fun h => by
   rw [gatesOk, h, Bool.false_and, Bool.false_and]
   exact Ev.now _
  have yes : gateOk (n + i) x = true → Ev (fun k => impl_IsCircuit.l0 k gs gs.length (i + 1) n gs os) (gatesOk (n + i) (x :: r) && os.all (inB 0 (n + gs.length - 1))) := fun h => by
   rw [gatesOk, h, Bool.true_and, Int.add_assoc]
   exact ih'
  refine ev_ite (fun c => no (decide_eq_false (by omega))) (fun c1 => ev_ite (fun c => no (decide_eq_false (by omega))) (fun c2 => ev_ite (fun c => no (decide_eq_false (by omega))) (fun c3 => ev_ite (fun c => no (decide_eq_false (by omega))) (fun c4 => ev_ite (fun c => no (decide_eq_false (by omega))) (fun c5 => ev_ite (fun c => no (decide_eq_false (by omega))) (fun c6 => ev_ite (fun c7 => ev_ite (fun c8 => yes (decide_eq_true (by omega))) (fun c8 => no (decide_eq_false (fun hh => c8 (hh.2.2.2.2.2.2 c7))))) (fun c7 => yes (decide_eq_true (by omega)))))))))
theorem zz84 (n : Int) (gs : List S57) (os : List Int) (hg : gs.length ≤ 1048576) (ho : os.length ≤ 1048576) : Ev (fun k => impl_IsCircuit.f k n gs os) (circuitM n gs os) := by
 have bad : ¬ (0 ≤ n ∧ n ≤ 4 ∧ gs.length ≤ 16 ∧ 1 ≤ os.length ∧ os.length ≤ 4) → Ev (fun k => impl_IsCircuit.j0 k true n gs os) (circuitM n gs os) := fun h => by
  apply ev_up
  simp only [impl_IsCircuit.j0]
  unfold circuitM
  rw [decide_eq_false h, Bool.false_and]
  exact ev_p (by trivial) (Ev.now _)
 unfold impl_IsCircuit.f
 refine ev_ite (fun c1 => bad (by omega)) (fun c1 => ev_ite (fun c2 => bad (by omega)) (fun c2 => ev_ite (fun c3 => bad (by omega)) (fun c3 => ev_ite (fun c4 => bad (by omega)) (fun c4 => ?_))))
 apply ev_up
 simp only [impl_IsCircuit.j0]
 refine ev_ite (fun c5 => ?_) (fun c5 => ?_)
 ·have c5' := of_decide_eq_true c5
  unfold circuitM
  rw [decide_eq_false (by omega), Bool.false_and]
  exact Ev.now _
 ·have c5' : ¬ (os.length : Int) > 4 := fun h => c5 (decide_eq_true h)
  unfold circuitM
  rw [decide_eq_true (by omega), Bool.true_and]
  have := zz83 n gs os (by omega) (by omega) hg ho gs [] 0 rfl rfl
  rwa [Int.add_zero] at this
theorem zz85 (a : Nat) (ha : a ≤ 4) (gs : List S57) (os : List Int) (hg : gs.length ≤ 16) (r : List S57) : ∀ (p : List S57) (ds : List Int) (i : Int), i = p.length → gs = p ++ r → (ds.length : Int) = a + i → gatesOk (a + i) r = true → (∀ x ∈ ds, 0 ≤ x ∧ x ≤ i) →
  Ev (fun k => impl_GateDepths.l0 k ds gs gs.length i a gs os) ((depthsM ds r).drop a, true) := by
 induction r with
 | nil =>
  intro p ds i hi e hd hk hb
  have hlen : gs.length = p.length := by rw [e]; simp
  apply ev_up
  simp only [impl_GateDepths.l0]
  refine ev_n (by omega) (Ev.bind (ev_c rfl) (ev_p (by omega) (ev_p (by omega) (Ev.bind (ev_c rfl) (ev_p (by simp; omega) ?_)))))
  rw [Int.toNat_natCast]
  exact Ev.now _
 | cons x r ih =>
  intro p ds i hi e hd hk hb
  have hlen : gs.length = p.length + r.length + 1 := by rw [e]; simp; omega
  have hx : rd_T57 gs i = x := by rw [e]; exact rdGateA hi
  rw [gatesOk, Bool.and_eq_true] at hk
  have hk1 := of_decide_eq_true hk.1
  have b1 := hb _ (rd_mem (i := x.f1) (by omega) (by omega))
  have b2 := hb _ (rd_mem (i := x.f2) (by omega) (by omega))
  apply ev_up
  simp only [impl_GateDepths.l0]
  refine ev_p (by omega) (ev_p (by omega) (ev_p (by omega) ?_))
  rw [hx]
  refine ev_p (by omega) (ev_p (by omega) (ev_p (by omega) (ev_p (by omega) (ev_p (by omega) ?_))))
  have hm : 0 ≤ (if rd ds x.f1 < rd ds x.f2 then rd ds x.f2 else rd ds x.f1) ∧ (if rd ds x.f1 < rd ds x.f2 then rd ds x.f2 else rd ds x.f1) ≤ i := by
   split <;> omega
  unfold mx
  rw [w64 (n := i + 1) (by omega) (by omega), w64 (by omega) (by omega), depthsM]
  refine ih (p ++ [x]) _ (i + 1) (by simp; omega) (by rw [e]; simp) (by simp; omega) (by rw [← Int.add_assoc]; exact hk.2) (fun y hy => ?_)
  rw [List.mem_append] at hy
  rcases hy with hy | hy
  ·have := hb y hy
   omega
  ·simp only [List.mem_singleton] at hy
   omega
theorem zz86 (n : Int) (gs : List S57) (os : List Int) (hg : gs.length ≤ 1048576) (ho : os.length ≤ 1048576) : Ev (fun k => impl_GateDepths.f k n gs os) (zz81 n gs os) := by
 unfold impl_GateDepths.f zz81
 refine Ev.bind (zz84 n gs os hg ho) (ev_ite (fun h => ?_) (fun h => ?_))
 ·rw [if_pos h]
  obtain ⟨a, rfl, ha, hg', _, _, hk, _⟩ := zz35 h
  refine ev_p (by omega) (ev_p (by omega) ?_)
  rw [Int.toNat_natCast]
  exact zz85 a ha gs os hg' gs [] _ 0 rfl rfl (by simp) (by rw [Int.add_zero]; exact hk) (fun x hx => by have := (List.mem_replicate.1 hx).2; omega)
 ·rw [if_neg h]
  exact Ev.now _
theorem zz87 (n : Int) (gs : List S57) (os : List Int) (hn : I64 n) (hg : gs.length ≤ 1048576) (ho : os.length ≤ 1048576) : Ev (fun k => spec_GateDepths.f k n gs os) (zz81 n gs os) := by
 unfold spec_GateDepths.f zz81
 refine Ev.bind (zz77 n gs os hn hg ho) (ev_ite (fun h => ?_) (fun h => ?_))
 ·rw [if_pos h]
  obtain ⟨a, rfl, _⟩ := zz35 h
  rw [Int.toNat_natCast]
  exact Ev.bind (zz80 a gs os h) (Ev.now _)
 ·rw [if_neg h]
  exact Ev.now _
theorem zz88 (os : List Int) (ho : os.length ≤ 4) (r : List Int) : ∀ (p : List Int) (xs : List Int) (B i : Int), i = p.length → os = p ++ r → (∀ o ∈ r, 0 ≤ o ∧ o < xs.length) → (∀ x ∈ xs, 0 ≤ x ∧ x ≤ B) → B + r.length ≤ 1000 →
  Ev (fun k => spec_FanOuts.l1 k xs os os.length i) (fanO xs r, true) := by
 induction r with
 | nil =>
  intro p xs B i hi e hr hb hB
  have hlen : os.length = p.length := by rw [e]; simp
  apply ev_up
  simp only [spec_FanOuts.l1]
  exact ev_n (by omega) (Ev.now _)
 | cons o r ih =>
  intro p xs B i hi e hr hb hB
  have hlen : os.length = p.length + r.length + 1 := by rw [e]; simp; omega
  simp only [List.length_cons] at hB
  have hx : rd os i = o := by rw [e]; exact rdA hi
  have ho' := hr o (by simp)
  have b1 := hb _ (rd_mem ho'.1 ho'.2)
  apply ev_up
  simp only [spec_FanOuts.l1]
  refine ev_p (by omega) (ev_p (by omega) (ev_p (by omega) ?_))
  rw [hx]
  refine ev_p (by omega) (ev_p (by omega) ?_)
  rw [w64 (n := i + 1) (by omega) (by omega), w64 (by omega) (by omega), fanO]
  exact ih (p ++ [o]) (bump xs o) (B + 1) (i + 1) (by simp; omega) (by rw [e]; simp) (fun o' h => by rw [zz59]; exact hr o' (by simp [h])) (zz60 ho'.1 ho'.2 hb) (by omega)
theorem zz89 (n : Int) (gs : List S57) (os : List Int) (N : Int) (hg : gs.length ≤ 16) (ho : os.length ≤ 4) (hor : ∀ o ∈ os, 0 ≤ o ∧ o < N) (r : List S57) : ∀ (p : List S57) (xs : List Int) (B i w : Int), i = p.length → gs = p ++ r → (xs.length : Int) = N → w + r.length ≤ N → gatesOk w r = true → (∀ x ∈ xs, 0 ≤ x ∧ x ≤ B) → B + 2 * r.length ≤ 500 →
  Ev (fun k => spec_FanOuts.l0 k xs gs gs.length i n gs os) (fanO (fanG xs r) os, true) := by
 induction r with
 | nil =>
  intro p xs B i w hi e hx hw hk hb hB
  have hlen : gs.length = p.length := by rw [e]; simp
  apply ev_up
  simp only [spec_FanOuts.l0]
  refine ev_n (by omega) ?_
  exact zz88 os ho os [] xs B 0 rfl rfl (fun o h => by rw [hx]; exact hor o h) hb (by simp at hB; omega)
 | cons g r ih =>
  intro p xs B i w hi e hx hw hk hb hB
  have hlen : gs.length = p.length + r.length + 1 := by rw [e]; simp; omega
  simp only [List.length_cons, Int.natCast_add] at hB hw
  have hxx : rd_T57 gs i = g := by rw [e]; exact rdGateA hi
  rw [gatesOk, Bool.and_eq_true] at hk
  have hk1 := of_decide_eq_true hk.1
  have b1 := hb _ (rd_mem (i := g.f1) (by omega) (by omega))
  have bb := zz60 (i := g.f1) (by omega) (by omega) hb
  have b2 := bb _ (rd_mem (ds := bump xs g.f1) (i := g.f2) (by omega) (by rw [zz59]; omega))
  apply ev_up
  simp only [spec_FanOuts.l0]
  refine ev_p (by omega) (ev_p (by omega) (ev_p (by omega) ?_))
  rw [hxx]
  refine ev_p (by omega) (ev_p (by omega) ?_)
  rw [w64 (n := i + 1) (by omega) (by omega), w64 (n := rd xs g.f1 + 1) (by omega) (by omega)]
  refine Ev.bind (ev_c (show some (bump xs g.f1) = some (bump xs g.f1) from rfl)) ?_
  rw [fanG]
  refine ev_ite (fun h4 => ?_) (fun h4 => ?_)
  ·rw [if_pos h4]
   exact ih (p ++ [g]) _ (B + 1) (i + 1) (w + 1) (by simp; omega) (by rw [e]; simp) (by rw [zz59]; exact hx) (by omega) hk.2 bb (by omega)
  ·rw [if_neg h4]
   refine ev_p (by omega) (ev_p (by omega) ?_)
   rw [w64 (n := rd (bump xs g.f1) g.f2 + 1) (by omega) (by omega)]
   exact ih (p ++ [g]) (bump (bump xs g.f1) g.f2) (B + 1 + 1) (i + 1) (w + 1) (by simp; omega) (by rw [e]; simp) (by rw [zz59, zz59]; exact hx) (by omega) hk.2 (zz60 (by omega) (by rw [zz59]; omega) bb) (by omega)
theorem zz90 (k : Nat) : (∀ xs gs e i n g2 os, impl_FanOuts.l0 k xs gs e i n g2 os = spec_FanOuts.l0 k xs gs e i n g2 os) ∧ (∀ xs os e i, impl_FanOuts.l1 k xs os e i = spec_FanOuts.l1 k xs os e i) := by
 induction k with
 | zero => exact ⟨fun _ _ _ _ _ _ _ => rfl, fun _ _ _ _ => rfl⟩
 | succ k ih =>
  constructor
  ·intro xs gs e i n g2 os
   simp only [impl_FanOuts.l0, spec_FanOuts.l0, ih.1, ih.2]
  ·intro xs os e i
   simp only [impl_FanOuts.l1, spec_FanOuts.l1, ih.2]
def fanOutsM (n : Int) (gs : List S57) (os : List Int) : List Int × Bool := if circuitM n gs os = true then (fanO (fanG (List.replicate (n.toNat + gs.length) 0) gs) os, true) else ([], false)
theorem zz92 (a : Nat) (gs : List S57) (os : List Int) (h : circuitM a gs os = true) : Ev (fun k => spec_FanOuts.l0 k (List.replicate (a + gs.length) 0) gs gs.length 0 a gs os) (fanO (fanG (List.replicate (a + gs.length) 0) gs) os, true) := by
 obtain ⟨b, hab, ha, hg, _, ho, hk, hor⟩ := zz35 h
 exact zz89 a gs os (a + gs.length) hg ho hor gs [] _ 0 0 a rfl rfl (by simp) (by omega) hk (fun x hx => by have := (List.mem_replicate.1 hx).2; omega) (by omega)
theorem zz93 (n : Int) (gs : List S57) (os : List Int) (hn : I64 n) (hg : gs.length ≤ 1048576) (ho : os.length ≤ 1048576) : Ev (fun k => spec_FanOuts.f k n gs os) (fanOutsM n gs os) := by
 unfold spec_FanOuts.f fanOutsM
 refine Ev.bind (zz77 n gs os hn hg ho) (ev_ite (fun h => ?_) (fun h => ?_))
 ·rw [if_pos h]
  obtain ⟨a, rfl, ha, hg', _⟩ := zz35 h
  rw [wN (n := (a : Int) + gs.length) (m := a + gs.length) (by omega) (by omega), Int.toNat_natCast, Int.toNat_natCast]
  exact ev_p (by omega) (ev_p (by omega) (zz92 a gs os h))
 ·rw [if_neg h]
  exact Ev.now _
theorem zz94 (n : Int) (gs : List S57) (os : List Int) (hg : gs.length ≤ 1048576) (ho : os.length ≤ 1048576) : Ev (fun k => impl_FanOuts.f k n gs os) (fanOutsM n gs os) := by
 unfold impl_FanOuts.f fanOutsM
 refine Ev.bind (zz84 n gs os hg ho) (ev_ite (fun h => ?_) (fun h => ?_))
 ·rw [if_pos h]
  obtain ⟨a, rfl, ha, hg', _⟩ := zz35 h
  rw [wN (n := (a : Int) + gs.length) (m := a + gs.length) (by omega) (by omega), Int.toNat_natCast, Int.toNat_natCast]
  simp only [(zz90 _).1]
  exact ev_p (by omega) (ev_p (by omega) (zz92 a gs os h))
 ·rw [if_neg h]
  exact Ev.now _
def pairG (f : Nat → Nat → Bool) (i : Nat) : Nat → Nat → List (List Int)
 | _, 0 => []
 | j, d + 1 => (if f i j = true then [[(i : Int), (j : Int)]] else []) ++ pairG f i (j + 1) d
theorem zz96 (f : Nat → Nat → Bool) (i d : Nat) : ∀ j, (pairG f i j d).length ≤ d := by
 induction d with
 | zero => intro j; simp [pairG]
 | succ d ih =>
  intro j
  have := ih (j + 1)
  rw [pairG]
  split <;> simp <;> omega
theorem zz97 (f : Nat → Nat → Bool) (i d : Nat) : ∀ j, ∀ y ∈ pairG f i j d, y.length = 2 := by
 induction d with
 | zero => intro j y hy; simp [pairG] at hy
 | succ d ih =>
  intro j y hy
  rw [pairG, List.mem_append] at hy
  rcases hy with hy | hy
  ·split at hy
   ·rw [List.mem_singleton] at hy
    rw [hy]
    rfl
   ·simp at hy
  ·exact ih (j + 1) y hy
def pairsG (f : Nat → Nat → Bool) : Nat → Nat → List (List Int)
 | _, 0 => []
 | i, d + 1 => pairG f i (i + 1) d ++ pairsG f (i + 1) d
theorem zz99 (f : Nat → Nat → Bool) (N d : Nat) (hd : d ≤ N) : ∀ i, (pairsG f i d).length ≤ N * d := by
 induction d with
 | zero => intro i; simp [pairsG]
 | succ d ih =>
  intro i
  have h1 := ih (by omega) (i + 1)
  have h2 := zz96 f i d (i + 1)
  have h3 : N * (d + 1) = N * d + N := Nat.mul_succ N d
  rw [pairsG, List.length_append]
  omega
theorem zz100 (f : Nat → Nat → Bool) (d : Nat) : ∀ i, ∀ y ∈ pairsG f i d, y.length = 2 := by
 induction d with
 | zero => intro i y hy; simp [pairsG] at hy
 | succ d ih =>
  intro i y hy
  rw [pairsG, List.mem_append] at hy
  rcases hy with hy | hy
  ·exact zz97 f i d (i + 1) y hy
  ·exact ih (i + 1) y hy
theorem zz101 (a b : List Int) (hl : a.length = b.length) (hm : a.length ≤ 1048576) (r : List Int) : ∀ (s p q : List Int) (i : Int), i = p.length → p.length = q.length → a = p ++ r → b = q ++ s →
  Ev (fun k => spec_l1Same.l0 k a b a.length i) (decide (r = s)) := by
 induction r with
 | nil =>
  intro s p q i hi hpq ea eb
  have h1 : a.length = p.length := by rw [ea]; simp
  have h2 : b.length = q.length + s.length := by rw [eb]; simp
  obtain rfl : s = [] := List.length_eq_zero_iff.1 (by omega)
  apply ev_up
  simp only [spec_l1Same.l0]
  refine ev_n (by omega) ?_
  simpa using Ev.now true
 | cons x r ih =>
  intro s p q i hi hpq ea eb
  have h1 : a.length = p.length + r.length + 1 := by rw [ea]; simp; omega
  have h2 : b.length = q.length + s.length := by rw [eb]; simp
  match s, h2, eb with
  | [], h2, _ => simp at h2; omega
  | y :: s, h2, eb =>
   have hx : rd a i = x := by rw [ea]; exact rdA hi
   have hy : rd b i = y := by rw [eb]; exact rdA (by omega)
   have ih' := ih s (p ++ [x]) (q ++ [y]) (i + 1) (by simp; omega) (by simp; omega) (by rw [ea]; simp) (by rw [eb]; simp)
   simp only [List.length_cons] at h2
   apply ev_up
   simp only [spec_l1Same.l0]
   refine ev_p (by omega) (ev_p (by omega) (ev_p (by omega) (ev_p (by omega) ?_)))
   rw [hx, hy, w64 (by omega) (by omega)]
   refine ev_ite (fun hxy => ?_) (fun hxy => ?_)
   ·refine ev_eq ih' ?_
    simp [hxy]
   ·refine ev_eq (Ev.now false) ?_
    simp [hxy]
theorem zz102 (a b : List Int) (hm : a.length ≤ 1048576) : Ev (fun k => spec_l1Same.f k a b) (decide (a = b)) := by
 unfold spec_l1Same.f
 refine ev_ite (fun hl => ?_) (fun hl => ?_)
 ·exact zz101 a b (by omega) hm a b [] [] 0 rfl rfl rfl rfl
 ·refine ev_eq (Ev.now false) ?_
  symm
  apply decide_eq_false
  rintro rfl
  exact hl rfl
theorem zz103 (a b : List Int) (hl : a.length = b.length) (hm : a.length ≤ 1048576) (r : List Int) : ∀ (s p q : List Int) (i : Int), i = p.length → p.length = q.length → a = p ++ r → b = q ++ s →
  Ev (fun k => slices_Equal_int_int.l0 k a b a.length i) (decide (r = s)) := by
 induction r with
 | nil =>
  intro s p q i hi hpq ea eb
  have h1 : a.length = p.length := by rw [ea]; simp
  have h2 : b.length = q.length + s.length := by rw [eb]; simp
  obtain rfl : s = [] := List.length_eq_zero_iff.1 (by omega)
  apply ev_up
  simp only [slices_Equal_int_int.l0]
  refine ev_n (by omega) ?_
  simpa using Ev.now true
 | cons x r ih =>
  intro s p q i hi hpq ea eb
  have h1 : a.length = p.length + r.length + 1 := by rw [ea]; simp; omega
  have h2 : b.length = q.length + s.length := by rw [eb]; simp
  match s, h2, eb with
  | [], h2, _ => simp at h2; omega
  | y :: s, h2, eb =>
   have hx : rd a i = x := by rw [ea]; exact rdA hi
   have hy : rd b i = y := by rw [eb]; exact rdA (by omega)
   have ih' := ih s (p ++ [x]) (q ++ [y]) (i + 1) (by simp; omega) (by simp; omega) (by rw [ea]; simp) (by rw [eb]; simp)
   simp only [List.length_cons] at h2
   apply ev_up
   simp only [slices_Equal_int_int.l0]
   refine ev_p (by omega) (ev_p (by omega) (ev_p (by omega) (ev_p (by omega) ?_)))
   rw [hx, hy, w64 (by omega) (by omega)]
   refine ev_ite (fun hxy => ?_) (fun hxy => ?_)
   ·refine ev_eq ih' ?_
    simp [hxy]
   ·refine ev_eq (Ev.now false) ?_
    simp [hxy]
theorem zz104 (a b : List Int) (hm : a.length ≤ 1048576) : Ev (fun k => slices_Equal_int_int.f k a b) (decide (a = b)) := by
 unfold slices_Equal_int_int.f
 refine ev_ite (fun hl => ?_) (fun hl => ?_)
 ·exact zz103 a b (by omega) hm a b [] [] 0 rfl rfl rfl rfl
 ·refine ev_eq (Ev.now false) ?_
  symm
  apply decide_eq_false
  rintro rfl
  exact hl rfl
theorem zz105 (a n : Nat) (ha : a < 2 ^ 62) (hn : n ≤ 62) : spec_ttBit.f (a : Int) (n : Int) = some (((a >>> n) % 2 : Nat) : Int) := by
 unfold spec_ttBit.f
 rw [u64w (by omega) (by omega), if_pos (by omega), bit_and1 a n ha hn]
theorem zz106 (a b : Int) : spec_l1Most.f a b = some (if a < b then b else a) := by
 unfold spec_l1Most.f
 by_cases h : a > b
 ·rw [if_pos h, if_neg (by omega)]
 ·rw [if_neg h]
  by_cases h2 : a < b
  ·rw [if_pos h2]
  ·rw [if_neg h2]
   congr 1
   omega
theorem zz107 (gs : List S57) (hg : gs.length ≤ 16) (r : List S57) : ∀ (p : List S57) (xs : List Int) (w i : Int), i = p.length → gs = p ++ r → (xs.length : Int) = w → w + r.length ≤ 1000 → gatesOk w r = true → (∀ b ∈ xs, b = 0 ∨ b = 1) →
  Ev (fun k => spec_ciWires.l1 k xs gs gs.length i) (wiresM xs r) := by
 induction r with
 | nil =>
  intro p xs w i hi e hw hwl hk hb
  have hlen : gs.length = p.length := by rw [e]; simp
  apply ev_up
  simp only [spec_ciWires.l1]
  exact ev_n (by omega) (Ev.now _)
 | cons g r ih =>
  intro p xs w i hi e hw hwl hk hb
  have hlen : gs.length = p.length + r.length + 1 := by rw [e]; simp; omega
  simp only [List.length_cons, Int.natCast_add] at hwl
  have hx : rd_T57 gs i = g := by rw [e]; exact rdGateA hi
  rw [gatesOk, Bool.and_eq_true] at hk
  have hk1 := of_decide_eq_true hk.1
  have b1 := hb _ (rd_mem (i := g.f1) (by omega) (by omega))
  have b2 := hb _ (rd_mem (i := g.f2) (by omega) (by omega))
  have b3 := zz39 g.f0 _ _ b1 b2
  have next : Ev (fun k => spec_ciWires.l1 k (xs ++ [gateV g.f0 (rd xs g.f1) (rd xs g.f2)]) gs gs.length (i + 1)) (wiresM xs (g :: r)) := by
   rw [wiresM]
   refine ih (p ++ [g]) _ (w + 1) (i + 1) (by simp; omega) (by rw [e]; simp) (by simp; omega) (by omega) hk.2 (fun b h => ?_)
   rw [List.mem_append] at h
   rcases h with h | h
   ·exact hb b h
   ·simp only [List.mem_singleton] at h
    rw [h]
    exact b3
  apply ev_up
  simp only [spec_ciWires.l1]
  refine ev_p (by omega) (ev_p (by omega) (ev_p (by omega) ?_))
  rw [hx, w64 (n := i + 1) (by omega) (by omega)]
  refine ev_p (by omega) (ev_p (by omega) (ev_p (by omega) (ev_p (by omega) ?_)))
  generalize rd xs g.f1 = a at *
  generalize rd xs g.f2 = b at *
  refine ev_ite (fun c1 => ev_p (by omega) ?_) (fun c1 => ev_ite (fun c2 => ?_) (fun c2 => ev_ite (fun c3 => ev_p (by omega) ?_) (fun c3 => ev_p (by omega) ?_)))
  ·have e1 : wrap64 (a * b) = gateV g.f0 a b := by
    unfold gateV
    rw [if_pos c1]
    rcases b1 with rfl | rfl <;> rcases b2 with rfl | rfl <;> exact w64 (by decide) (by decide)
   rw [e1]
   exact next
  ·have e1 : (if a < b then b else a) = gateV g.f0 a b := by
    unfold gateV
    rw [if_neg c1, if_pos c2]
   rw [zz106, e1]
   exact Ev.bind (ev_c rfl) (ev_p (by omega) next)
  ·have e1 : Int.tmod (wrap64 (a + b)) 2 = gateV g.f0 a b := by
    unfold gateV
    rw [if_neg c1, if_neg c2, if_pos c3, w64 (by omega) (by omega)]
    rcases b1 with rfl | rfl <;> rcases b2 with rfl | rfl <;> rfl
   rw [e1]
   exact next
  ·have e1 : wrap64 (1 - a) = gateV g.f0 a b := by
    unfold gateV
    rw [if_neg c1, if_neg c2, if_neg c3, w64 (by omega) (by omega)]
   rw [e1]
   exact next
theorem zz108 (n : Nat) (hn : n ≤ 4) (gs : List S57) (os : List Int) (hg : gs.length ≤ 16) (hk : gatesOk n gs = true) (x : Nat) (hx : x < 65536) (d : Nat) : ∀ (i : Nat), i + d = n →
  Ev (fun k => spec_ciWires.l0 k x (rmap i (fun i => (((x >>> i) % 2 : Nat) : Int))) i n gs os) (wiresM (bitsL x n) gs) := by
 induction d with
 | zero =>
  intro i hi
  have e : i = n := by omega
  subst e
  apply ev_up
  simp only [spec_ciWires.l0]
  refine ev_n (by omega) ?_
  exact zz107 gs hg gs [] (bitsL x i) i 0 rfl rfl (by rw [zz43]) (by omega) hk (zz44 x i)
 | succ d ih =>
  intro i hi
  apply ev_up
  simp only [spec_ciWires.l0]
  rw [zz105 x i (by omega) (by omega), wN (n := (i : Int) + 1) (m := i + 1) (by omega) (by omega)]
  refine ev_p (by omega) (Ev.bind (ev_c rfl) (ev_p (by rw [rmap_length]; omega) ?_))
  have := ih (i + 1) (by omega)
  rw [rmap_succ] at this
  exact this
theorem zz109 (n : Nat) (gs : List S57) (os : List Int) (h : circuitM n gs os = true) (x : Nat) (hx : x < 65536) : Ev (fun k => spec_ciWires.f k n gs os x) (wiresM (bitsL x n) gs) := by
 obtain ⟨b, hab, ha, hg, _, _, hk, _⟩ := zz35 h
 obtain rfl : n = b := by omega
 unfold spec_ciWires.f
 exact zz108 n ha gs os hg hk x hx n 0 (by omega)
theorem zz110 (n : Nat) (gs : List S57) (os : List Int) (h : circuitM n gs os = true) (hn : n ≤ 4) (w : Int) (h0 : 0 ≤ w) (h1 : w < n + gs.length) (hg : gs.length ≤ 16) (d : Nat) : ∀ (x : Nat), x + d = 2 ^ n →
  Ev (fun k => spec_ciTable.l0 k w x n gs os n (rmap x (fun x => wval n gs x w))) ((n : Int), ctabV n gs w) := by
 have h8 : 2 ^ n ≤ 2 ^ 4 := Nat.pow_le_pow_right (by decide) hn
 induction d with
 | zero =>
  intro x hx
  have e : x = 2 ^ n := by omega
  apply ev_up
  simp only [spec_ciTable.l0]
  rw [u64w (by omega) (by omega), shl1 n (by omega), e]
  exact ev_p (by omega) (ev_n (by omega) (Ev.now _))
 | succ d ih =>
  intro x hx
  apply ev_up
  simp only [spec_ciTable.l0]
  rw [u64w (by omega) (by omega), shl1 n (by omega), wN (n := (x : Int) + 1) (m := x + 1) (by omega) (by omega)]
  refine ev_p (by omega) (ev_p (by omega) (Ev.bind (zz109 n gs os h x (by omega)) (ev_p h0 (ev_p (by rw [zz38, zz43]; omega) (ev_p (by rw [rmap_length]; omega) ?_)))))
  have := ih (x + 1) (by omega)
  rw [rmap_succ] at this
  exact this
theorem zz111 (n : Nat) (gs : List S57) (os : List Int) (h : circuitM n gs os = true) (w : Int) (h0 : 0 ≤ w) (h1 : w < n + gs.length) : Ev (fun k => spec_ciTable.f k n gs os w) ((n : Int), ctabV n gs w) := by
 obtain ⟨b, hab, ha, hg, _⟩ := zz35 h
 unfold spec_ciTable.f
 exact zz110 n gs os h (by omega) w h0 h1 hg (2 ^ n) 0 (by omega)
theorem zz112 (x n : Nat) (hn : n ≤ 4) (hx : x < 65536) (d : Nat) : ∀ (i : Nat), i + d = n →
  Ev (fun k => impl_bitList.l0 k x (rmap n (fun j => if j < i then (((x >>> j) % 2 : Nat) : Int) else 0)) n i) (bitsL x n) := by
 induction d with
 | zero =>
  intro i hi
  apply ev_up
  simp only [impl_bitList.l0]
  refine ev_n (by omega) (ev_eq (Ev.now _) ?_)
  exact rmap_congr (fun k hk => by rw [if_pos (by omega)])
 | succ d ih =>
  intro i hi
  apply ev_up
  simp only [impl_bitList.l0]
  refine ev_p (by omega) (ev_p (by omega) (ev_p (by rw [rmap_length]; omega) ?_))
  rw [bit_and1 x i (by omega) (by omega), Int.toNat_natCast, rmap_set (show i < n by omega), wN (n := (i : Int) + 1) (m := i + 1) (by omega) (by omega)]
  have e : rmap n (fun j => if j = i then (((x >>> i) % 2 : Nat) : Int) else if j < i then (((x >>> j) % 2 : Nat) : Int) else 0) = rmap n (fun j => if j < i + 1 then (((x >>> j) % 2 : Nat) : Int) else 0) := by
   apply rmap_congr
   intro j _
   by_cases h : j = i
   ·rw [if_pos h, if_pos (show j < i + 1 by omega), h]
   ·by_cases h2 : j < i
    ·rw [if_neg h, if_pos h2, if_pos (show j < i + 1 by omega)]
    ·rw [if_neg h, if_neg h2, if_neg (show ¬ j < i + 1 by omega)]
  rw [e]
  exact ih (i + 1) (by omega)
theorem zz113 (x n : Nat) (hn : n ≤ 4) (hx : x < 65536) : Ev (fun k => impl_bitList.f k x n) (bitsL x n) := by
 unfold impl_bitList.f
 refine ev_p (by omega) (ev_p (by omega) (Ev.bind (ev_c rfl) ?_))
 rw [Int.toNat_natCast, rmap_const, rmap_length]
 have := zz112 x n hn hx n 0 (by omega)
 have e : rmap n (fun j => if j < 0 then (((x >>> j) % 2 : Nat) : Int) else 0) = rmap n (fun _ => (0 : Int)) := rmap_congr (fun j _ => by rw [if_neg (by omega)])
 rw [e] at this
 exact this
theorem zz114 (k a b : Int) (ha : a = 0 ∨ a = 1) (hb : b = 0 ∨ b = 1) : impl_gateValue.f k a b = some (gateV k a b) := by
 unfold impl_gateValue.f gateV
 have e1 : Go.bits .and .i64 a b = a * b := by
  rcases ha with rfl | rfl <;> rcases hb with rfl | rfl <;> decide
 have e2 : Go.bits .or .i64 a b = if a < b then b else a := by
  rcases ha with rfl | rfl <;> rcases hb with rfl | rfl <;> decide
 have e3 : Go.bits .xor .i64 a b = (a + b) % 2 := by
  rcases ha with rfl | rfl <;> rcases hb with rfl | rfl <;> decide
 have e4 : wrap64 (1 - a) = 1 - a := w64 (by omega) (by omega)
 rw [e1, e2, e3, e4]
 (repeat' split) <;> rfl
theorem zz115 (gs : List S57) (hg : gs.length ≤ 16) (r : List S57) : ∀ (p : List S57) (xs : List Int) (w i : Int), i = p.length → gs = p ++ r → (xs.length : Int) = w → w + r.length ≤ 1000 → gatesOk w r = true → (∀ b ∈ xs, b = 0 ∨ b = 1) →
  Ev (fun k => impl_wireValues.l0 k xs gs gs.length i) (wiresM xs r) := by
 induction r with
 | nil =>
  intro p xs w i hi e hw hwl hk hb
  have hlen : gs.length = p.length := by rw [e]; simp
  apply ev_up
  simp only [impl_wireValues.l0]
  exact ev_n (by omega) (Ev.now _)
 | cons g r ih =>
  intro p xs w i hi e hw hwl hk hb
  have hlen : gs.length = p.length + r.length + 1 := by rw [e]; simp; omega
  simp only [List.length_cons, Int.natCast_add] at hwl
  have hx : rd_T57 gs i = g := by rw [e]; exact rdGateA hi
  rw [gatesOk, Bool.and_eq_true] at hk
  have hk1 := of_decide_eq_true hk.1
  have b1 := hb _ (rd_mem (i := g.f1) (by omega) (by omega))
  have b2 := hb _ (rd_mem (i := g.f2) (by omega) (by omega))
  have b3 := zz39 g.f0 _ _ b1 b2
  apply ev_up
  simp only [impl_wireValues.l0]
  refine ev_p (by omega) (ev_p (by omega) (ev_p (by omega) ?_))
  rw [hx, w64 (n := i + 1) (by omega) (by omega)]
  refine ev_p (by omega) (ev_p (by omega) (ev_p (by omega) (ev_p (by omega) ?_)))
  rw [zz114 _ _ _ b1 b2]
  refine Ev.bind (ev_c rfl) (ev_p (by omega) ?_)
  rw [wiresM]
  refine ih (p ++ [g]) _ (w + 1) (i + 1) (by simp; omega) (by rw [e]; simp) (by simp; omega) (by omega) hk.2 (fun b h => ?_)
  rw [List.mem_append] at h
  rcases h with h | h
  ·exact hb b h
  ·simp only [List.mem_singleton] at h
   rw [h]
   exact b3
theorem zz116 (n : Nat) (gs : List S57) (os : List Int) (h : circuitM n gs os = true) (xs : List Int) (hx : xs.length = n) (hb : ∀ b ∈ xs, b = 0 ∨ b = 1) : Ev (fun k => impl_wireValues.f k n gs os xs) (wiresM xs gs) := by
 obtain ⟨b, hab, ha, hg, _, _, hk, _⟩ := zz35 h
 obtain rfl : n = b := by omega
 unfold impl_wireValues.f
 refine Ev.bind (ev_c rfl) (ev_p (by simp; omega) ?_)
 rw [List.nil_append]
 exact zz115 gs hg gs [] xs n 0 rfl rfl (by omega) (by omega) hk hb
theorem zz117 {m : Nat} {f : Nat → S60} {k : Nat} (h : k < m) : rd_T60 (rmap m f) (k : Int) = f k := rmap_get h _
def tabW (n : Nat) (gs : List S57) (x w : Nat) : S60 := ⟨if x = 0 then 0 else n, rmap x (fun y => wval n gs y w)⟩
theorem zz119 (n : Nat) (gs : List S57) (x w : Nat) : tabW n gs (x + 1) w = ⟨n, (tabW n gs x w).f1 ++ [wval n gs x w]⟩ := by
 unfold tabW
 rw [if_neg (by omega), rmap_succ]
theorem zz120 (n : Nat) (gs : List S57) (os : List Int) (W : Nat) (hW : W = n + gs.length) (hWs : W ≤ 20) (x : Nat) (hx : x < 65536) (ws : List Int) (hws : ws = wiresM (bitsL x n) gs) (res : List S60) (d : Nat) : ∀ (j : Nat), j + d = W →
  Ev (fun k => impl_wireTables.l0 k (rmap W (tabW n gs (x + 1))) (wrap64 ((x : Int) + 1)) n gs os) res → Ev (fun k => impl_wireTables.l1 k (rmap W (fun w => tabW n gs (if w < j then x + 1 else x) w)) x ws ws.length j n gs os) res := by
 have hwl : ws.length = W := by rw [hws, zz38, zz43, hW]
 induction d with
 | zero =>
  intro j hj h
  apply ev_up
  simp only [impl_wireTables.l1]
  have e : rmap W (fun w => tabW n gs (if w < j then x + 1 else x) w) = rmap W (tabW n gs (x + 1)) := rmap_congr (fun w hw => by rw [if_pos (by omega)])
  rw [e]
  exact ev_n (by omega) h
 | succ d ih =>
  intro j hj h
  apply ev_up
  simp only [impl_wireTables.l1]
  refine ev_p (by omega) (ev_p (by omega) (ev_p (by omega) (ev_p (by rw [rmap_length]; omega) (Ev.bind (ev_c rfl) ?_))))
  have hjW : j < W := by omega
  simp only [zz117 hjW, Int.toNat_natCast, rmap_set hjW, if_true]
  rw [if_neg (Nat.lt_irrefl j), wN (n := (j : Int) + 1) (m := j + 1) (by omega) (by omega)]
  refine ev_p (by unfold tabW; rw [rmap_length]; omega) ?_
  have ev : rd ws (j : Int) = wval n gs x j := by rw [hws]; rfl
  rw [ev]
  have e : rmap W (fun w => if w = j then (⟨(n : Int), (tabW n gs x j).f1 ++ [wval n gs x j]⟩ : S60) else if w = j then ⟨(n : Int), (tabW n gs x j).f1⟩ else tabW n gs (if w < j then x + 1 else x) w) = rmap W (fun w => tabW n gs (if w < j + 1 then x + 1 else x) w) := by
   apply rmap_congr
   intro w _
   by_cases h1 : w = j
   ·rw [if_pos h1, if_pos (show w < j + 1 by omega), zz119, h1]
   ·by_cases h2 : w < j
    ·rw [if_neg h1, if_neg h1, if_pos h2, if_pos (show w < j + 1 by omega)]
    ·rw [if_neg h1, if_neg h1, if_neg h2, if_neg (show ¬ w < j + 1 by omega)]
  rw [e]
  exact ih (j + 1) (by omega) h
theorem zz121 (n : Nat) (gs : List S57) (os : List Int) (h : circuitM n gs os = true) (hn : n ≤ 4) (W : Nat) (hW : W = n + gs.length) (hWs : W ≤ 20) (d : Nat) : ∀ (x : Nat), x + d = 2 ^ n →
  Ev (fun k => impl_wireTables.l0 k (rmap W (tabW n gs x)) x n gs os) (rmap W (tabW n gs (2 ^ n))) := by
 have h8 : 2 ^ n ≤ 2 ^ 4 := Nat.pow_le_pow_right (by decide) hn
 induction d with
 | zero =>
  intro x hx
  have e : x = 2 ^ n := by omega
  apply ev_up
  simp only [impl_wireTables.l0]
  rw [shl1 n (by omega), e]
  exact ev_p (by omega) (ev_n (by omega) (Ev.now _))
 | succ d ih =>
  intro x hx
  apply ev_up
  simp only [impl_wireTables.l0]
  rw [shl1 n (by omega)]
  refine ev_p (by omega) (ev_p (by omega) (Ev.bind (zz113 x n hn (by omega)) (Ev.bind (zz116 n gs os h _ (zz43 x n) (zz44 x n)) ?_)))
  have := zz120 n gs os W hW hWs x (by omega) _ rfl (rmap W (tabW n gs (2 ^ n))) W 0 (by omega) (by
   rw [wN (n := (x : Int) + 1) (m := x + 1) (by omega) (by omega)]
   exact ih (x + 1) (by omega))
  have e : rmap W (fun w => tabW n gs (if w < 0 then x + 1 else x) w) = rmap W (tabW n gs x) := rmap_congr (fun w _ => by rw [if_neg (by omega)])
  rw [e] at this
  exact this
def tablesM (n : Nat) (gs : List S57) : List S60 := rmap (n + gs.length) (fun w => (⟨(n : Int), ctabV n gs w⟩ : S60))
theorem zz123 (n : Nat) (gs : List S57) (os : List Int) (h : circuitM n gs os = true) : Ev (fun k => impl_wireTables.f k n gs os) (tablesM n gs) := by
 obtain ⟨b, hab, ha, hg, _⟩ := zz35 h
 have hn : n ≤ 4 := by omega
 unfold impl_wireTables.f
 rw [wN (n := (n : Int) + gs.length) (m := n + gs.length) (by omega) (by omega), Int.toNat_natCast, rmap_const]
 have h9 : 0 < 2 ^ n := Nat.two_pow_pos n
 have := zz121 n gs os h hn (n + gs.length) rfl (by omega) (2 ^ n) 0 (by omega)
 have e : rmap (n + gs.length) (tabW n gs 0) = rmap (n + gs.length) (fun _ => z60) := rmap_congr (fun w _ => rfl)
 have e2 : rmap (n + gs.length) (tabW n gs (2 ^ n)) = tablesM n gs := rmap_congr (fun w _ => by unfold tabW ctabV; rw [if_neg (by omega)])
 rw [e, e2] at this
 exact ev_p (by omega) (ev_p (by omega) this)
theorem zz124 (n : Nat) (gs : List S57) : (tablesM n gs).length = n + gs.length := rmap_length _ _
theorem zz125 {n : Nat} {gs : List S57} {w : Nat} (h : w < n + gs.length) : rd_T60 (tablesM n gs) (w : Int) = ⟨n, ctabV n gs w⟩ := zz117 h
def eqgB (n : Nat) (gs : List S57) (i j : Nat) : Bool := decide (ctabV n gs ((n + i : Nat) : Int) = ctabV n gs ((n + j : Nat) : Int))
def zz127 (n : Int) (gs : List S57) (os : List Int) : List (List Int) × Bool := if circuitM n gs os = true then (pairsG (eqgB n.toNat gs) 0 gs.length, true) else ([], false)
theorem zz128 (n : Int) (gs : List S57) (os : List Int) : (zz127 n gs os).1.length ≤ 400 ∧ ∀ y ∈ (zz127 n gs os).1, y.length ≤ 2 := by
 unfold zz127
 split
 ·rename_i h
  obtain ⟨a, rfl, ha, hg, _⟩ := zz35 h
  have := zz99 (eqgB a gs) 16 gs.length hg 0
  simp only [Int.toNat_natCast]
  exact ⟨by omega, fun y hy => by rw [zz100 _ gs.length 0 y hy]; exact Nat.le_refl _⟩
 ·simp
theorem zz129 (n : Nat) (gs : List S57) (os : List Int) (h : circuitM n gs os = true) (hn : n ≤ 4) (hg : gs.length ≤ 16) (i : Nat) (hi : i < gs.length) (R : List (List Int) × Bool) (d : Nat) : ∀ (j : Nat) (acc : List (List Int)), j + d = gs.length → acc.length + d ≤ 1000000 →
  Ev (fun k => spec_EqualGates.l0 k (acc ++ pairG (eqgB n gs) i j d) gs.length (wrap64 ((i : Int) + 1)) n gs os) R → Ev (fun k => spec_EqualGates.l1 k acc i j gs.length i n gs os) R := by
 have h8 : 2 ^ n ≤ 2 ^ 4 := Nat.pow_le_pow_right (by decide) hn
 induction d with
 | zero =>
  intro j acc hj ha hh
  rw [pairG, List.append_nil] at hh
  apply ev_up
  simp only [spec_EqualGates.l1]
  exact ev_n (by omega) hh
 | succ d ih =>
  intro j acc hj ha hh
  rw [pairG] at hh
  apply ev_up
  simp only [spec_EqualGates.l1]
  rw [wN (n := (n : Int) + i) (m := n + i) (by omega) (by omega), wN (n := (n : Int) + j) (m := n + j) (by omega) (by omega), wN (n := (j : Int) + 1) (m := j + 1) (by omega) (by omega)]
  refine ev_p (by omega) (Ev.bind (zz111 n gs os h _ (by omega) (by omega)) (Ev.bind (zz111 n gs os h _ (by omega) (by omega)) (Ev.bind (zz102 _ _ (by rw [zz47]; omega)) ?_)))
  refine ev_ite (fun c => ev_p (by omega) ?_) (fun c => ?_)
  ·rw [if_pos (show eqgB n gs i j = true from c)] at hh
   refine ih (j + 1) _ (by omega) (by simp; omega) ?_
   simpa using hh
  ·rw [if_neg (show ¬ eqgB n gs i j = true from c), List.nil_append] at hh
   exact ih (j + 1) acc (by omega) (by omega) hh
theorem zz130 (n : Nat) (gs : List S57) (os : List Int) (h : circuitM n gs os = true) (hn : n ≤ 4) (hg : gs.length ≤ 16) (d : Nat) : ∀ (i : Nat) (acc : List (List Int)), i + d = gs.length → acc.length ≤ 20 * i →
  Ev (fun k => spec_EqualGates.l0 k acc gs.length i n gs os) (acc ++ pairsG (eqgB n gs) i d, true) := by
 induction d with
 | zero =>
  intro i acc hi ha
  apply ev_up
  simp only [spec_EqualGates.l0]
  rw [pairsG, List.append_nil]
  exact ev_n (by omega) (Ev.now _)
 | succ d ih =>
  intro i acc hi ha
  have hp := zz96 (eqgB n gs) i d (i + 1)
  apply ev_up
  simp only [spec_EqualGates.l0]
  rw [wN (n := (i : Int) + 1) (m := i + 1) (by omega) (by omega)]
  refine ev_p (by omega) ?_
  refine zz129 n gs os h hn hg i (by omega) _ d (i + 1) acc (by omega) (by omega) ?_
  rw [wN (n := (i : Int) + 1) (m := i + 1) (by omega) (by omega)]
  refine ev_eq (ih (i + 1) _ (by omega) (by simp; omega)) ?_
  rw [pairsG, List.append_assoc]
theorem zz131 (n : Int) (gs : List S57) (os : List Int) (hn : I64 n) (hg : gs.length ≤ 1048576) (ho : os.length ≤ 1048576) : Ev (fun g => spec_EqualGates.f g n gs os) (zz127 n gs os) := by
 unfold spec_EqualGates.f zz127
 refine Ev.bind (zz77 n gs os hn hg ho) (ev_ite (fun h => ?_) (fun h => ?_))
 ·obtain ⟨a, rfl, ha, hg', _⟩ := zz35 h
  rw [if_pos h, Int.toNat_natCast]
  have := zz130 a gs os h ha hg' gs.length 0 [] (by omega) (by simp)
  rw [List.nil_append] at this
  exact this
 ·rw [if_neg h]
  exact Ev.now _
theorem zz132 (n : Nat) (gs : List S57) (hn : n ≤ 4) (hg : gs.length ≤ 16) (ts : List S60) (hts : ts = (tablesM n gs).drop n) (i : Nat) (hi : i < gs.length) (R : List (List Int) × Bool) (d : Nat) : ∀ (j : Nat) (acc : List (List Int)), j + d = gs.length → acc.length + d ≤ 1000000 →
  Ev (fun k => impl_EqualGates.l0 k ts (acc ++ pairG (eqgB n gs) i j d) gs.length (wrap64 ((i : Int) + 1))) R → Ev (fun k => impl_EqualGates.l1 k ts acc i j gs.length i) R := by
 have h8 : 2 ^ n ≤ 2 ^ 4 := Nat.pow_le_pow_right (by decide) hn
 have hl : ts.length = gs.length := by rw [hts, List.length_drop, zz124]; omega
 have hr : ∀ i : Nat, i < gs.length → rd_T60 ts (i : Int) = ⟨n, ctabV n gs ((n + i : Nat) : Int)⟩ := fun i hi => by
  have e1 : rd_T60 ts (i : Int) = rd_T60 (tablesM n gs) ((n + i : Nat) : Int) := by
   unfold rd_T60
   rw [hts, Int.toNat_natCast, Int.toNat_natCast, List.getD_eq_getElem?_getD, List.getD_eq_getElem?_getD, List.getElem?_drop]
  rw [e1, zz125 (by omega)]
 induction d with
 | zero =>
  intro j acc hj ha hh
  rw [pairG, List.append_nil] at hh
  apply ev_up
  simp only [impl_EqualGates.l1]
  exact ev_n (by omega) hh
 | succ d ih =>
  intro j acc hj ha hh
  rw [pairG] at hh
  apply ev_up
  simp only [impl_EqualGates.l1]
  rw [hr i hi, hr j (by omega), wN (n := (j : Int) + 1) (m := j + 1) (by omega) (by omega)]
  refine ev_p (by omega) (ev_p (by omega) (ev_p (by omega) (ev_p (by omega) (Ev.bind (zz104 _ _ (by dsimp only; rw [zz47]; omega)) ?_))))
  refine ev_ite (fun c => ev_p (by omega) ?_) (fun c => ?_)
  ·rw [if_pos (show eqgB n gs i j = true from c)] at hh
   refine ih (j + 1) _ (by omega) (by simp; omega) ?_
   simpa using hh
  ·rw [if_neg (show ¬ eqgB n gs i j = true from c), List.nil_append] at hh
   exact ih (j + 1) acc (by omega) (by omega) hh
theorem zz133 (n : Nat) (gs : List S57) (hn : n ≤ 4) (hg : gs.length ≤ 16) (ts : List S60) (hts : ts = (tablesM n gs).drop n) (d : Nat) : ∀ (i : Nat) (acc : List (List Int)), i + d = gs.length → acc.length ≤ 20 * i →
  Ev (fun k => impl_EqualGates.l0 k ts acc gs.length i) (acc ++ pairsG (eqgB n gs) i d, true) := by
 induction d with
 | zero =>
  intro i acc hi ha
  apply ev_up
  simp only [impl_EqualGates.l0]
  rw [pairsG, List.append_nil]
  exact ev_n (by omega) (Ev.now _)
 | succ d ih =>
  intro i acc hi ha
  have hp := zz96 (eqgB n gs) i d (i + 1)
  apply ev_up
  simp only [impl_EqualGates.l0]
  rw [wN (n := (i : Int) + 1) (m := i + 1) (by omega) (by omega)]
  refine ev_p (by omega) ?_
  refine zz132 n gs hn hg ts hts i (by omega) _ d (i + 1) acc (by omega) (by omega) ?_
  rw [wN (n := (i : Int) + 1) (m := i + 1) (by omega) (by omega)]
  refine ev_eq (ih (i + 1) _ (by omega) (by simp; omega)) ?_
  rw [pairsG, List.append_assoc]
theorem zz134 (n : Int) (gs : List S57) (os : List Int) (hg : gs.length ≤ 1048576) (ho : os.length ≤ 1048576) : Ev (fun g => impl_EqualGates.f g n gs os) (zz127 n gs os) := by
 unfold impl_EqualGates.f zz127
 refine Ev.bind (zz84 n gs os hg ho) (ev_ite (fun h => ?_) (fun h => ?_))
 ·obtain ⟨a, rfl, ha, hg', _, _, hk, _⟩ := zz35 h
  rw [if_pos h, Int.toNat_natCast]
  refine Ev.bind (zz123 a gs os h) (ev_p (by omega) (ev_p (by rw [zz124]; omega) (Ev.bind (ev_c rfl) ?_)))
  have hl : ((tablesM a gs).drop a).length = gs.length := by rw [List.length_drop, zz124]; omega
  have := zz133 a gs ha hg' _ rfl gs.length 0 [] (by omega) (by simp)
  rw [List.nil_append] at this
  rw [hl]
  exact this
 ·rw [if_neg h]
  exact Ev.now _
def placeM (v : Int) : Int → List Int → Int
 | _, [] => -1
 | i, x :: r => if v = x then i else placeM v (i + 1) r
theorem zz136 (v : Int) (r : List Int) : ∀ i, 0 ≤ i → (0 ≤ placeM v i r ↔ v ∈ r) := by
 induction r with
 | nil => intro i _; simp [placeM]
 | cons x r ih =>
  intro i hi
  rw [placeM]
  by_cases h : v = x
  ·rw [if_pos h, h]
   simp [hi]
  ·rw [if_neg h, ih (i + 1) (by omega)]
   simp [h]
theorem zz137 (l : List Int) (v : Int) (hl : l.length ≤ 1048576) (r : List Int) : ∀ (p : List Int) (i : Int), i = p.length → l = p ++ r →
  Ev (fun k => slices_Index_int_int.l0 k l v l.length i) (placeM v i r) := by
 induction r with
 | nil =>
  intro p i hi e
  have hlen : l.length = p.length := by rw [e]; simp
  apply ev_up
  simp only [slices_Index_int_int.l0]
  exact ev_n (by omega) (Ev.now _)
 | cons x r ih =>
  intro p i hi e
  have hlen : l.length = p.length + r.length + 1 := by rw [e]; simp; omega
  have hx : rd l i = x := by rw [e]; exact rdA hi
  apply ev_up
  simp only [slices_Index_int_int.l0]
  refine ev_p (by omega) (ev_p (by omega) (ev_p (by omega) ?_))
  rw [hx, w64 (n := i + 1) (by omega) (by omega), placeM]
  refine ev_ite (fun h => ?_) (fun h => ?_)
  ·rw [if_pos h]
   exact Ev.now _
  ·rw [if_neg h]
   exact ih (p ++ [x]) (i + 1) (by simp; omega) (by rw [e]; simp)
theorem zz138 (l : List Int) (v : Int) (hl : l.length ≤ 1048576) : Ev (fun k => slices_Index_int_int.f k l v) (placeM v 0 l) := by
 unfold slices_Index_int_int.f
 exact zz137 l v hl l [] 0 rfl rfl
theorem zz139 (l : List Int) (v : Int) (hl : l.length ≤ 1048576) : Ev (fun k => slices_Contains_int_int.f k l v) (decide (v ∈ l)) := by
 unfold slices_Contains_int_int.f
 refine Ev.bind (zz138 l v hl) (ev_eq (Ev.now _) ?_)
 exact decide_eq_decide.2 (zz136 v l 0 (by omega))
theorem zz140 {l : List Int} : l.all (inB (rd l 0) (rd l 0)) = constB l := by
 unfold constB
 rw [Bool.eq_iff_iff, List.all_eq_true, decide_eq_true_eq]
 constructor
 ·intro h x hx
  have := of_decide_eq_true (h x hx)
  omega
 ·intro h x hx
  exact decide_eq_true (by rw [h x hx]; omega)
theorem zz141 {l : List Int} (h0 : 0 < l.length) (hb : ∀ x ∈ l, x = 0 ∨ x = 1) : decide ((1 - rd l 0) ∈ l) = !constB l := by
 have hm := rd_mem (ds := l) (i := 0) (by omega) (by omega)
 have h1 := hb _ hm
 unfold constB
 by_cases h : (1 - rd l 0) ∈ l
 ·rw [decide_eq_true h, decide_eq_false (fun hh => by have := hh _ h; omega)]
  rfl
 ·rw [decide_eq_false h, decide_eq_true (fun x hx => ?_)]
  ·rfl
  ·have h2 := hb x hx
   by_cases e : x = rd l 0
   ·exact e
   ·exact absurd (by rw [show 1 - rd l 0 = x by omega]; exact hx) h
theorem zz142 (n : Nat) (gs : List S57) (os : List Int) (h : circuitM n gs os = true) (hn : n ≤ 4) (hg : gs.length ≤ 16) (d : Nat) : ∀ (i : Nat) (acc : List Int), i + d = gs.length → acc.length ≤ i →
  Ev (fun k => spec_ConstantGates.l0 k acc gs.length i n gs os) (acc ++ selM (constF n gs) i d, true) := by
 have h9 : 0 < 2 ^ n := Nat.two_pow_pos n
 have h8 : 2 ^ n ≤ 2 ^ 4 := Nat.pow_le_pow_right (by decide) hn
 induction d with
 | zero =>
  intro i acc hi ha
  apply ev_up
  simp only [spec_ConstantGates.l0]
  refine ev_n (by omega) (ev_eq (Ev.now _) ?_)
  simp [selM]
 | succ d ih =>
  intro i acc hi ha
  apply ev_up
  simp only [spec_ConstantGates.l0]
  rw [wN (n := (n : Int) + i) (m := n + i) (by omega) (by omega), wN (n := (i : Int) + 1) (m := i + 1) (by omega) (by omega), selM]
  refine ev_p (by omega) (Ev.bind (zz111 n gs os h _ (by omega) (by omega)) (ev_p (by rw [zz47]; omega) (Ev.bind (l1All_ev _ _ _ (by rw [zz47]; omega)) ?_)))
  rw [zz140]
  refine ev_ite (fun c => ev_p (by omega) ?_) (fun c => ?_)
  ·rw [if_pos (show constF n gs i = true from c)]
   refine ev_eq (ih (i + 1) _ (by omega) (by simp; omega)) ?_
   simp
  ·rw [if_neg (show ¬ constF n gs i = true from c)]
   refine ev_eq (ih (i + 1) _ (by omega) (by omega)) ?_
   simp
theorem zz143 (n : Nat) (gs : List S57) (hk : gatesOk n gs = true) (hn : n ≤ 4) (hg : gs.length ≤ 16) (ts : List S60) (hts : ts = (tablesM n gs).drop n) (d : Nat) : ∀ (i : Nat) (acc : List Int), i + d = gs.length → acc.length ≤ i →
  Ev (fun k => impl_ConstantGates.l0 k acc ts ts.length i) (acc ++ selM (constF n gs) i d, true) := by
 have h9 : 0 < 2 ^ n := Nat.two_pow_pos n
 have h8 : 2 ^ n ≤ 2 ^ 4 := Nat.pow_le_pow_right (by decide) hn
 have hl : ts.length = gs.length := by rw [hts, List.length_drop, zz124]; omega
 induction d with
 | zero =>
  intro i acc hi ha
  apply ev_up
  simp only [impl_ConstantGates.l0]
  refine ev_n (by omega) (ev_eq (Ev.now _) ?_)
  simp [selM]
 | succ d ih =>
  intro i acc hi ha
  have hr : rd_T60 ts (i : Int) = ⟨n, ctabV n gs ((n + i : Nat) : Int)⟩ := by
   have e1 : rd_T60 ts (i : Int) = rd_T60 (tablesM n gs) ((n + i : Nat) : Int) := by
    unfold rd_T60
    rw [hts, Int.toNat_natCast, Int.toNat_natCast, List.getD_eq_getElem?_getD, List.getD_eq_getElem?_getD, List.getElem?_drop]
   rw [e1, zz125 (by omega)]
  have hbits : ∀ x ∈ ctabV n gs ((n + i : Nat) : Int), x = 0 ∨ x = 1 := fun x hx => by
   unfold ctabV rmap at hx
   obtain ⟨y, _, rfl⟩ := List.mem_map.1 hx
   exact wval_bit hk (by omega) (by omega) y
  have hb0 := hbits _ (rd_mem (i := 0) (by omega) (by rw [zz47]; omega))
  apply ev_up
  simp only [impl_ConstantGates.l0]
  refine ev_p (by omega) (ev_p (by omega) (ev_p (by omega) ?_))
  rw [hr, wN (n := (i : Int) + 1) (m := i + 1) (by omega) (by omega), selM]
  refine ev_p (by rw [zz47]; omega) ?_
  dsimp only
  rw [w64 (by omega) (by omega)]
  refine Ev.bind (zz139 _ _ (by rw [zz47]; omega)) ?_
  rw [zz141 (by rw [zz47]; omega) hbits]
  refine ev_ite (fun c => ?_) (fun c => ev_p (by omega) ?_)
  ·have c' : ¬ constF n gs i = true := fun h => by
    unfold constF at h
    rw [h] at c
    exact absurd c (by decide)
   rw [if_neg c']
   refine ev_eq (ih (i + 1) _ (by omega) (by omega)) ?_
   simp
  ·have c' : constF n gs i = true := by
    unfold constF
    simpa using c
   rw [if_pos c']
   refine ev_eq (ih (i + 1) _ (by omega) (by simp; omega)) ?_
   simp
def zz144 (n : Int) (gs : List S57) (os : List Int) : List Int × Bool := if circuitM n gs os = true then (selM (constF n.toNat gs) 0 gs.length, true) else ([], false)
theorem zz145 (n : Int) (gs : List S57) (os : List Int) (hn : I64 n) (hg : gs.length ≤ 1048576) (ho : os.length ≤ 1048576) : Ev (fun g => spec_ConstantGates.f g n gs os) (zz144 n gs os) := by
 unfold spec_ConstantGates.f zz144
 refine Ev.bind (zz77 n gs os hn hg ho) (ev_ite (fun h => ?_) (fun h => ?_))
 ·obtain ⟨a, rfl, ha, hg', _⟩ := zz35 h
  rw [if_pos h, Int.toNat_natCast]
  have := zz142 a gs os h ha hg' gs.length 0 [] (by omega) (by simp)
  rw [List.nil_append] at this
  exact this
 ·rw [if_neg h]
  exact Ev.now _
theorem zz146 (n : Int) (gs : List S57) (os : List Int) (hg : gs.length ≤ 1048576) (ho : os.length ≤ 1048576) : Ev (fun g => impl_ConstantGates.f g n gs os) (zz144 n gs os) := by
 unfold impl_ConstantGates.f zz144
 refine Ev.bind (zz84 n gs os hg ho) (ev_ite (fun h => ?_) (fun h => ?_))
 ·obtain ⟨a, rfl, ha, hg', _, _, hk, _⟩ := zz35 h
  rw [if_pos h, Int.toNat_natCast]
  refine Ev.bind (zz123 a gs os h) (ev_p (by omega) (ev_p (by rw [zz124]; omega) (Ev.bind (ev_c rfl) ?_)))
  have := zz143 a gs hk ha hg' _ rfl gs.length 0 [] (by omega) (by simp)
  rw [List.nil_append] at this
  exact this
 ·rw [if_neg h]
  exact Ev.now _
def zz147 (n : Int) (gs : List S57) (os : List Int) (k : Int) : Int × List Int × Bool := if circuitM n gs os = true ∧ 0 ≤ k ∧ k < os.length then (n, ctabV n.toNat gs (rd os k), true) else (0, [], false)
theorem zz148 (n : Int) (gs : List S57) (os : List Int) (k : Int) : (zz147 n gs os k).2.1.length ≤ 16 := by
 unfold zz147
 split
 ·rename_i h
  obtain ⟨a, rfl, ha, _⟩ := zz35 h.1
  have h8 : 2 ^ a ≤ 2 ^ 4 := Nat.pow_le_pow_right (by decide) ha
  simp only [zz47, Int.toNat_natCast]
  omega
 ·simp
theorem zz149 (n : Int) (gs : List S57) (os : List Int) (k : Int) (hn : I64 n) (hg : gs.length ≤ 1048576) (ho : os.length ≤ 1048576) : Ev (fun g => spec_CircuitTable.f g n gs os k) (zz147 n gs os k) := by
 unfold spec_CircuitTable.f zz147
 refine Ev.bind (zz77 n gs os hn hg ho) (ev_ite (fun h => ?_) (fun h => ?_))
 ·obtain ⟨a, rfl, ha, hg', ho1, ho', hk, hor⟩ := zz35 h
  rw [w64 (n := (os.length : Int) - 1) (by omega) (by omega), l1In_eq]
  refine Ev.bind (ev_c rfl) (ev_ite (fun h2 => ?_) (fun h2 => ?_))
  ·have h2' := of_decide_eq_true h2
   have hr := hor _ (rd_mem (i := k) h2'.1 (by omega))
   rw [if_pos ⟨h, h2'.1, by omega⟩, Int.toNat_natCast]
   exact ev_p h2'.1 (ev_p (by omega) (Ev.bind (zz111 a gs os h _ hr.1 hr.2) (Ev.now _)))
  ·rw [if_neg (fun hh => h2 (decide_eq_true ⟨hh.2.1, by omega⟩))]
   exact Ev.now _
 ·rw [if_neg (fun hh => h hh.1)]
  exact Ev.now _
theorem zz150 (n : Int) (gs : List S57) (os : List Int) (k : Int) (hg : gs.length ≤ 1048576) (ho : os.length ≤ 1048576) : Ev (fun g => impl_CircuitTable.f g n gs os k) (zz147 n gs os k) := by
 unfold impl_CircuitTable.f zz147
 refine Ev.bind (zz84 n gs os hg ho) (ev_ite (fun h => ?_) (fun h => ?_))
 ·obtain ⟨a, rfl, ha, hg', ho1, ho', hk, hor⟩ := zz35 h
  refine ev_ite (fun h2 => ?_) (fun h2 => ev_ite (fun h3 => ?_) (fun h3 => ?_))
  ·rw [if_neg (by omega)]
   exact Ev.now _
  ·rw [if_neg (by omega)]
   exact Ev.now _
  ·have hr := hor _ (rd_mem (i := k) (by omega) (by omega))
   rw [if_pos ⟨h, by omega, by omega⟩, Int.toNat_natCast]
   refine Ev.bind (zz123 a gs os h) (ev_p (by omega) (ev_p (by omega) (ev_p hr.1 (ev_p (by rw [zz124]; omega) ?_))))
   obtain ⟨w, hw⟩ := nat_of hr.1
   rw [hw] at hr ⊢
   rw [zz125 (show w < a + gs.length by omega)]
   exact Ev.now _
 ·rw [if_neg (fun hh => h hh.1)]
  exact Ev.now _
theorem zz151 (n : Int) (l : List Int) (hl : l.length ≤ 9223372036854775806) : Ev (fun k => laws_pSameTable.f k n l n l) true := by
 unfold laws_pSameTable.f
 exact ev_p rfl (Ev.bind (zz18 l hl) (Ev.now _))
theorem big_eq (l0 l1 : List Int) (h0 : l0.length * 1 ≤ 140737488351232) : ∃ b, laws_big.f l0 l1 = some b := by
 unfold laws_big.f
 split <;> exact ⟨_, rfl⟩
theorem zz153 (f : Nat → Nat → Bool) (i d : Nat) : ∀ j, ∀ y ∈ pairG f i j d, ∃ q, j ≤ q ∧ q < j + d ∧ y = [(i : Int), (q : Int)] ∧ f i q = true := by
 induction d with
 | zero => intro j y hy; simp [pairG] at hy
 | succ d ih =>
  intro j y hy
  rw [pairG, List.mem_append] at hy
  rcases hy with hy | hy
  ·split at hy
   ·rename_i h
    rw [List.mem_singleton] at hy
    exact ⟨j, by omega, by omega, hy, h⟩
   ·simp at hy
  ·obtain ⟨q, h1, h2, h3⟩ := ih (j + 1) y hy
   exact ⟨q, by omega, by omega, h3⟩
theorem zz154 (f : Nat → Nat → Bool) (d : Nat) : ∀ i, ∀ y ∈ pairsG f i d, ∃ p q, p < i + d ∧ q < i + d ∧ y = [(p : Int), (q : Int)] ∧ f p q = true := by
 induction d with
 | zero => intro i y hy; simp [pairsG] at hy
 | succ d ih =>
  intro i y hy
  rw [pairsG, List.mem_append] at hy
  rcases hy with hy | hy
  ·obtain ⟨q, h1, h2, h3, h4⟩ := zz153 f i d (i + 1) y hy
   exact ⟨i, q, by omega, by omega, h3, h4⟩
  ·obtain ⟨p, q, h1, h2, h3⟩ := ih (i + 1) y hy
   exact ⟨p, q, by omega, by omega, h3⟩
theorem selM_mem (f : Nat → Bool) (d : Nat) : ∀ i, ∀ y ∈ selM f i d, ∃ q : Nat, q < i + d ∧ y = q ∧ f q = true := by
 induction d with
 | zero => intro i y hy; simp [selM] at hy
 | succ d ih =>
  intro i y hy
  rw [selM, List.mem_append] at hy
  rcases hy with hy | hy
  ·split at hy
   ·rename_i h
    rw [List.mem_singleton] at hy
    exact ⟨i, by omega, hy, h⟩
   ·simp at hy
  ·obtain ⟨q, h1, h2⟩ := ih (i + 1) y hy
   exact ⟨q, by omega, h2⟩
theorem zz156 {a : Nat} {gs : List S57} {os qs : List Int} (h : circuitM a gs os = true) (h1 : 1 ≤ qs.length) (h2 : qs.length ≤ 4) (h3 : ∀ q ∈ qs, 0 ≤ q ∧ q < (a : Int) + gs.length) : circuitM a gs qs = true := by
 obtain ⟨_, _, ha, hg, _, _, hk, _⟩ := zz35 h
 unfold circuitM
 rw [Bool.and_eq_true, Bool.and_eq_true, List.all_eq_true]
 refine ⟨decide_eq_true ⟨by omega, by omega, hg, h1, h2⟩, hk, fun q hq => decide_eq_true ?_⟩
 have := h3 q hq
 omega
section
variable (more : List Int) (a : Nat) (gs : List S57) (os : List Int) (hC : circuitM a gs os = true) (h5 : Ev (fun k => laws_FnGates.j5 k more) true)
include hC in
theorem zz157 (cs : List Int) (hcl : cs.length ≤ 1000) (hcs : ∀ y ∈ cs, ∃ q : Nat, q < gs.length ∧ y = q ∧ constF a gs q = true) (h5 : Ev (fun k => laws_FnGates.j5 k more) true) (r : List Int) : ∀ (p : List Int) (i : Int), i = p.length → cs = p ++ r →
  Ev (fun k => laws_FnGates.l3 k more cs cs.length i a gs os) true := by
 obtain ⟨_, _, ha, hg, _, _, hk, _⟩ := zz35 hC
 have h8 : 2 ^ a ≤ 2 ^ 4 := Nat.pow_le_pow_right (by decide) (by omega)
 induction r with
 | nil =>
  intro p i hi e
  have hlen : cs.length = p.length := by rw [e]; simp
  apply ev_up
  simp only [laws_FnGates.l3]
  exact ev_n (by omega) h5
 | cons x r ih =>
  intro p i hi e
  have hlen : cs.length = p.length + r.length + 1 := by rw [e]; simp; omega
  have hx : rd cs i = x := by rw [e]; exact rdA hi
  obtain ⟨q, hq, rfl, hf⟩ := hcs x (by rw [e]; simp)
  have ih' := ih (p ++ [(q : Int)]) (i + 1) (by simp; omega) (by rw [e]; simp)
  have hc := zz156 (qs := [(a : Int) + q]) hC (by simp) (by simp) (fun z hz => by rw [List.mem_singleton] at hz; omega)
  have ht := zz150 (a : Int) gs [(a : Int) + q] 0 (by omega) (by simp)
  have e2 : zz147 (a : Int) gs [(a : Int) + q] 0 = ((a : Int), ctabV a gs ((a + q : Nat) : Int), true) := by
   unfold zz147
   rw [if_pos ⟨hc, by omega, by simp⟩, Int.toNat_natCast]
   congr 2
  rw [e2] at ht
  have hcon : ∀ z ∈ ctabV a gs ((a + q : Nat) : Int), z = rd (ctabV a gs ((a + q : Nat) : Int)) 0 := of_decide_eq_true hf
  have hbit : ∀ z ∈ ctabV a gs ((a + q : Nat) : Int), 0 ≤ z ∧ z ≤ 1 := fun z hz => by
   unfold ctabV rmap at hz
   rw [List.mem_map] at hz
   obtain ⟨y, _, rfl⟩ := hz
   rcases wval_bit hk (w := ((a + q : Nat) : Int)) (by omega) (by omega) y with h | h <;> rw [h] <;> omega
  have hd := zz55 a (by omega) _ (zz47 a gs _) hbit hcon
  apply ev_up
  simp only [laws_FnGates.l3]
  rw [hx, w64 (n := i + 1) (by omega) (by omega), w64 (n := (a : Int) + q) (by omega) (by omega)]
  exact ev_p (by omega) (ev_p (by omega) (ev_p (by omega) (Ev.bind ht (Ev.bind hd (ev_p rfl (ev_p rfl (ev_n (by simp) ih')))))))
include hC in
theorem zz158 (es : List (List Int)) (cs : List Int) (hel : es.length ≤ 1000) (hes : ∀ y ∈ es, ∃ p q : Nat, p < gs.length ∧ q < gs.length ∧ y = [(p : Int), (q : Int)] ∧ eqgB a gs p q = true) (hn : Ev (fun k => laws_FnGates.l3 k more cs cs.length 0 a gs os) true) (r : List (List Int)) : ∀ (p : List (List Int)) (i : Int), i = p.length → es = p ++ r →
  Ev (fun k => laws_FnGates.l2 k more cs es es.length i a gs os) true := by
 obtain ⟨_, _, ha, hg, _, _, hk, _⟩ := zz35 hC
 have h8 : 2 ^ a ≤ 2 ^ 4 := Nat.pow_le_pow_right (by decide) (by omega)
 induction r with
 | nil =>
  intro p i hi e
  have hlen : es.length = p.length := by rw [e]; simp
  apply ev_up
  simp only [laws_FnGates.l2]
  exact ev_n (by omega) hn
 | cons x r ih =>
  intro p i hi e
  have hlen : es.length = p.length + r.length + 1 := by rw [e]; simp; omega
  have hx : rd_L4 es i = x := by rw [e]; exact getDA hi
  obtain ⟨u, v, hu, hv, hxe, hf⟩ := hes x (by rw [e]; simp)
  have ih' := ih (p ++ [x]) (i + 1) (by simp; omega) (by rw [e]; simp)
  have r0 : rd x 0 = u := by rw [hxe]; rfl
  have r1 : rd x 1 = v := by rw [hxe]; rfl
  have hc := zz156 (qs := [(a : Int) + u, (a : Int) + v]) hC (by simp) (by simp) (fun z hz => by simp only [List.mem_cons, List.not_mem_nil, or_false] at hz; omega)
  have ht0 := zz150 (a : Int) gs [(a : Int) + u, (a : Int) + v] 0 (by omega) (by simp)
  have ht1 := zz150 (a : Int) gs [(a : Int) + u, (a : Int) + v] 1 (by omega) (by simp)
  have e0 : zz147 (a : Int) gs [(a : Int) + u, (a : Int) + v] 0 = ((a : Int), ctabV a gs ((a + u : Nat) : Int), true) := by
   unfold zz147
   rw [if_pos ⟨hc, by omega, by simp⟩, Int.toNat_natCast]
   congr 2
  have e1 : zz147 (a : Int) gs [(a : Int) + u, (a : Int) + v] 1 = ((a : Int), ctabV a gs ((a + u : Nat) : Int), true) := by
   unfold zz147
   rw [if_pos ⟨hc, by omega, by simp⟩, Int.toNat_natCast]
   congr 2
   rw [show ctabV a gs ((a + u : Nat) : Int) = ctabV a gs ((a + v : Nat) : Int) from of_decide_eq_true hf]
   show ctabV a gs ((a : Int) + v) = _
   congr 1
  rw [e0] at ht0
  rw [e1] at ht1
  have hl2 : x.length = 2 := by rw [hxe]; rfl
  apply ev_up
  simp only [laws_FnGates.l2]
  rw [hx, r0, r1, w64 (n := i + 1) (by omega) (by omega), w64 (n := (a : Int) + u) (by omega) (by omega), w64 (n := (a : Int) + v) (by omega) (by omega)]
  exact ev_p (by omega) (ev_p (by omega) (ev_p (by omega) (ev_p (by omega) (ev_p (by omega) (Ev.bind ht0 (Ev.bind ht1 (ev_p rfl (ev_p rfl (Ev.bind (zz151 _ _ (by rw [zz47]; omega)) (ev_p rfl ih'))))))))))
theorem zz159 (F : List Int) (hF : F = depthsM (List.replicate a 0) gs) (es : List (List Int)) (cs fs : List Int) (U : Int) (hC : circuitM a gs os = true) (hfl : (fs.length : Int) = (a : Int) + gs.length) (hfb : ∀ x ∈ fs, 0 ≤ x ∧ x ≤ 1000000) (hU : fs.sum = U) (hU2 : U = os.length + usesG gs)
  (hn : Ev (fun k => laws_FnGates.l2 k more cs es es.length 0 a gs os) true) (r : List S57) : ∀ (p : List S57) (i acc : Int), i = p.length → gs = p ++ r → acc + usesG r = U → 0 ≤ acc → acc ≤ 1000 →
  Ev (fun k => laws_FnGates.l0 k more (F.drop a) es cs fs acc gs gs.length i a gs os) true := by
 obtain ⟨_, _, ha, hg, _, ho4, hk, _⟩ := zz35 hC
 have hrep : (List.replicate a (0 : Int)).length = a := List.length_replicate
 have hFl : F.length = a + gs.length := by rw [hF, zz57, hrep]
 have hk' : gatesOk ((List.replicate a (0 : Int)).length : Int) gs = true := by rw [hrep]; exact hk
 have hpos := zz67 gs (List.replicate a 0) hk' (fun x hx => by rw [List.mem_replicate] at hx; omega)
 have hat := zz68 gs (List.replicate a 0) hk'
 rw [← hF, hrep] at hat
 rw [← hF] at hpos
 have hdl : (F.drop a).length = gs.length := by rw [List.length_drop, hFl]; omega
 have hdr : ∀ w : Nat, w < gs.length → rd (F.drop a) (w : Int) = rd F ((a + w : Nat) : Int) := fun w hw => by
  rw [rdN (by omega), rdN (by omega), List.getElem_drop]
 induction r with
 | nil =>
  intro p i acc hi e hacc h0 h1
  have hlen : gs.length = p.length := by rw [e]; simp
  have hps := pSum_ev fs (by omega) hfb
  have : acc = U := by
   have : usesG [] = 0 := rfl
   omega
  apply ev_up
  simp only [laws_FnGates.l0]
  rw [w64 (n := (a : Int) + gs.length) (by omega) (by omega)]
  exact ev_n (by omega) (Ev.bind hps (ev_p (by omega) (ev_p hfl hn)))
 | cons g r ih =>
  intro p i acc hi e hacc h0 h1
  have hlen : gs.length = p.length + r.length + 1 := by rw [e]; simp; omega
  have hx : rd_T57 gs i = g := by rw [e]; exact getDA hi
  have hu : usesG (g :: r) = (if g.f0 = 4 then (1 : Int) else 2) + usesG r := by unfold usesG; rw [List.map_cons, List.sum_cons]
  have hur : 0 ≤ usesG r := by
   unfold usesG
   clear ih e hlen hx hu hacc
   induction r with
   | nil => simp
   | cons z r ihr => rw [List.map_cons, List.sum_cons]; split <;> omega
  have hU3 : U ≤ 100 := by
   rw [hU2]
   have : ∀ l : List S57, usesG l ≤ 2 * l.length := fun l => by
    unfold usesG
    induction l with
    | nil => simp
    | cons z l ihl => rw [List.map_cons, List.sum_cons, List.length_cons]; split <;> omega
   have := this gs
   omega
  have ih' := fun acc => ih (p ++ [g]) (i + 1) acc (by simp; omega) (by rw [e]; simp)
  obtain ⟨hgo, hd1, hd2⟩ := hat p.length g (by rw [e]; simp)
  obtain ⟨_, _, g1, g2, g3, g4, _⟩ := of_decide_eq_true hgo
  have hdi : rd (F.drop a) i = rd F ((a + p.length : Nat) : Int) := by rw [hi]; exact hdr _ (by omega)
  have hp1 := hpos _ (rd_mem (ds := F) g1 (by omega))
  have body : ∀ acc2 : Int, Ev (fun k => laws_FnGates.l0 k more (F.drop a) es cs fs acc2 gs gs.length (i + 1) a gs os) true →
    Ev (fun k => laws_FnGates.j1 k more (F.drop a) es cs fs acc2 i gs gs.length i a gs os g.f0 g.f1 g.f2) true := by
   intro acc2 hnx
   have one : ∀ (w : Int), 0 ≤ w → w < ((a + p.length : Nat) : Int) → rd F w < rd F ((a + p.length : Nat) : Int) → ∀ (y : List Int) (j : Int), rd y j = w → 0 ≤ j → j < y.length → y.length ≤ 10 → Ev (fun k => laws_FnGates.l1 k more (F.drop a) es cs fs acc2 i gs gs.length i y y.length (j + 1) a gs os) true →
     Ev (fun k => laws_FnGates.l1 k more (F.drop a) es cs fs acc2 i gs gs.length i y y.length j a gs os) true := by
    intro w hw0 hw1 hw2 y j hj hj0 hj1 hy hnn
    apply ev_up
    simp only [laws_FnGates.l1]
    rw [hj, w64 (n := j + 1) (by omega) (by omega), w64 (n := w - a) (by omega) (by omega)]
    refine ev_p (by omega) (ev_p (by omega) (ev_p (by omega) (ev_ite (fun hge => ?_) (fun _ => hnn))))
    obtain ⟨q, hq⟩ := nat_of (n := w - a) (by omega)
    have e3 : rd (F.drop a) (w - a) = rd F w := by
     rw [hq, hdr q (by omega)]
     congr 1
     omega
    refine ev_p (by omega) (ev_p (by omega) (ev_p (by omega) (ev_p (by omega) (ev_n (by rw [e3, hdi]; omega) hnn))))
   apply ev_up
   simp only [laws_FnGates.j1, Option.bind_some]
   refine one g.f1 g1 g2 hd1 [g.f1, g.f2] 0 rfl (by omega) (by simp) (by simp) ?_
   refine one g.f2 g3 g4 hd2 [g.f1, g.f2] (0 + 1) rfl (by omega) (by simp) (by simp) ?_
   apply ev_up
   simp only [laws_FnGates.l1]
   rw [w64 (n := i + 1) (by omega) (by omega)]
   exact ev_n (by simp) (ev_p (by omega) (ev_p (by omega) (ev_n (by rw [hdi]; omega) hnx)))
  apply ev_up
  simp only [laws_FnGates.l0]
  rw [hx]
  refine ev_p (by omega) (ev_p (by omega) (ev_p (by omega) (ev_ite (fun h4 => ?_) (fun h4 => ?_))))
  ·rw [if_pos h4] at hu
   rw [w64 (n := acc + 2) (by omega) (by omega), w64 (n := acc + 2 - 1) (by omega) (by omega)]
   exact body _ (ih' _ (by omega) (by omega) (by omega))
  ·rw [if_neg h4] at hu
   rw [w64 (n := acc + 2) (by omega) (by omega)]
   exact body _ (ih' _ (by omega) (by omega) (by omega))
end
theorem FnGates : laws_FnGates.Pure := by
 intro l0 l1 hm0 hy0 hw0 hm1 hy1 hw1
 apply ev_get
 have hc0 := bytes_of hy0 hw0
 have hc1 := bytes_of hy1 hw1
 unfold laws_FnGates.f
 obtain ⟨b, hb⟩ := big_eq l0 l1 hy0
 rw [hb]
 refine Ev.bind (ev_c rfl) (ev_ite (fun _ => Ev.now _) (fun _ => ?_))
 obtain ⟨n, gs, os, ed, hn, hg, ho⟩ := zz15 hc0
 obtain ⟨u, us, uo, ui, et, hu, hus, huo⟩ := zz16 hc1
 have h5 : Ev (fun k => laws_FnGates.j5 k l1) true := by
  apply ev_up
  simp only [laws_FnGates.j5]
  rw [et]
  refine Ev.bind (ev_c rfl) (Ev.bind (zz150 u us uo ui (by omega) (by omega)) (Ev.bind (zz149 u us uo ui (by unfold I64; omega) (by omega) (by omega)) (ev_p (by simp) (Ev.bind (zz151 _ _ (by have := zz148 u us uo ui; omega)) (Ev.now _)))))
 have ed2 : spec_DrawGateDepths.f l0 = some (n, gs, os) := by
  unfold spec_DrawGateDepths.f
  rw [ed]
  rfl
 have hnI : I64 n := by unfold I64; omega
 rw [ed2]
 refine Ev.bind (ev_c rfl) ?_
 dsimp only
 refine Ev.bind (zz86 n gs os (by omega) (by omega)) (Ev.bind (zz87 n gs os hnI (by omega) (by omega)) (Ev.bind (zz134 n gs os (by omega) (by omega)) (Ev.bind (zz131 n gs os hnI (by omega) (by omega)) (Ev.bind (zz146 n gs os (by omega) (by omega)) (Ev.bind (zz145 n gs os hnI (by omega) (by omega)) (Ev.bind (zz94 n gs os (by omega) (by omega)) (Ev.bind (zz93 n gs os hnI (by omega) (by omega)) ?_)))))))
 have p2 := zz128 n gs os
 by_cases hC : circuitM n gs os = true
 ·have hC' := hC
  obtain ⟨a, rfl, ha, hg16, ho1, ho4, hk, hob⟩ := zz35 hC
  have e1 : zz81 (a : Int) gs os = ((depthsM (List.replicate a 0) gs).drop a, true) := by unfold zz81; rw [if_pos hC, Int.toNat_natCast]
  have e2 : zz127 (a : Int) gs os = (pairsG (eqgB a gs) 0 gs.length, true) := by unfold zz127; rw [if_pos hC, Int.toNat_natCast]
  have e3 : zz144 (a : Int) gs os = (selM (constF a gs) 0 gs.length, true) := by unfold zz144; rw [if_pos hC, Int.toNat_natCast]
  have e4 : fanOutsM (a : Int) gs os = (fanO (fanG (List.replicate (a + gs.length) 0) gs) os, true) := by unfold fanOutsM; rw [if_pos hC, Int.toNat_natCast]
  rw [e2] at p2
  rw [e1, e2, e3, e4]
  have d1 : ((depthsM (List.replicate a 0) gs).drop a).length ≤ 100 := by rw [List.length_drop, zz57, List.length_replicate]; omega
  have d3 := zz51 (constF a gs) gs.length 0
  have d4 : (fanO (fanG (List.replicate (a + gs.length) 0) gs) os).length = a + gs.length := by rw [zz64, zz63, List.length_replicate]
  have hz : (List.replicate (a + gs.length) (0 : Int)).length = a + gs.length := List.length_replicate
  have s1 := fanG_sum gs (List.replicate (a + gs.length) 0) a hk (by rw [hz]; omega)
  have s2 := fanO_sum os (fanG (List.replicate (a + gs.length) 0) gs) (fun o ho => by rw [zz63, hz]; have := hob o ho; omega)
  have s0 : (List.replicate (a + gs.length) (0 : Int)).sum = 0 := by
   generalize a + gs.length = m
   induction m with
   | zero => rfl
   | succ m ih => rw [List.replicate_succ, List.sum_cons, ih]; rfl
  have b1 := zz73 gs (List.replicate (a + gs.length) 0) a 0 hk (by rw [hz]; omega) (fun x hx => by rw [List.mem_replicate] at hx; omega)
  have b2 := zz74 os (fanG (List.replicate (a + gs.length) 0) gs) _ (fun o ho => by rw [zz63, hz]; have := hob o ho; omega) b1
  dsimp only at p2 ⊢
  refine ev_n (by simp) (Ev.bind (zz18 _ (by omega)) (ev_p rfl ?_))
  refine ev_n (by simp) (Ev.bind (zz20 _ (by omega) (fun y hy => by have := p2.2 y hy; omega)) (ev_p rfl ?_))
  refine ev_n (by simp) (Ev.bind (zz18 _ (by omega)) (ev_p rfl ?_))
  refine ev_n (by simp) (Ev.bind (zz18 _ (by omega)) (ev_p rfl ?_))
  refine ev_n (by simp) (ev_n (by simp) (ev_n (by simp) (ev_p rfl ?_)))
  refine zz159 l1 a gs os _ rfl _ _ _ (os.length + usesG gs) hC' (by rw [d4]; omega) (fun x hx => by have := b2 x hx; omega) (by rw [s2, s1, s0]; omega) rfl ?_ gs [] 0 os.length rfl rfl rfl (by omega) (by omega)
  refine zz158 l1 a gs os hC' _ _ (by omega) (fun y hy => ?_) ?_ _ [] 0 rfl rfl
  ·obtain ⟨p, q, h1, h2, h3, h4⟩ := zz154 _ _ _ y hy
   exact ⟨p, q, by omega, by omega, h3, h4⟩
  ·refine zz157 l1 a gs os hC' _ (by omega) (fun y hy => ?_) h5 _ [] 0 rfl rfl
   obtain ⟨q, h1, h2, h3⟩ := selM_mem _ _ _ y hy
   exact ⟨q, by omega, h2, h3⟩
 ·have e1 : zz81 n gs os = ([], false) := by unfold zz81; rw [if_neg hC]
  have e2 : zz127 n gs os = ([], false) := by unfold zz127; rw [if_neg hC]
  have e3 : zz144 n gs os = ([], false) := by unfold zz144; rw [if_neg hC]
  have e4 : fanOutsM n gs os = ([], false) := by unfold fanOutsM; rw [if_neg hC]
  rw [e1, e2, e3, e4]
  dsimp only
  refine ev_n (by simp) (Ev.bind (zz18 _ (by simp)) (ev_p rfl ?_))
  refine ev_n (by simp) (Ev.bind (zz20 _ (by simp) (by simp)) (ev_p rfl ?_))
  refine ev_n (by simp) (Ev.bind (zz18 _ (by simp)) (ev_p rfl ?_))
  refine ev_n (by simp) (Ev.bind (zz18 _ (by simp)) (ev_p rfl ?_))
  exact ev_n (by simp) (ev_n (by simp) (ev_n (by simp) (ev_n (by simp) h5)))
end Go.Proofs.Ytbkighlfgaifeaa.Pure
