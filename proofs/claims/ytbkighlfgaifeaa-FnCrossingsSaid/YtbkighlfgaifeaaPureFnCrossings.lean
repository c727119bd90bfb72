/- The pure part of the law FnCrossings: what the program and the reference compute is the same, for all arguments. Conditions: the numbers are of Go's int, the lengths of slices are. -/
import Derived.Test.YtbkighlfgaifeaaSFnCrossingsx20
import Derived.Test.YtbkighlfgaifeaaVCrKit
set_option linter.unusedVariables false
set_option linter.unusedSimpArgs false
namespace Go.Proofs.Ytbkighlfgaifeaa.Pure
open Go.RowKit Go.Proofs.Ytbkighlfgaifeaa.QFnCrossings Go.Proofs.YtbkighlfgaifeaaW.PrintWords Go.Proofs.YtbkighlfgaifeaaW.PrintLast Go.Proofs.Ytbkighlfgaifeaa.Open Go.Proofs.Ytbkighlfgaifeaa.Kit
/-! #### rdMem -/
theorem rd_mem {ds : List Int} {i : Int} (h0 : 0 ≤ i) (h1 : i < ds.length) : rd ds i ∈ ds := by
 obtain ⟨n, rfl⟩ := nat_of h0
 have hn : n < ds.length := by omega
 rw [rdN hn]
 exact List.getElem_mem hn
/-! #### drawD -/
/-- What a cursor reads: bytes. -/
def bytesOk (code : List Int) : Prop := code.length ≤ 140737488355328 ∧ ∀ x ∈ code, 0 ≤ x ∧ x ≤ 255
theorem bits255 (y : Int) : 0 ≤ wrap64 (Go.bits .and .u64 y 255) ∧ wrap64 (Go.bits .and .u64 y 255) ≤ 255 := by
 show 0 ≤ wrap64 (IntKind.u64.wrap ((BitVec.ofInt 64 y &&& BitVec.ofInt 64 255).toNat : Int)) ∧ wrap64 (IntKind.u64.wrap ((BitVec.ofInt 64 y &&& BitVec.ofInt 64 255).toNat : Int)) ≤ 255
 have h : (BitVec.ofInt 64 y &&& BitVec.ofInt 64 255).toNat ≤ 255 := by
  rw [BitVec.toNat_and]
  exact Nat.le_trans Nat.and_le_right (by decide)
 generalize (BitVec.ofInt 64 y &&& BitVec.ofInt 64 255).toNat = m at h
 rw [u64w (by omega) (by omega), w64 (n := (m : Int)) (by omega) (by omega)]
 omega
theorem next_ok {code : List Int} (hc : bytesOk code) (at_ mix : Int) (h0 : 0 ≤ at_) (h1 : at_ ≤ 4000000000000000000) : ∃ r m, spec_l1Cur_next.f code at_ mix = some (r, at_ + 1, m) ∧ 0 ≤ r ∧ r ≤ 255 := by
 unfold spec_l1Cur_next.f
 rw [w64 (n := at_ + 1) (by omega) (by omega)]
 by_cases c1 : at_ < (code.length : Int)
 ·have hm := hc.2 (rd code at_) (rd_mem h0 c1)
  rw [if_pos c1, if_pos h0, if_pos (by omega), w64 (n := rd code at_) (by omega) (by omega)]
  exact ⟨_, _, rfl, hm.1, hm.2⟩
 ·rw [if_neg c1, if_neg (by omega)]
  exact ⟨_, _, rfl, (bits255 _).1, (bits255 _).2⟩
theorem pick_ok {code : List Int} (hc : bytesOk code) (at_ mix n : Int) (h0 : 0 ≤ at_) (h1 : at_ ≤ 3999999999999999990) : ∃ r a m, spec_l1Cur_pick.f code at_ mix n = some (r, a, m) ∧ (at_ ≤ a ∧ a ≤ at_ + 2) ∧ 0 ≤ r ∧ (r = 0 ∨ r < n) := by
 unfold spec_l1Cur_pick.f
 by_cases c : n ≤ 1
 ·rw [if_pos c]
  exact ⟨0, at_, mix, rfl, by omega, by omega, .inl rfl⟩
 ·rw [if_neg c]
  obtain ⟨r, m, e, hr0, hr1⟩ := next_ok hc at_ mix h0 (by omega)
  rw [e, Option.bind_some]
  by_cases c2 : n > 200
  ·obtain ⟨r2, m2, e2, hs0, hs1⟩ := next_ok hc (at_ + 1) m (by omega) (by omega)
   rw [if_pos c2, e2, Option.bind_some, if_neg (by omega)]
   dsimp only
   rw [w64 (n := r * 256) (by omega) (by omega), w64 (n := r * 256 + r2) (by omega) (by omega)]
   exact ⟨_, _, _, rfl, by omega, Int.tmod_nonneg _ (by omega), .inr (Int.tmod_lt_of_pos _ (by omega))⟩
  ·rw [if_neg c2, if_neg (by omega)]
   dsimp only
   exact ⟨_, _, _, rfl, by omega, Int.tmod_nonneg _ (by omega), .inr (Int.tmod_lt_of_pos _ (by omega))⟩
theorem among_ok {code : List Int} (hc : bytesOk code) (at_ mix : Int) (l : List Int) (hl : 0 < l.length) (h0 : 0 ≤ at_) (h1 : at_ ≤ 3999999999999999990) : ∃ r a m, spec_l1Cur_among.f code at_ mix l = some (r, a, m) ∧ (at_ ≤ a ∧ a ≤ at_ + 2) ∧ r ∈ l := by
 unfold spec_l1Cur_among.f
 obtain ⟨r, a, m, e, ha, hr0, hr1⟩ := pick_ok hc at_ mix (l.length : Int) h0 h1
 have hr2 : r < (l.length : Int) := by omega
 rw [e, Option.bind_some]
 dsimp only
 rw [if_pos hr0, if_pos hr2]
 exact ⟨_, _, _, rfl, ha, rd_mem hr0 hr2⟩
theorem one_ok {code : List Int} (hc : bytesOk code) (at_ mix n : Int) (h0 : 0 ≤ at_) (h1 : at_ ≤ 3999999999999999990) : ∃ r a m, spec_l1Cur_one.f code at_ mix n = some (r, a, m) ∧ (at_ ≤ a ∧ a ≤ at_ + 2) := by
 unfold spec_l1Cur_one.f
 obtain ⟨r, a, m, e, ha, _⟩ := pick_ok hc at_ mix n h0 h1
 rw [e, Option.bind_some]
 exact ⟨_, _, _, rfl, ha⟩
theorem bytes_of {l : List Int} (h1 : l.length * 1 ≤ 140737488351232) (h2 : ∀ x ∈ l, (Lit.int .u8 x).wf = true) : bytesOk l := by
 refine ⟨by omega, fun x hx => ?_⟩
 have := h2 x hx
 simp [Lit.wf, IntKind.min, IntKind.max, IntKind.bits, IntKind.signed] at this
 omega
/-! #### gateT -/
theorem rdGateA {p r : List S57} {x : S57} {i : Int} (hi : i = p.length) : rd_T57 (p ++ x :: r) i = x := getDA hi
/-! #### circD -/
theorem ciGates_ok {code : List Int} (hc : bytesOk code) (inp : Int) : ∀ (d : Nat) (l : List S57) (a m : Int), 0 ≤ a → a + 6 * d ≤ 1000000000 → ∃ l' a' m', ciGates code inp d l a m = some (l', a', m') ∧ (a ≤ a' ∧ a' ≤ a + 6 * d) ∧ l'.length = l.length + d := by
 intro d
 induction d with
 | zero => intro l a m h0 _; exact ⟨l, a, m, rfl, by omega, by omega⟩
 | succ d ih =>
  intro l a m h0 h1
  rw [ciGates]
  obtain ⟨x, a1, m1, e1, ha1, _⟩ := pick_ok hc a m 4 h0 (by omega)
  rw [e1, Option.bind_some]
  dsimp only
  obtain ⟨y, a2, m2, e2, ha2, _⟩ := pick_ok hc a1 m1 (wrap64 (inp + (l.length : Int))) (by omega) (by omega)
  rw [e2, Option.bind_some]
  dsimp only
  obtain ⟨z, a3, m3, e3, ha3, _⟩ := pick_ok hc a2 m2 (wrap64 (inp + (l.length : Int))) (by omega) (by omega)
  rw [e3, Option.bind_some]
  dsimp only
  obtain ⟨l', a', m', e, ha, hl⟩ := ih (l ++ [(⟨wrap64 (1 + x), y, if wrap64 (1 + x) = 4 then y else z⟩ : S57)]) a3 m3 (by omega) (by omega)
  exact ⟨l', a', m', e, by omega, by rw [hl, List.length_append, List.length_singleton]; omega⟩
theorem ciOuts_ok {code : List Int} (hc : bytesOk code) (inp n : Int) : ∀ (d : Nat) (l : List Int) (a m : Int), 0 ≤ a → a + 6 * d ≤ 1000000000 → ∃ l' a' m', ciOuts code inp n d l a m = some (l', a', m') ∧ (a ≤ a' ∧ a' ≤ a + 6 * d) ∧ l'.length = l.length + d := by
 intro d
 induction d with
 | zero => intro l a m h0 _; exact ⟨l, a, m, rfl, by omega, by omega⟩
 | succ d ih =>
  intro l a m h0 h1
  rw [ciOuts]
  obtain ⟨y, a1, m1, e1, ha1, _⟩ := pick_ok hc a m (wrap64 (inp + n)) h0 (by omega)
  rw [e1, Option.bind_some]
  dsimp only
  obtain ⟨z, a2, m2, e2, ha2, _⟩ := among_ok hc a1 m1 [wrap64 (wrap64 (inp + n) - 1), y] (by simp) (by omega) (by omega)
  rw [e2, Option.bind_some]
  dsimp only
  obtain ⟨l', a', m', e, ha, hl⟩ := ih (l ++ [z]) a2 m2 (by omega) (by omega)
  exact ⟨l', a', m', e, by omega, by rw [hl, List.length_append, List.length_singleton]; omega⟩
theorem circuit_ok {code : List Int} (hc : bytesOk code) (a m : Int) (h0 : 0 ≤ a) (h1 : a ≤ 900000000) : ∃ n gs os a' m', spec_l1Cur_circuit.f code a m = some (n, gs, os, a', m') ∧ (a ≤ a' ∧ a' ≤ a + 1000) ∧ (1 ≤ n ∧ n ≤ 4) ∧ gs.length ≤ 16 ∧ (1 ≤ os.length ∧ os.length ≤ 3) := by
 unfold spec_l1Cur_circuit.f
 obtain ⟨x, a1, m1, e1, ha1, hx0, hx1⟩ := pick_ok hc a m 4 h0 (by omega)
 rw [e1, Option.bind_some]
 dsimp only
 obtain ⟨n, a2, m2, e2, ha2, hn0, hn1⟩ := pick_ok hc a1 m1 7 (by omega) (by omega)
 rw [e2, Option.bind_some]
 dsimp only
 obtain ⟨b, a3, m3, e3, ha3⟩ := one_ok hc a2 m2 20 (by omega) (by omega)
 rw [e3, Option.bind_some]
 dsimp only
 rw [w64 (n := 1 + x) (by omega) (by omega)]
 have body : ∀ N : Int, 0 ≤ N → N ≤ 16 → ∃ n gs os a' m', ciBody code (1 + x) N a3 m3 = some (n, gs, os, a', m') ∧ (a3 ≤ a' ∧ a' ≤ a3 + 900) ∧ (1 ≤ n ∧ n ≤ 4) ∧ gs.length ≤ 16 ∧ (1 ≤ os.length ∧ os.length ≤ 3) := by
  intro N hN0 hN1
  unfold ciBody
  rw [if_pos (by omega)]
  obtain ⟨gs, a4, m4, e4, ha4, hl4⟩ := ciGates_ok hc (1 + x) N.toNat [] a3 m3 (by omega) (by omega)
  rw [e4, Option.bind_some]
  dsimp only
  obtain ⟨k, a5, m5, e5, ha5, hk0, hk1⟩ := pick_ok hc a4 m4 3 (by omega) (by omega)
  rw [e5, Option.bind_some]
  dsimp only
  rw [w64 (n := 1 + k) (by omega) (by omega), if_pos (by omega)]
  obtain ⟨os, a6, m6, e6, ha6, hl6⟩ := ciOuts_ok hc (1 + x) N (1 + k).toNat [] a5 m5 (by omega) (by omega)
  rw [e6, Option.bind_some]
  rw [List.length_nil, Nat.zero_add] at hl4 hl6
  exact ⟨1 + x, gs, os, a6, m6, rfl, by omega, by omega, by omega, by omega⟩
 cases b with
 | true =>
  rw [if_pos rfl]
  obtain ⟨n', gs, os, a', m', e, h2, h3⟩ := body 16 (by omega) (by omega)
  exact ⟨n', gs, os, a', m', e, by omega, h3⟩
 | false =>
  rw [if_neg (by decide)]
  obtain ⟨n', gs, os, a', m', e, h2, h3⟩ := body n hn0 (by omega)
  exact ⟨n', gs, os, a', m', e, by omega, h3⟩
theorem anG_ok {code : List Int} (hc : bytesOk code) (inp : Int) (l : List S57) (a m : Int) (h0 : 0 ≤ a) (h1 : a ≤ 900000000) : ∃ l' a' m', anG code inp (l.length : Int) l a m = some (l', a', m') ∧ (a ≤ a' ∧ a' ≤ a + 10) ∧ l'.length = l.length := by
 unfold anG
 by_cases c : (0 : Int) < (l.length : Int)
 ·rw [if_pos c]
  obtain ⟨q, a1, m1, e1, ha1, hq0, hq1⟩ := pick_ok hc a m (l.length : Int) h0 (by omega)
  rw [e1, Option.bind_some]
  dsimp only
  rw [if_pos ⟨hq0, by omega⟩]
  obtain ⟨s, a2, m2, e2, ha2, _⟩ := pick_ok hc a1 m1 30 (by omega) (by omega)
  rw [e2, Option.bind_some]
  dsimp only
  by_cases s0 : s = 0
  ·rw [if_pos s0]
   obtain ⟨z, a3, m3, e3, ha3, _⟩ := among_ok hc a2 m2 [0, 4, 5] (by simp) (by omega) (by omega)
   rw [e3, Option.bind_some]
   exact ⟨_, _, _, rfl, by dsimp only; omega, List.length_set ..⟩
  rw [if_neg s0]
  by_cases s1 : s = 1
  ·rw [if_pos s1]
   obtain ⟨z, a3, m3, e3, ha3, _⟩ := among_ok hc a2 m2 [-1, wrap64 (inp + (l.length : Int))] (by simp) (by omega) (by omega)
   rw [e3, Option.bind_some]
   exact ⟨_, _, _, rfl, by dsimp only; omega, List.length_set ..⟩
  rw [if_neg s1]
  by_cases s2 : s = 2
  ·rw [if_pos s2]
   obtain ⟨z, a3, m3, e3, ha3, _⟩ := among_ok hc a2 m2 [-1, wrap64 (wrap64 (inp + (l.length : Int)) - 1)] (by simp) (by omega) (by omega)
   rw [e3, Option.bind_some]
   exact ⟨_, _, _, rfl, by dsimp only; omega, List.length_set ..⟩
  ·rw [if_neg s2]
   exact ⟨_, _, _, rfl, by omega, rfl⟩
 ·rw [if_neg c]
  exact ⟨_, _, _, rfl, by omega, rfl⟩
theorem anE_ok {code : List Int} (hc : bytesOk code) (inp : Int) (l : List S57) (lo : List Int) (a m : Int) (h0 : 0 ≤ a) (h1 : a ≤ 900000000) (hn : 1 ≤ inp ∧ inp ≤ 4) (hl : l.length ≤ 16) (ho : 1 ≤ lo.length ∧ lo.length ≤ 3) : ∃ n gs os a' m', anE code inp l lo a m = some (n, gs, os, a', m') ∧ (a ≤ a' ∧ a' ≤ a + 10) ∧ (-1 ≤ n ∧ n ≤ 5) ∧ gs.length ≤ 100 ∧ os.length ≤ 100 := by
 unfold anE
 obtain ⟨s, a1, m1, e1, ha1, hs0, hs1⟩ := pick_ok hc a m 30 h0 (by omega)
 rw [e1, Option.bind_some]
 dsimp only
 by_cases s0 : s = 0
 ·rw [if_pos s0]
  obtain ⟨z, a3, m3, e3, ha3, hz⟩ := among_ok hc a1 m1 [-1, 0, 5] (by simp) (by omega) (by omega)
  rw [e3, Option.bind_some]
  simp only [List.mem_cons, List.not_mem_nil, or_false] at hz
  exact ⟨z, l, lo, a3, m3, rfl, by omega, by omega, by omega, by omega⟩
 rw [if_neg s0]
 by_cases s1 : s = 1
 ·rw [if_pos s1]
  exact ⟨_, _, _, _, _, rfl, by omega, by omega, by omega, by simp⟩
 rw [if_neg s1]
 by_cases s2 : s = 2
 ·rw [if_pos s2]
  obtain ⟨z, a3, m3, e3, ha3, hz0, hz1⟩ := pick_ok hc a1 m1 2 (by omega) (by omega)
  rw [e3, Option.bind_some]
  dsimp only
  rw [w64 (n := 4 + z) (by omega) (by omega), if_pos ⟨by omega, by omega⟩]
  exact ⟨_, _, _, _, _, rfl, by omega, by omega, by omega, by rw [List.length_append, List.length_replicate]; omega⟩
 rw [if_neg s2]
 by_cases s3 : s = 3
 ·rw [if_pos s3, if_pos (by omega)]
  obtain ⟨z, a3, m3, e3, ha3, _⟩ := among_ok hc a1 m1 [-1, wrap64 (inp + (l.length : Int))] (by simp) (by omega) (by omega)
  rw [e3, Option.bind_some]
  exact ⟨inp, l, lo.set 0 z, a3, m3, rfl, by omega, by omega, by omega, by rw [List.length_set]; omega⟩
 rw [if_neg s3]
 by_cases s4 : s = 4
 ·rw [if_pos s4]
  obtain ⟨z, a3, m3, e3, ha3, hz0, hz1⟩ := pick_ok hc a1 m1 2 (by omega) (by omega)
  rw [e3, Option.bind_some]
  dsimp only
  rw [w64 (n := 16 + z) (by omega) (by omega), if_pos ⟨by omega, by omega⟩]
  exact ⟨_, _, _, _, _, rfl, by omega, by omega, by rw [List.length_append, List.length_replicate]; omega, by omega⟩
 ·rw [if_neg s4]
  exact ⟨_, _, _, _, _, rfl, by omega, by omega, by omega, by omega⟩
theorem anyCircuit_ok {code : List Int} (hc : bytesOk code) (a m : Int) (h0 : 0 ≤ a) (h1 : a ≤ 800000000) : ∃ n gs os a' m', spec_l1Cur_anyCircuit.f code a m = some (n, gs, os, a', m') ∧ (a ≤ a' ∧ a' ≤ a + 2000) ∧ (-1 ≤ n ∧ n ≤ 5) ∧ gs.length ≤ 100 ∧ os.length ≤ 100 := by
 unfold spec_l1Cur_anyCircuit.f
 obtain ⟨n, gs, os, a1, m1, e1, ha1, hn, hg, ho⟩ := circuit_ok hc a m h0 (by omega)
 rw [e1, Option.bind_some]
 dsimp only
 obtain ⟨l', a2, m2, e2, ha2, hl⟩ := anG_ok hc n gs a1 m1 (by omega) (by omega)
 rw [e2, Option.bind_some]
 dsimp only
 obtain ⟨n', gs', os', a3, m3, e3, ha3, hr⟩ := anE_ok hc n l' os a2 m2 (by omega) (by omega) hn (by omega) ho
 exact ⟨n', gs', os', a3, m3, e3, by omega, hr⟩
/-! #### crossD -/
theorem most_eq (x : Int) : ∃ k, spec_l1Most.f 1 x = some k := by
 unfold spec_l1Most.f
 split <;> exact ⟨_, rfl⟩
theorem lwLoop_ok {code : List Int} (hc : bytesOk code) (mm : Int) : ∀ (d : Nat) (l : List (List Int)) (a m : Int), 0 ≤ a → a + 4 * d ≤ 1000000000 → (∀ y ∈ l, y.length ≤ 2) → ∃ l' a' m', lwLoop code mm d l a m = some (l', a', m') ∧ (a ≤ a' ∧ a' ≤ a + 4 * d) ∧ l'.length = l.length + d ∧ ∀ y ∈ l', y.length ≤ 2 := by
 intro d
 induction d with
 | zero => intro l a m h0 _ hy; exact ⟨l, a, m, rfl, by omega, by omega, hy⟩
 | succ d ih =>
  intro l a m h0 h1 hy
  rw [lwLoop]
  obtain ⟨x, a1, m1, e1, ha1, _⟩ := pick_ok hc a m 6 h0 (by omega)
  rw [e1, Option.bind_some]
  dsimp only
  obtain ⟨k, ek⟩ := most_eq mm
  rw [ek, Option.bind_some]
  obtain ⟨y, a2, m2, e2, ha2, _⟩ := pick_ok hc a1 m1 k (by omega) (by omega)
  rw [e2, Option.bind_some]
  dsimp only
  obtain ⟨l', a', m', e, ha, hl, hy'⟩ := ih (l ++ [[x, y]]) a2 m2 (by omega) (by omega) (fun z hz => by
   rcases List.mem_append.1 hz with hz | hz
   ·exact hy z hz
   ·rw [List.mem_singleton] at hz; rw [hz]; exact Nat.le_refl _)
  exact ⟨l', a', m', e, by omega, by rw [hl, List.length_append, List.length_singleton]; omega, hy'⟩
theorem set_rows {l : List (List Int)} (h : ∀ y ∈ l, y.length ≤ 2) (i : Nat) (z : List Int) (hz : z.length ≤ 2) : ∀ y ∈ l.set i z, y.length ≤ 2 := fun y hy => by
 rcases List.mem_or_eq_of_mem_set hy with hy | rfl
 ·exact h y hy
 ·exact hz
theorem getD_rows {l : List (List Int)} (h : ∀ y ∈ l, y.length ≤ 2) (i : Nat) : (l.getD i []).length ≤ 2 := by
 rw [List.getD_eq_getElem?_getD]
 cases hq : l[i]? with
 | none => simp
 | some z => exact h z (List.mem_of_getElem? hq)
theorem lwEnd_ok {code : List Int} (hc : bytesOk code) (mm n : Int) (l : List (List Int)) (a m : Int) (h0 : 0 ≤ a) (h1 : a ≤ 900000000) (hy : ∀ y ∈ l, y.length ≤ 2) : ∃ l' a' m', lwEnd code mm n l a m = some (l', mm, a', m') ∧ (a ≤ a' ∧ a' ≤ a + 10) ∧ l'.length = l.length ∧ ∀ y ∈ l', y.length ≤ 2 := by
 unfold lwEnd
 by_cases c1 : 0 < n
 ·rw [if_pos c1]
  obtain ⟨q, a1, m1, e1, ha1, hq0, hq1⟩ := pick_ok hc a m n h0 (by omega)
  rw [e1, Option.bind_some]
  dsimp only
  rw [if_pos ⟨hq0, by omega⟩]
  obtain ⟨sw, a2, m2, e2, ha2, _⟩ := pick_ok hc a1 m1 24 (by omega) (by omega)
  rw [e2, Option.bind_some]
  dsimp only
  unfold lwSw
  by_cases c2 : sw = 0
  ·rw [if_pos c2]
   obtain ⟨z, a3, m3, e3, ha3, _⟩ := among_ok hc a2 m2 [-1, 29, 30] (by simp) (by omega) (by omega)
   rw [e3, Option.bind_some]
   exact ⟨_, a3, m3, rfl, by omega, by simp, set_rows hy _ _ (by rw [List.length_set]; exact getD_rows hy _)⟩
  rw [if_neg c2]
  by_cases c3 : sw = 1
  ·rw [if_pos c3]
   obtain ⟨z, a3, m3, e3, ha3, _⟩ := among_ok hc a2 m2 [-1, mm] (by simp) (by omega) (by omega)
   rw [e3, Option.bind_some]
   exact ⟨_, a3, m3, rfl, by omega, by simp, set_rows hy _ _ (by rw [List.length_set]; exact getD_rows hy _)⟩
  rw [if_neg c3]
  by_cases c4 : sw = 2
  ·rw [if_pos c4]
   exact ⟨_, a2, m2, rfl, by omega, by simp, set_rows hy _ _ (by rw [List.length_take]; have := getD_rows hy 0; omega)⟩
  rw [if_neg c4]
  exact ⟨l, a2, m2, rfl, by omega, rfl, hy⟩
 ·rw [if_neg c1]
  exact ⟨l, a, m, rfl, by omega, rfl, hy⟩
theorem levelWires_ok {code : List Int} (hc : bytesOk code) (a m : Int) (h0 : 0 ≤ a) (h1 : a ≤ 800000000) : ∃ l mm a' m', spec_l1Cur_levelWires.f code a m = some (l, mm, a', m') ∧ (a ≤ a' ∧ a' ≤ a + 1000) ∧ (0 ≤ mm ∧ mm ≤ 8) ∧ l.length ≤ 31 ∧ ∀ y ∈ l, y.length ≤ 2 := by
 unfold spec_l1Cur_levelWires.f
 obtain ⟨x, a1, m1, e1, ha1, hx0, hx1⟩ := pick_ok hc a m 5 h0 (by omega)
 rw [e1, Option.bind_some]
 dsimp only
 obtain ⟨b, a2, m2, e2, ha2⟩ := one_ok hc a1 m1 16 (by omega) (by omega)
 rw [e2, Option.bind_some]
 dsimp only
 have hM : ∃ mm a' m', lwM code b (wrap64 (1 + x)) a2 m2 = some (mm, a', m') ∧ (a2 ≤ a' ∧ a' ≤ a2 + 2) ∧ 0 ≤ mm ∧ mm ≤ 8 := by
  unfold lwM
  cases b with
  | true =>
   rw [if_pos rfl]
   obtain ⟨z, a3, m3, e3, ha3, hz⟩ := among_ok hc a2 m2 [7, 8, 0] (by simp) (by omega) (by omega)
   simp only [List.mem_cons, List.not_mem_nil, or_false] at hz
   exact ⟨z, a3, m3, e3, ha3, by omega, by omega⟩
  | false =>
   rw [if_neg (by decide), w64 (n := 1 + x) (by omega) (by omega)]
   exact ⟨_, _, _, rfl, by omega, by omega, by omega⟩
 obtain ⟨mm, a3, m3, e3, ha3, hm0, hm1⟩ := hM
 rw [e3, Option.bind_some]
 dsimp only
 obtain ⟨y, a4, m4, e4, ha4, hy0, hy1⟩ := pick_ok hc a3 m3 9 (by omega) (by omega)
 rw [e4, Option.bind_some]
 dsimp only
 obtain ⟨b2, a5, m5, e5, ha5⟩ := one_ok hc a4 m4 20 (by omega) (by omega)
 rw [e5, Option.bind_some]
 dsimp only
 have hN : ∃ nn a' m', lwN code b2 y a5 m5 = some (nn, a', m') ∧ (a5 ≤ a' ∧ a' ≤ a5 + 2) ∧ 0 ≤ nn ∧ nn ≤ 31 := by
  unfold lwN
  cases b2 with
  | true =>
   rw [if_pos rfl]
   obtain ⟨z, a6, m6, e6, ha6, hz0, hz1⟩ := pick_ok hc a5 m5 2 (by omega) (by omega)
   rw [e6, Option.bind_some]
   dsimp only
   rw [w64 (n := 30 + z) (by omega) (by omega)]
   exact ⟨_, a6, m6, rfl, ha6, by omega, by omega⟩
  | false =>
   rw [if_neg (by decide)]
   exact ⟨_, _, _, rfl, by omega, by omega, by omega⟩
 obtain ⟨nn, a6, m6, e6, ha6, hn0, hn1⟩ := hN
 rw [e6, Option.bind_some]
 dsimp only
 rw [if_pos (by omega)]
 obtain ⟨l1, a7, m7, e7, ha7, hl7, hr7⟩ := lwLoop_ok hc mm nn.toNat [] a6 m6 (by omega) (by omega) (by simp)
 rw [e7, Option.bind_some]
 dsimp only
 obtain ⟨l2, a8, m8, e8, ha8, hl8, hr8⟩ := lwEnd_ok hc mm nn l1 a7 m7 (by omega) (by omega) hr7
 rw [List.length_nil] at hl7
 exact ⟨l2, mm, a8, m8, e8, by omega, by omega, by omega, hr8⟩
theorem DrawCrossingTable_ok {code : List Int} (hc : bytesOk code) : ∃ l mm, spec_DrawCrossingTable.f code = some (l, mm) ∧ (0 ≤ mm ∧ mm ≤ 8) ∧ l.length ≤ 31 ∧ ∀ y ∈ l, y.length ≤ 2 := by
 unfold spec_DrawCrossingTable.f spec_DrawAreLevelWires.f
 obtain ⟨l, mm, a', m', e, _, h⟩ := levelWires_ok hc 0 0 (by omega) (by omega)
 rw [e, Option.bind_some, Option.bind_some]
 exact ⟨l, mm, rfl, h⟩
theorem dmLoop_ok {code : List Int} (hc : bytesOk code) : ∀ (d : Nat) (o : List Int) (a m : Int), 0 ≤ a → a + 2 * d ≤ 1000000000 → o.length + d ≤ 1000 → ∃ o' a' m', dmLoop code d o a m = some (o', a', m') ∧ (a ≤ a' ∧ a' ≤ a + 2 * d) ∧ o'.length = o.length + d := by
 intro d
 induction d with
 | zero => intro o a m h0 _ _; exact ⟨o, a, m, rfl, by omega, by omega⟩
 | succ d ih =>
  intro o a m h0 h1 h2
  rw [dmLoop, w64 (n := (o.length : Int) + 1) (by omega) (by omega)]
  obtain ⟨k, a1, m1, e1, ha1, hk0, hk1⟩ := pick_ok hc a m ((o.length : Int) + 1) h0 (by omega)
  rw [e1, Option.bind_some]
  dsimp only
  rw [if_pos (by omega)]
  have hl : (o.take k.toNat ++ [(o.length : Int)] ++ o.drop k.toNat).length = o.length + 1 := by
   rw [List.length_append, List.length_append, List.length_take, List.length_drop, List.length_singleton]
   omega
  obtain ⟨o', a', m', e, ha, hl'⟩ := ih (o.take k.toNat ++ [(o.length : Int)] ++ o.drop k.toNat) a1 m1 (by omega) (by omega) (by omega)
  exact ⟨o', a', m', e, by omega, by omega⟩
theorem dmEnd_ok {code : List Int} (hc : bytesOk code) (o : List Int) (a m : Int) (h0 : 0 ≤ a) (h1 : a ≤ 900000000) : ∃ o' a' m', dmEnd code o a m = some (o', a', m') ∧ o'.length = o.length := by
 unfold dmEnd
 by_cases c1 : 0 < (o.length : Int)
 ·rw [if_pos c1]
  obtain ⟨b, a1, m1, e1, ha1⟩ := one_ok hc a m 12 h0 (by omega)
  rw [e1, Option.bind_some]
  dsimp only
  cases b with
  | true =>
   rw [if_pos rfl]
   obtain ⟨z, a2, m2, e2, ha2, _⟩ := among_ok hc a1 m1 [-1, 0, wrap64 ((o.length : Int) - 1), (o.length : Int)] (by simp) (by omega) (by omega)
   rw [e2, Option.bind_some]
   exact ⟨_, _, _, rfl, by simp⟩
  | false =>
   rw [if_neg (by decide)]
   exact ⟨_, _, _, rfl, rfl⟩
 ·rw [if_neg c1]
  exact ⟨_, _, _, rfl, rfl⟩
theorem DrawMovePoints_ok {code : List Int} (hc : bytesOk code) : ∃ l mm o, spec_DrawMovePoints.f code = some (l, mm, o) ∧ (0 ≤ mm ∧ mm ≤ 8) ∧ l.length ≤ 31 ∧ (∀ y ∈ l, y.length ≤ 2) ∧ o.length ≤ 8 := by
 unfold spec_DrawMovePoints.f
 obtain ⟨l, mm, a1, m1, e1, ha1, hm, hl, hy⟩ := levelWires_ok hc 0 0 (by omega) (by omega)
 rw [e1, Option.bind_some]
 dsimp only
 rw [if_pos (by omega)]
 obtain ⟨o, a2, m2, e2, ha2, hl2⟩ := dmLoop_ok hc mm.toNat [] a1 m1 (by omega) (by omega) (by rw [List.length_nil]; omega)
 rw [e2, Option.bind_some]
 dsimp only
 obtain ⟨o', a3, m3, e3, hl3⟩ := dmEnd_ok hc o a2 m2 (by omega) (by omega)
 rw [e3, Option.bind_some]
 rw [List.length_nil] at hl2
 exact ⟨l, mm, o', rfl, hm, hl, hy, by omega⟩
theorem DrawLevelWires_ok {code : List Int} (hc : bytesOk code) : ∃ n gs os kk, spec_DrawLevelWires.f code = some (n, gs, os, kk) ∧ (-1 ≤ n ∧ n ≤ 5) ∧ gs.length ≤ 100 ∧ os.length ≤ 100 ∧ (-1 ≤ kk ∧ kk ≤ 3) := by
 unfold spec_DrawLevelWires.f
 obtain ⟨n, gs, os, a1, m1, e1, ha1, h2, h3, h4⟩ := anyCircuit_ok hc 0 0 (by omega) (by omega)
 rw [e1, Option.bind_some]
 dsimp only
 obtain ⟨z, a2, m2, e2, ha2, hz⟩ := among_ok hc a1 m1 [0, 0, 1, 1, 2, 3, (-1)] (by simp) (by omega) (by omega)
 rw [e2, Option.bind_some]
 simp only [List.mem_cons, List.not_mem_nil, or_false] at hz
 exact ⟨_, _, _, _, rfl, h2, h3, h4, by omega⟩
/-! #### levelWiresM -/
/-- A wire for m points. -/
def goodW (m : Int) : List Int → Bool
 | [a, b] => decide (0 ≤ a ∧ a ≤ 29 ∧ 0 ≤ b ∧ b < m)
 | _ => false
def levelWiresM (l : List (List Int)) (m : Int) : Bool := decide (1 ≤ m ∧ m ≤ 7 ∧ l.length ≤ 30) && l.all (goodW m)
theorem goodW_len {m : Int} {w : List Int} (h : w.length ≠ 2) : goodW m w = false := by
 match w, h with
 | [], _ => rfl
 | [_], _ => rfl
 | [_, _], h => simp at h
 | _ :: _ :: _ :: _, _ => rfl
theorem two_of {w : List Int} (h : w.length = 2) : ∃ a b, w = [a, b] := by
 match w, h with
 | [a, b], _ => exact ⟨a, b, rfl⟩
/-! #### rdII -/
theorem rdIIA {p r : List (List Int)} {x : List Int} {i : Int} (hi : i = p.length) : rd_L2 (p ++ x :: r) i = x := getDA hi
/-! #### crossM -/
def cross (x y : List Int) : Bool := decide ((rd x 0 - rd y 0) * (rd x 1 - rd y 1) < 0)
def isW (m : Int) (w : List Int) : Prop := ∃ a b, w = [a, b] ∧ 0 ≤ a ∧ a ≤ 29 ∧ 0 ≤ b ∧ b < m
theorem isW_of {m : Int} {w : List Int} (h : goodW m w = true) : isW m w := by
 match w, h with
 | [a, b], h =>
  have := of_decide_eq_true (show decide (0 ≤ a ∧ a ≤ 29 ∧ 0 ≤ b ∧ b < m) = true from h)
  exact ⟨a, b, rfl, this⟩
 | [], h => simp [goodW] at h
 | [_], h => simp [goodW] at h
 | _ :: _ :: _ :: _, h => simp [goodW] at h
theorem levelWiresM_of {l : List (List Int)} {m : Int} (h : levelWiresM l m = true) : 1 ≤ m ∧ m ≤ 7 ∧ l.length ≤ 30 ∧ ∀ w ∈ l, isW m w := by
 unfold levelWiresM at h
 rw [Bool.and_eq_true, List.all_eq_true] at h
 have := of_decide_eq_true h.1
 exact ⟨this.1, this.2.1, this.2.2, fun w hw => isW_of (h.2 w hw)⟩
theorem mul_small {a b : Int} (h1 : -30 ≤ a) (h2 : a ≤ 30) (h3 : -30 ≤ b) (h4 : b ≤ 30) : -900 ≤ a * b ∧ a * b ≤ 900 := by
 have e : ∀ x y : Int, 0 ≤ x → 0 ≤ y → 0 ≤ x * y := fun x y hx hy => Int.mul_nonneg hx hy
 have p1 := e (30 - a) (30 - b) (by omega) (by omega)
 have p2 := e (30 + a) (30 + b) (by omega) (by omega)
 have p3 := e (30 - a) (30 + b) (by omega) (by omega)
 have p4 := e (30 + a) (30 - b) (by omega) (by omega)
 simp only [Int.sub_mul, Int.mul_sub, Int.add_mul, Int.mul_add] at p1 p2 p3 p4
 generalize a * b = c at *
 omega
/-- How many of the pairs with one before cross. -/
def cntM : List (List Int) → List (List Int) → Nat
 | _, [] => 0
 | p, x :: r => p.countP (cross x) + cntM (p ++ [x]) r
/-! #### tabM -/
def hit (a b : List Int) (i k : Nat) : Bool := decide (rd a 1 = i ∧ rd b 1 = k ∧ rd a 1 ≠ rd b 1 ∧ rd a 0 > rd b 0)
def mkRow (m : Nat) (f : Nat → Nat) : List Int := (List.range m).map (fun k => ((f k : Nat) : Int))
def mkT (m : Nat) (T : Nat → Nat → Nat) : List (List Int) := (List.range m).map (fun i => mkRow m (T i))
theorem mkRow_length (m : Nat) (f : Nat → Nat) : (mkRow m f).length = m := by simp [mkRow]
theorem mkT_length (m : Nat) (T : Nat → Nat → Nat) : (mkT m T).length = m := by simp [mkT]
theorem mkRow_rd {m : Nat} {f : Nat → Nat} {k : Nat} (h : k < m) : rd (mkRow m f) (k : Int) = (f k : Nat) := by
 rw [rdN (by rw [mkRow_length]; exact h)]
 simp [mkRow]
theorem mkT_rd {m : Nat} {T : Nat → Nat → Nat} {i : Nat} (h : i < m) : rd_L2 (mkT m T) (i : Int) = mkRow m (T i) := by
 have e : rd_L2 (mkT m T) (i : Int) = (mkT m T)[i]'(by rw [mkT_length]; exact h) := getDN (by rw [mkT_length]; exact h)
 rw [e]
 simp [mkT]
theorem mkRow_set {m : Nat} {f : Nat → Nat} {k v : Nat} (h : k < m) : (mkRow m f).set k (v : Int) = mkRow m (fun j => if j = k then v else f j) := by
 apply List.ext_getElem
 ·simp [mkRow]
 ·intro n h1 h2
  rw [List.getElem_set]
  simp only [mkRow, List.getElem_map, List.getElem_range]
  by_cases e : n = k
  ·rw [if_pos e.symm, if_pos e]
  ·rw [if_neg (fun h => e h.symm), if_neg e]
theorem mkT_set {m : Nat} {T : Nat → Nat → Nat} {i : Nat} {g : Nat → Nat} (h : i < m) : (mkT m T).set i (mkRow m g) = mkT m (fun j => if j = i then g else T j) := by
 apply List.ext_getElem
 ·simp [mkT]
 ·intro n h1 h2
  rw [List.getElem_set]
  simp only [mkT, List.getElem_map, List.getElem_range]
  by_cases e : n = i
  ·rw [if_pos e.symm, if_pos e]
  ·rw [if_neg (fun h => e h.symm), if_neg e]
theorem mkT_congr {m : Nat} {T U : Nat → Nat → Nat} (h : ∀ i k, i < m → k < m → T i k = U i k) : mkT m T = mkT m U := by
 unfold mkT mkRow
 apply List.map_congr_left
 intro i hi
 apply List.map_congr_left
 intro k hk
 rw [h i k (by simpa using hi) (by simpa using hk)]
theorem mkRow_congr {m : Nat} {f g : Nat → Nat} (h : ∀ k, k < m → f k = g k) : mkRow m f = mkRow m g := by
 unfold mkRow
 apply List.map_congr_left
 intro k hk
 rw [h k (by simpa using hk)]
/-- How many pairs of a wire of i and one of k cross if i is to the left: by the wires of p, with those of l. -/
def tabP (l p : List (List Int)) (i k : Nat) : Nat := (p.map (fun a => l.countP (fun b => hit a b i k))).sum
def tabM (l : List (List Int)) (m : Nat) : List (List Int) := mkT m (tabP l l)
theorem tabP_le (l p : List (List Int)) (i k : Nat) : tabP l p i k ≤ p.length * l.length := by
 induction p with
 | nil => simp [tabP]
 | cons a p ih =>
  have h1 := List.countP_le_length (p := fun b => hit a b i k) (l := l)
  have h2 : tabP l (a :: p) i k = l.countP (fun b => hit a b i k) + tabP l p i k := rfl
  rw [h2, List.length_cons, Nat.add_mul, Nat.one_mul]
  omega
theorem tabP_snoc (l p : List (List Int)) (a : List Int) (i k : Nat) : tabP l (p ++ [a]) i k = tabP l p i k + l.countP (fun b => hit a b i k) := by
 simp [tabP]
/-! #### boundM -/
def innerB (T : Nat → Nat → Nat) (i k : Nat) : Nat → Nat
 | 0 => 0
 | d + 1 => min (T i k) (T k i) + innerB T i (k + 1) d
def outerB (T : Nat → Nat → Nat) (m i : Nat) : Nat → Nat
 | 0 => 0
 | d + 1 => innerB T i (i + 1) (m - (i + 1)) + outerB T m (i + 1) d
theorem innerB_le {T : Nat → Nat → Nat} (hT : ∀ i k, T i k ≤ 900) (i : Nat) (d : Nat) : ∀ k, innerB T i k d ≤ 900 * d := by
 induction d with
 | zero => intro k; simp [innerB]
 | succ d ih =>
  intro k
  have h1 := ih (k + 1)
  have h2 := hT i k
  have h3 : min (T i k) (T k i) ≤ T i k := Nat.min_le_left _ _
  unfold innerB
  omega
theorem tabP900 {l : List (List Int)} (hl : l.length ≤ 30) (i k : Nat) : tabP l l i k ≤ 900 := by
 have h1 := tabP_le l l i k
 have h2 : l.length * l.length ≤ 30 * 30 := Nat.mul_le_mul hl hl
 omega
/-! #### crossSum -/
def xo (a b : List Int) : Bool := decide (rd a 1 < rd b 1 ∧ rd a 0 > rd b 0)
def rowR (T : Nat → Nat → Nat) (i : Nat) : Nat → Nat → Nat
 | _, 0 => 0
 | k, d + 1 => (if i < k then T i k else 0) + rowR T i (k + 1) d
def triR (T : Nat → Nat → Nat) (m : Nat) : Nat → Nat → Nat
 | _, 0 => 0
 | i, d + 1 => rowR T i 0 m + triR T m (i + 1) d
theorem rowR_add (T U : Nat → Nat → Nat) (i d : Nat) : ∀ k, rowR (fun i k => T i k + U i k) i k d = rowR T i k d + rowR U i k d := by
 induction d with
 | zero => intro k; rfl
 | succ d ih =>
  intro k
  rw [rowR, rowR, rowR, ih]
  split <;> omega
theorem triR_add (T U : Nat → Nat → Nat) (m d : Nat) : ∀ i, triR (fun i k => T i k + U i k) m i d = triR T m i d + triR U m i d := by
 induction d with
 | zero => intro i; rfl
 | succ d ih =>
  intro i
  rw [triR, triR, triR, ih, rowR_add]
  omega
theorem rowR_zero (i d : Nat) : ∀ k, rowR (fun _ _ => 0) i k d = 0 := by
 induction d with
 | zero => intro k; rfl
 | succ d ih =>
  intro k
  rw [rowR, ih]
  split <;> rfl
theorem triR_zero (m d : Nat) : ∀ i, triR (fun _ _ => 0) m i d = 0 := by
 induction d with
 | zero => intro i; rfl
 | succ d ih => intro i; rw [triR, ih, rowR_zero]
theorem rowR_one (i0 k0 : Nat) (c : Prop) [Decidable c] (i d : Nat) : ∀ k, rowR (fun i k => if i = i0 ∧ k = k0 ∧ c then 1 else 0) i k d = if i = i0 ∧ k ≤ k0 ∧ k0 < k + d ∧ i < k0 ∧ c then 1 else 0 := by
 by_cases hc : c
 ·simp only [hc, and_true]
  induction d with
  | zero => intro k; rw [rowR, if_neg (by omega)]
  | succ d ih =>
   intro k
   rw [rowR, ih]
   split <;> (try split) <;> (try split) <;> (try split) <;> omega
 ·simp only [hc, and_false, if_false]
  exact rowR_zero i d
theorem triR_one (i0 k0 : Nat) (c : Prop) [Decidable c] (m d : Nat) : ∀ i, triR (fun i k => if i = i0 ∧ k = k0 ∧ c then 1 else 0) m i d = if i ≤ i0 ∧ i0 < i + d ∧ k0 < m ∧ i0 < k0 ∧ c then 1 else 0 := by
 induction d with
 | zero => intro i; rw [triR, if_neg (by omega)]
 | succ d ih =>
  intro i
  rw [triR, ih, rowR_one]
  by_cases hc : c
  ·simp only [hc, and_true]
   split <;> (try split) <;> (try split) <;> omega
  ·simp only [hc, and_false, if_false]
theorem hit_one {m : Nat} {a b : List Int} (ha : isW m a) (hb : isW m b) : triR (fun i k => if hit a b i k = true then 1 else 0) m 0 m = if xo a b = true then 1 else 0 := by
 obtain ⟨a0, a1, rfl, ha0, ha1, ha2, ha3⟩ := ha
 obtain ⟨b0, b1, rfl, hb0, hb1, hb2, hb3⟩ := hb
 obtain ⟨p, rfl⟩ := Int.eq_ofNat_of_zero_le ha2
 obtain ⟨q, rfl⟩ := Int.eq_ofNat_of_zero_le hb2
 have e : (fun i k : Nat => if hit [a0, (p : Int)] [b0, (q : Int)] i k = true then 1 else 0) = fun i k => if i = p ∧ k = q ∧ (p ≠ q ∧ a0 > b0) then 1 else 0 := by
  funext i k
  refine ite_congr (propext ?_) (fun _ => rfl) (fun _ => rfl)
  unfold hit
  rw [decide_eq_true_eq]
  show ((p : Int) = i ∧ (q : Int) = k ∧ (p : Int) ≠ q ∧ a0 > b0) ↔ _
  omega
 rw [e, triR_one]
 refine ite_congr (propext ?_) (fun _ => rfl) (fun _ => rfl)
 unfold xo
 rw [decide_eq_true_eq]
 show _ ↔ ((p : Int) < q ∧ a0 > b0)
 omega
theorem countP_if (f : List Int → Bool) (b : List Int) (l : List (List Int)) : (b :: l).countP f = (if f b = true then 1 else 0) + l.countP f := by
 rw [List.countP_cons]
 omega
theorem hit_row {m : Nat} {a : List Int} (ha : isW m a) (l : List (List Int)) (hl : ∀ w ∈ l, isW m w) : triR (fun i k => l.countP (fun b => hit a b i k)) m 0 m = l.countP (xo a) := by
 induction l with
 | nil => simp only [List.countP_nil]; exact triR_zero m m 0
 | cons b l ih =>
  simp only [countP_if]
  rw [triR_add, hit_one ha (hl b (by simp)), ih (fun w hw => hl w (by simp [hw]))]
theorem tabP_cons (l p : List (List Int)) (a : List Int) (i k : Nat) : tabP l (a :: p) i k = l.countP (fun b => hit a b i k) + tabP l p i k := by
 unfold tabP
 rw [List.map_cons, List.sum_cons]
def xs_ (l p : List (List Int)) : Nat := (p.map (fun a => l.countP (xo a))).sum
theorem tri_tab {m : Nat} (l : List (List Int)) (hl : ∀ w ∈ l, isW m w) (p : List (List Int)) (hp : ∀ w ∈ p, isW m w) : triR (tabP l p) m 0 m = xs_ l p := by
 induction p with
 | nil => exact triR_zero m m 0
 | cons a p ih =>
  have e : tabP l (a :: p) = fun i k => l.countP (fun b => hit a b i k) + tabP l p i k := by funext i k; exact tabP_cons l p a i k
  rw [e, triR_add, hit_row (hp a (by simp)) l hl]
  show _ + triR (tabP l p) m 0 m = _
  rw [ih (fun w hw => hp w (by simp [hw]))]
  unfold xs_
  rw [List.map_cons, List.sum_cons]
theorem mul_neg_iff_ (u v : Int) : u * v < 0 ↔ (u < 0 ∧ v > 0) ∨ (u > 0 ∧ v < 0) := by
 rcases Int.lt_trichotomy u 0 with hu | rfl | hu
 ·rcases Int.lt_trichotomy v 0 with hv | rfl | hv
  ·have := Int.mul_pos_of_neg_of_neg hu hv
   omega
  ·simp
  ·have := Int.mul_neg_of_neg_of_pos hu hv
   omega
 ·simp
 ·rcases Int.lt_trichotomy v 0 with hv | rfl | hv
  ·have := Int.mul_neg_of_pos_of_neg hu hv
   omega
  ·simp
  ·have := Int.mul_pos hu hv
   omega
theorem cross_xo (x a : List Int) : (if xo a x = true then 1 else 0) + (if xo x a = true then 1 else 0) = if cross x a = true then 1 else 0 := by
 unfold xo cross
 simp only [decide_eq_true_eq, mul_neg_iff_]
 split <;> split <;> split <;> omega
theorem cross_count (x : List Int) (p : List (List Int)) : p.countP (fun a => xo a x) + p.countP (xo x) = p.countP (cross x) := by
 induction p with
 | nil => rfl
 | cons a p ih =>
  rw [countP_if, countP_if, countP_if, ← cross_xo x a]
  omega
theorem xs_more (l p : List (List Int)) (x : List Int) : xs_ (l ++ [x]) p = xs_ l p + p.countP (fun a => xo a x) := by
 induction p with
 | nil => rfl
 | cons a p ih =>
  unfold xs_ at ih ⊢
  rw [List.map_cons, List.sum_cons, List.map_cons, List.sum_cons, ih, List.countP_append, countP_if, List.countP_cons, List.countP_nil]
  omega
theorem xs_snoc (p : List (List Int)) (x : List Int) : xs_ (p ++ [x]) (p ++ [x]) = xs_ p p + p.countP (cross x) := by
 have e : xs_ (p ++ [x]) (p ++ [x]) = xs_ (p ++ [x]) p + (p ++ [x]).countP (xo x) := by
  unfold xs_
  simp
 have h0 : xo x x = false := decide_eq_false (by omega)
 rw [e, xs_more, List.countP_append, List.countP_cons, List.countP_nil, h0, ← cross_count]
 simp
 omega
theorem xs_cnt (r : List (List Int)) : ∀ p : List (List Int), xs_ (p ++ r) (p ++ r) = xs_ p p + cntM p r := by
 induction r with
 | nil => intro p; rw [List.append_nil]; rfl
 | cons x r ih =>
  intro p
  have := ih (p ++ [x])
  rw [List.append_assoc, xs_snoc] at this
  rw [cntM, ← Nat.add_assoc]
  exact this
theorem tri_cnt {m : Nat} (l : List (List Int)) (hl : ∀ w ∈ l, isW m w) : triR (tabP l l) m 0 m = cntM [] l := by
 rw [tri_tab l hl l hl]
 have := xs_cnt l []
 rw [List.nil_append] at this
 rw [this]
 exact Nat.zero_add _
theorem tab_diag (l p : List (List Int)) (i : Nat) : tabP l p i i = 0 := by
 induction p with
 | nil => rfl
 | cons a p ih =>
  rw [tabP_cons, ih]
  have : l.countP (fun b => hit a b i i) = 0 := by
   rw [List.countP_eq_zero]
   intro b _
   unfold hit
   rw [decide_eq_true_eq]
   omega
  omega
theorem rowR_le {T : Nat → Nat → Nat} (hT : ∀ i k, T i k ≤ 900) (i d : Nat) : ∀ k, rowR T i k d ≤ 900 * d := by
 induction d with
 | zero => intro k; exact Nat.le_refl _
 | succ d ih =>
  intro k
  have h1 := ih (k + 1)
  have h2 := hT i k
  rw [rowR]
  split <;> omega
/-! #### sameL -/
theorem sameInts_l0 (l : List Int) (hl : l.length ≤ 9223372036854775806) (r : List Int) : ∀ (p : List Int) (i : Int), i = p.length → l = p ++ r → Ev (fun k => laws_sameInts.l0 k l l l.length i) true := by
 induction r with
 | nil =>
  intro p i hi e
  have hlen : l.length = p.length := by rw [e]; simp
  apply ev_up
  simp only [laws_sameInts.l0]
  exact ev_n (by omega) (Ev.now _)
 | cons x r ih =>
  intro p i hi e
  have hlen : l.length = p.length + r.length + 1 := by rw [e]; simp; omega
  have ih' := ih (p ++ [x]) (i + 1) (by simp; omega) (by rw [e]; simp)
  apply ev_up
  simp only [laws_sameInts.l0]
  refine ev_p (by omega) (ev_p (by omega) (ev_p (by omega) (ev_p (by omega) (ev_p (by trivial) ?_))))
  rw [w64 (n := i + 1) (by omega) (by omega)]
  exact ih'
theorem sameInts_self (l : List Int) (hl : l.length ≤ 9223372036854775806) : Ev (fun k => laws_sameInts.f k l l) true := by
 unfold laws_sameInts.f
 exact ev_p rfl (sameInts_l0 l hl l [] 0 rfl rfl)
theorem sameLists_l0 (l : List (List Int)) (hl : l.length ≤ 9223372036854775806) (hy : ∀ y ∈ l, y.length ≤ 9223372036854775806) (r : List (List Int)) : ∀ (p : List (List Int)) (i : Int), i = p.length → l = p ++ r → Ev (fun k => laws_sameLists.l0 k l l l.length i) true := by
 induction r with
 | nil =>
  intro p i hi e
  have hlen : l.length = p.length := by rw [e]; simp
  apply ev_up
  simp only [laws_sameLists.l0]
  exact ev_n (by omega) (Ev.now _)
 | cons x r ih =>
  intro p i hi e
  have hlen : l.length = p.length + r.length + 1 := by rw [e]; simp; omega
  have hx : rd_L2 l i = x := by rw [e]; exact getDA hi
  have ih' := ih (p ++ [x]) (i + 1) (by simp; omega) (by rw [e]; simp)
  apply ev_up
  simp only [laws_sameLists.l0]
  rw [hx, w64 (n := i + 1) (by omega) (by omega)]
  exact ev_p (by omega) (ev_p (by omega) (ev_p (by omega) (ev_p (by omega) (Ev.bind (sameInts_self x (hy x (by rw [e]; simp))) (ev_p rfl ih')))))
theorem sameLists_self (l : List (List Int)) (hl : l.length ≤ 9223372036854775806) (hy : ∀ y ∈ l, y.length ≤ 9223372036854775806) : Ev (fun k => laws_sameLists.f k l l) true := by
 unfold laws_sameLists.f
 exact ev_p rfl (sameLists_l0 l hl hy l [] 0 rfl rfl)
/-! #### impl_crossingTable -/
theorem impl_crossingTable_l2 (m : Nat) (hm : m ≤ 7) (l : List (List Int)) (hl : l.length ≤ 30) (a : List Int) (ha : isW m a) (xs : List (List Int)) (e j : Int) (res : List (List Int)) (r : List (List Int)) : ∀ (q : List (List Int)) (T : Nat → Nat → Nat) (i : Int), i = q.length → l = q ++ r → (∀ w ∈ r, isW m w) → (∀ i k, T i k + r.length ≤ 100000) →
  Ev (fun k => impl_crossingTable.l1 k l (mkT m (fun i k => T i k + r.countP (fun b => hit a b i k))) xs e (wrap64 (j + 1))) res → Ev (fun k => impl_crossingTable.l2 k l (mkT m T) a xs e j l l.length i) res := by
 induction r with
 | nil =>
  intro q T i hi el hw hT hk
  have hlen : l.length = q.length := by rw [el]; simp
  apply ev_up
  simp only [impl_crossingTable.l2]
  refine ev_n (by omega) ?_
  simpa using hk
 | cons b r ih =>
  intro q T i hi el hw hT hk
  have hlen : l.length = q.length + r.length + 1 := by rw [el]; simp; omega
  have hr : rd_L2 l i = b := by rw [el]; exact rdIIA hi
  simp only [List.length_cons] at hT
  obtain ⟨a0, a1, rfl, ha0, ha1, ha2, ha3⟩ := ha
  obtain ⟨b0, b1, rfl, hb0, hb1, hb2, hb3⟩ := hw b (by simp)
  obtain ⟨na, rfl⟩ := nat_of ha2
  obtain ⟨nb, rfl⟩ := nat_of hb2
  have ea0 : rd [a0, (na : Int)] 0 = a0 := rfl
  have ea1 : rd [a0, (na : Int)] 1 = na := rfl
  have eb0 : rd [b0, (nb : Int)] 0 = b0 := rfl
  have eb1 : rd [b0, (nb : Int)] 1 = nb := rfl
  have skip : (∀ i k, hit [a0, (na : Int)] [b0, (nb : Int)] i k = false) → Ev (fun k => impl_crossingTable.l2 k l (mkT m T) [a0, (na : Int)] xs e j l l.length (i + 1)) res := fun hf => by
   refine ih (q ++ [[b0, (nb : Int)]]) T (i + 1) (by simp; omega) (by rw [el]; simp) (fun w h => hw w (by simp [h])) (fun i k => by have := hT i k; omega) ?_
   simpa [hf] using hk
  apply ev_up
  simp only [impl_crossingTable.l2]
  refine ev_p (by omega) (ev_p (by omega) (ev_p (by omega) (ev_p (by simp) ?_)))
  rw [hr]
  refine ev_p (by simp) ?_
  rw [ea0, ea1, eb0, eb1, w64 (n := i + 1) (by omega) (by omega)]
  refine ev_ite (fun h1 => ?_) (fun h1 => ?_)
  ·exact skip (fun i k => decide_eq_false (fun hh => hh.2.2.1 (by rw [ea1, eb1]; exact h1)))
  ·refine ev_p (by simp) (ev_p (by simp) (ev_ite (fun h2 => ?_) (fun h2 => ?_)))
   ·have hna : na < m := by omega
    have hnb : nb < m := by omega
    refine ev_p (by omega) (ev_p (by rw [mkT_length]; omega) (ev_p (by omega) ?_))
    rw [mkT_rd hna]
    refine ev_p (by rw [mkRow_length]; omega) ?_
    rw [mkRow_rd hnb, wN (n := ((T na nb : Nat) : Int) + 1) (m := T na nb + 1) (by omega) (by have := hT na nb; omega), Int.toNat_natCast, Int.toNat_natCast, mkRow_set hnb, mkT_set hna]
    refine ih (q ++ [[b0, (nb : Int)]]) _ (i + 1) (by simp; omega) (by rw [el]; simp) (fun w h => hw w (by simp [h])) (fun i k => ?_) ?_
    ·have h3 := hT i k
     have h4 := hT na nb
     by_cases ei : i = na
     ·subst ei
      simp only [if_true]
      by_cases ek : k = nb
      ·rw [if_pos ek]; omega
      ·rw [if_neg ek]; omega
     ·simp only [if_neg ei]
      omega
    ·refine ev_eq (r := res) ?_ rfl
     have : mkT m (fun i k => (if i = na then fun j => if j = nb then T na nb + 1 else T na j else T i) k + r.countP (fun b => hit [a0, (na : Int)] b i k)) = mkT m (fun i k => T i k + ([b0, (nb : Int)] :: r).countP (fun b => hit [a0, (na : Int)] b i k)) := by
      apply mkT_congr
      intro i k _ _
      rw [List.countP_cons]
      have eh : hit [a0, (na : Int)] [b0, (nb : Int)] i k = decide (i = na ∧ k = nb) := by
       unfold hit
       rw [ea0, ea1, eb0, eb1]
       exact decide_eq_decide.2 ⟨fun h => ⟨by omega, by omega⟩, fun h => ⟨by omega, by omega, h1, h2⟩⟩
      rw [eh]
      by_cases ei : i = na
      ·subst ei
       simp only [if_true]
       by_cases ek : k = nb
       ·simp [ek]; omega
       ·simp [ek]
      ·simp [ei]
     rw [this]
     exact hk
   ·exact skip (fun i k => decide_eq_false (fun hh => h2 (by have := hh.2.2.2; rw [ea0, eb0] at this; exact this)))
theorem impl_crossingTable_l1 (m : Nat) (hm : m ≤ 7) (l : List (List Int)) (hl : l.length ≤ 30) (hw : ∀ w ∈ l, isW m w) (r : List (List Int)) : ∀ (p : List (List Int)) (i : Int), i = p.length → l = p ++ r →
  Ev (fun k => impl_crossingTable.l1 k l (mkT m (tabP l p)) l l.length i) (tabM l m) := by
 induction r with
 | nil =>
  intro p i hi e
  have hlen : l.length = p.length := by rw [e]; simp
  have hp : l = p := by rw [e]; simp
  apply ev_up
  simp only [impl_crossingTable.l1]
  rw [← hp]
  exact ev_n (by omega) (Ev.now _)
 | cons a r ih =>
  intro p i hi e
  have hlen : l.length = p.length + r.length + 1 := by rw [e]; simp; omega
  have hr : rd_L2 l i = a := by rw [e]; exact rdIIA hi
  apply ev_up
  simp only [impl_crossingTable.l1]
  refine ev_p (by omega) (ev_p (by omega) (ev_p (by omega) ?_))
  rw [hr]
  refine impl_crossingTable_l2 m hm l hl a (hw a (by rw [e]; simp)) l l.length i _ l [] (tabP l p) 0 rfl rfl hw (fun i k => ?_) ?_
  ·have h1 := tabP_le l p i k
   have h2 : p.length * l.length ≤ 30 * 30 := Nat.mul_le_mul (by omega) hl
   omega
  ·rw [w64 (n := i + 1) (by omega) (by omega)]
   have := ih (p ++ [a]) (i + 1) (by simp; omega) (by rw [e]; simp)
   have e2 : tabP l (p ++ [a]) = fun i k => tabP l p i k + l.countP (fun b => hit a b i k) := by
    funext i k
    exact tabP_snoc l p a i k
   rw [e2] at this
   exact this
theorem impl_crossingTable_l0 (m : Nat) (hm : m ≤ 7) (l : List (List Int)) (hl : l.length ≤ 30) (hw : ∀ w ∈ l, isW m w) (d : Nat) : ∀ (i : Nat), i + d = m →
  Ev (fun k => impl_crossingTable.l0 k l m (List.replicate i (List.replicate m 0) ++ List.replicate d []) m i) (tabM l m) := by
 induction d with
 | zero =>
  intro i hi
  apply ev_up
  simp only [impl_crossingTable.l0]
  refine ev_n (by omega) ?_
  have := impl_crossingTable_l1 m hm l hl hw l [] 0 rfl rfl
  have e : mkT m (tabP l []) = List.replicate i (List.replicate m 0) ++ List.replicate 0 [] := by
   have e1 : mkT m (tabP l []) = (List.range m).map (fun _ => (List.range m).map (fun _ => (0 : Int))) := rfl
   rw [e1, List.map_const', List.map_const', List.length_range, List.replicate_zero, List.append_nil, show i = m by omega]
  rw [← e]
  exact this
 | succ d ih =>
  intro i hi
  apply ev_up
  simp only [impl_crossingTable.l0]
  refine ev_p (by omega) (ev_p (by omega) (ev_p (by omega) (ev_p (by omega) (ev_p (by simp; omega) ?_))))
  rw [List.replicate_succ, setA (by simp), Int.toNat_natCast, wN (m := i + 1) (by omega) (by omega)]
  have := ih (i + 1) (by omega)
  rw [List.replicate_succ'] at this
  simpa using this
theorem impl_crossingTable_ev (m : Nat) (hm : m ≤ 7) (l : List (List Int)) (hl : l.length ≤ 30) (hw : ∀ w ∈ l, isW m w) : Ev (fun k => impl_crossingTable.f k l m) (tabM l m) := by
 unfold impl_crossingTable.f
 refine ev_p (by omega) (ev_p (by omega) (Ev.bind (ev_c rfl) ?_))
 rw [Int.toNat_natCast, List.length_replicate]
 exact impl_crossingTable_l0 m hm l hl hw m 0 (by omega)
/-! #### spec_plTable -/
theorem spec_plTable_l2 (m : Nat) (hm : m ≤ 7) (l : List (List Int)) (hl : l.length ≤ 30) (i : Nat) (hi : i < m) (acc : List (List Int)) (a : List Int) (ha : isW m a) (xs : List (List Int)) (e j : Int) (res : List (List Int)) (r : List (List Int)) : ∀ (q : List (List Int)) (f : Nat → Nat) (n : Int), n = q.length → l = q ++ r → (∀ w ∈ r, isW m w) → (∀ k, f k + r.length ≤ 100000) →
  Ev (fun k => spec_plTable.l1 k l m acc i (mkRow m (fun k => f k + r.countP (fun b => hit a b i k))) xs e (wrap64 (j + 1))) res → Ev (fun k => spec_plTable.l2 k l m acc i (mkRow m f) a xs e j l l.length n) res := by
 induction r with
 | nil =>
  intro q f n hn el hw hT hk
  have hlen : l.length = q.length := by rw [el]; simp
  apply ev_up
  simp only [spec_plTable.l2]
  refine ev_n (by omega) ?_
  simpa using hk
 | cons b r ih =>
  intro q f n hn el hw hT hk
  have hlen : l.length = q.length + r.length + 1 := by rw [el]; simp; omega
  have hr : rd_L2 l n = b := by rw [el]; exact rdIIA hn
  simp only [List.length_cons] at hT
  obtain ⟨a0, a1, rfl, ha0, ha1, ha2, ha3⟩ := ha
  obtain ⟨b0, b1, rfl, hb0, hb1, hb2, hb3⟩ := hw b (by simp)
  obtain ⟨na, rfl⟩ := nat_of ha2
  obtain ⟨nb, rfl⟩ := nat_of hb2
  have ea0 : rd [a0, (na : Int)] 0 = a0 := rfl
  have ea1 : rd [a0, (na : Int)] 1 = na := rfl
  have eb0 : rd [b0, (nb : Int)] 0 = b0 := rfl
  have eb1 : rd [b0, (nb : Int)] 1 = nb := rfl
  have skip : (∀ k, hit [a0, (na : Int)] [b0, (nb : Int)] i k = false) → Ev (fun k => spec_plTable.l2 k l m acc i (mkRow m f) [a0, (na : Int)] xs e j l l.length (n + 1)) res := fun hf => by
   refine ih (q ++ [[b0, (nb : Int)]]) f (n + 1) (by simp; omega) (by rw [el]; simp) (fun w h => hw w (by simp [h])) (fun k => by have := hT k; omega) ?_
   simpa [hf] using hk
  apply ev_up
  simp only [spec_plTable.l2]
  refine ev_p (by omega) (ev_p (by omega) (ev_p (by omega) (ev_p (by simp) ?_)))
  rw [hr, ea0, ea1, eb0, eb1, w64 (n := n + 1) (by omega) (by omega)]
  refine ev_ite (fun h0 => ev_p (by simp) (ev_ite (fun h1 => ?_) (fun h1 => ?_))) (fun h0 => ?_)
  ·exact skip (fun k => decide_eq_false (fun hh => hh.2.2.1 (by rw [ea1, eb1]; omega)))
  ·refine ev_p (by simp) (ev_p (by simp) (ev_ite (fun h2 => ?_) (fun h2 => ?_)))
   ·have hnb : nb < m := by omega
    refine ev_p (by omega) (ev_p (by rw [mkRow_length]; omega) ?_)
    rw [mkRow_rd hnb, wN (n := ((f nb : Nat) : Int) + 1) (m := f nb + 1) (by omega) (by have := hT nb; omega), Int.toNat_natCast, mkRow_set hnb]
    refine ih (q ++ [[b0, (nb : Int)]]) _ (n + 1) (by simp; omega) (by rw [el]; simp) (fun w h => hw w (by simp [h])) (fun k => ?_) ?_
    ·have h3 := hT k
     have h4 := hT nb
     by_cases ek : k = nb
     ·simp only [if_pos ek]; omega
     ·simp only [if_neg ek]; omega
    ·have : mkRow m (fun k => (if k = nb then f nb + 1 else f k) + r.countP (fun b => hit [a0, (na : Int)] b i k)) = mkRow m (fun k => f k + ([b0, (nb : Int)] :: r).countP (fun b => hit [a0, (na : Int)] b i k)) := by
      apply mkRow_congr
      intro k _
      rw [List.countP_cons]
      have eh : hit [a0, (na : Int)] [b0, (nb : Int)] i k = decide (k = nb) := by
       unfold hit
       rw [ea0, ea1, eb0, eb1]
       exact decide_eq_decide.2 ⟨fun h => by omega, fun h => ⟨by omega, by omega, by omega, h2⟩⟩
      rw [eh]
      by_cases ek : k = nb
      ·simp [ek]; omega
      ·simp [ek]
     rw [this]
     exact hk
   ·exact skip (fun k => decide_eq_false (fun hh => h2 (by have := hh.2.2.2; rw [ea0, eb0] at this; exact this)))
  ·exact skip (fun k => decide_eq_false (fun hh => h0 (by rw [ea1] at hh; exact hh.1)))
theorem spec_plTable_l1 (m : Nat) (hm : m ≤ 7) (l : List (List Int)) (hl : l.length ≤ 30) (hw : ∀ w ∈ l, isW m w) (i : Nat) (hi : i < m) (acc : List (List Int)) (hacc : acc.length ≤ 7) (res : List (List Int)) (r : List (List Int)) : ∀ (p : List (List Int)) (n : Int), n = p.length → l = p ++ r →
  Ev (fun k => spec_plTable.l0 k l m (acc ++ [mkRow m (tabP l l i)]) (wrap64 ((i : Int) + 1))) res → Ev (fun k => spec_plTable.l1 k l m acc i (mkRow m (tabP l p i)) l l.length n) res := by
 induction r with
 | nil =>
  intro p n hn e hk
  have hlen : l.length = p.length := by rw [e]; simp
  have hp : l = p := by rw [e]; simp
  apply ev_up
  simp only [spec_plTable.l1]
  rw [← hp]
  exact ev_n (by omega) (ev_p (by omega) hk)
 | cons a r ih =>
  intro p n hn e hk
  have hlen : l.length = p.length + r.length + 1 := by rw [e]; simp; omega
  have hr : rd_L2 l n = a := by rw [e]; exact rdIIA hn
  apply ev_up
  simp only [spec_plTable.l1]
  refine ev_p (by omega) (ev_p (by omega) (ev_p (by omega) ?_))
  rw [hr]
  refine spec_plTable_l2 m hm l hl i hi acc a (hw a (by rw [e]; simp)) l l.length n _ l [] (tabP l p i) 0 rfl rfl hw (fun k => ?_) ?_
  ·have h1 := tabP_le l p i k
   have h2 : p.length * l.length ≤ 30 * 30 := Nat.mul_le_mul (by omega) hl
   omega
  ·rw [w64 (n := n + 1) (by omega) (by omega)]
   have := ih (p ++ [a]) (n + 1) (by simp; omega) (by rw [e]; simp) hk
   have e2 : tabP l (p ++ [a]) i = fun k => tabP l p i k + l.countP (fun b => hit a b i k) := by
    funext k
    exact tabP_snoc l p a i k
   rw [e2] at this
   exact this
theorem spec_plTable_l0 (m : Nat) (hm : m ≤ 7) (l : List (List Int)) (hl : l.length ≤ 30) (hw : ∀ w ∈ l, isW m w) (d : Nat) : ∀ (i : Nat), i + d = m →
  Ev (fun k => spec_plTable.l0 k l m ((List.range i).map (fun i => mkRow m (tabP l l i))) i) (tabM l m) := by
 induction d with
 | zero =>
  intro i hi
  apply ev_up
  simp only [spec_plTable.l0]
  have e : i = m := by omega
  subst e
  exact ev_n (by omega) (Ev.now _)
 | succ d ih =>
  intro i hi
  apply ev_up
  simp only [spec_plTable.l0]
  refine ev_p (by omega) (ev_p (by omega) (ev_p (by omega) ?_))
  have e0 : List.replicate ((m : Int)).toNat (0 : Int) = mkRow m (tabP l [] i) := by
   have e1 : mkRow m (tabP l [] i) = (List.range m).map (fun _ => (0 : Int)) := rfl
   rw [e1, List.map_const', List.length_range, Int.toNat_natCast]
  rw [e0]
  refine spec_plTable_l1 m hm l hl hw i (by omega) _ (by simp; omega) _ l [] 0 rfl rfl ?_
  rw [wN (n := (i : Int) + 1) (m := i + 1) (by omega) (by omega)]
  have := ih (i + 1) (by omega)
  rw [List.range_succ, List.map_append] at this
  exact this
theorem spec_plTable_ev (m : Nat) (hm : m ≤ 7) (l : List (List Int)) (hl : l.length ≤ 30) (hw : ∀ w ∈ l, isW m w) : Ev (fun k => spec_plTable.f k l m) (tabM l m) := by
 unfold spec_plTable.f
 exact spec_plTable_l0 m hm l hl hw m 0 (by omega)
/-! #### l1In -/
theorem l1In_eq (a b c : Int) : spec_l1In.f a b c = some (decide (b ≤ a ∧ a ≤ c)) := by
 unfold spec_l1In.f
 by_cases h : b ≤ a
 ·rw [if_pos h]; simp [h]
 ·rw [if_neg h]; simp [h]
/-! #### spec_plWires -/
theorem spec_plWires_l0 (l : List (List Int)) (m : Int) (hm : I64 m) (hl : l.length ≤ 9223372036854775807) (r : List (List Int)) : ∀ (p : List (List Int)) (i : Int), i = p.length → l = p ++ r →
  Ev (fun k => spec_plWires.l0 k l m l l.length i) (decide (1 ≤ m ∧ m ≤ 7 ∧ l.length ≤ 30) && r.all (goodW m)) := by
 unfold I64 at hm
 induction r with
 | nil =>
  intro p i hi e
  have hlen : l.length = p.length := by rw [e]; simp
  apply ev_up
  simp only [spec_plWires.l0]
  refine ev_n (by omega) ?_
  refine ev_ite (fun h => ?_) (fun h => ?_)
  ·rw [l1In_eq]
   refine Ev.bind (ev_c rfl) ?_
   refine ev_eq (Ev.now _) ?_
   rw [List.all_nil, Bool.and_true]
   exact decide_eq_decide.2 ⟨fun hh => ⟨hh.1, hh.2, by omega⟩, fun hh => ⟨hh.1, hh.2.1⟩⟩
  ·refine ev_eq (Ev.now _) ?_
   rw [List.all_nil, Bool.and_true]
   exact (decide_eq_false (fun hh => h (by omega))).symm
 | cons x r ih =>
  intro p i hi e
  have hlen : l.length = p.length + r.length + 1 := by rw [e]; simp; omega
  have hx : rd_L2 l i = x := by rw [e]; exact rdIIA hi
  have ih' := ih (p ++ [x]) (i + 1) (by simp; omega) (by rw [e]; simp)
  apply ev_up
  simp only [spec_plWires.l0]
  refine ev_p (by omega) (ev_p (by omega) (ev_p (by omega) ?_))
  rw [hx]
  refine ev_ite (fun h2 => ?_) (fun h2 => ?_)
  ·obtain ⟨a, b, rfl⟩ := two_of (w := x) (by omega)
   refine ev_p (by simp) ?_
   rw [l1In_eq]
   refine Ev.bind (ev_c rfl) ?_
   have e0 : rd [a, b] 0 = a := rfl
   have e1 : rd [a, b] 1 = b := rfl
   rw [e0, e1]
   refine ev_ite (fun ha => ?_) (fun ha => ?_)
   ·have ha' := of_decide_eq_true ha
    refine ev_p (by simp) ?_
    rw [l1In_eq]
    refine Ev.bind (ev_c rfl) ?_
    refine ev_ite (fun hb => ?_) (fun hb => ?_)
    ·have hb' := of_decide_eq_true hb
     rw [w64 (by omega) (by omega)]
     refine ev_eq ih' ?_
     by_cases h1 : 1 ≤ m
     ·rw [w64 (by omega) (by omega)] at hb'
      have : goodW m [a, b] = true := by simp [goodW]; omega
      simp [this]
     ·have : decide (1 ≤ m ∧ m ≤ 7 ∧ l.length ≤ 30) = false := decide_eq_false (fun h => h1 h.1)
      simp [this]
    ·refine ev_eq (Ev.now _) ?_
     by_cases h1 : 1 ≤ m
     ·rw [w64 (by omega) (by omega)] at hb
      have : goodW m [a, b] = false := by
       simp only [goodW]
       exact decide_eq_false (fun h => hb (decide_eq_true (by omega)))
      simp [this]
     ·have : decide (1 ≤ m ∧ m ≤ 7 ∧ l.length ≤ 30) = false := decide_eq_false (fun h => h1 h.1)
      simp [this]
   ·refine ev_eq (Ev.now _) ?_
    have : goodW m [a, b] = false := by
     simp only [goodW]
     exact decide_eq_false (fun h => ha (decide_eq_true (by omega)))
    simp [this]
  ·refine ev_eq (Ev.now _) ?_
   have : goodW m x = false := goodW_len (by omega)
   simp [this]
theorem spec_plWires_ev (l : List (List Int)) (m : Int) (hm : I64 m) (hl : l.length ≤ 9223372036854775807) : Ev (fun k => spec_plWires.f k l m) (levelWiresM l m) := by
 unfold spec_plWires.f levelWiresM
 exact spec_plWires_l0 l m hm hl l [] 0 rfl rfl
/-! #### impl_AreLevelWires -/
theorem impl_AreLevelWires_l0 (l : List (List Int)) (m : Int) (hl : l.length ≤ 9223372036854775807) (r : List (List Int)) : ∀ (p : List (List Int)) (i : Int), i = p.length → l = p ++ r →
  Ev (fun k => impl_AreLevelWires.l0 k m l l.length i) (r.all (goodW m)) := by
 induction r with
 | nil =>
  intro p i hi e
  have hlen : l.length = p.length := by rw [e]; simp
  apply ev_up
  simp only [impl_AreLevelWires.l0]
  exact ev_n (by omega) (Ev.now _)
 | cons x r ih =>
  intro p i hi e
  have hlen : l.length = p.length + r.length + 1 := by rw [e]; simp; omega
  have hx : rd_L2 l i = x := by rw [e]; exact rdIIA hi
  have ih' := ih (p ++ [x]) (i + 1) (by simp; omega) (by rw [e]; simp)
  apply ev_up
  simp only [impl_AreLevelWires.l0]
  refine ev_p (by omega) (ev_p (by omega) (ev_p (by omega) ?_))
  rw [hx]
  refine ev_ite (fun h2 => ?_) (fun h2 => ?_)
  ·obtain ⟨a, b, rfl⟩ := two_of (w := x) (by omega)
   have e0 : rd [a, b] 0 = a := rfl
   have e1 : rd [a, b] 1 = b := rfl
   rw [e0, e1]
   refine ev_p (by simp) ?_
   by_cases hg : goodW m [a, b] = true
   ·have hg' := hg
    simp only [goodW, decide_eq_true_eq] at hg'
    refine ev_n (by omega) (ev_n (by omega) (ev_p (by simp) (ev_n (by omega) (ev_n (by omega) ?_))))
    rw [w64 (by omega) (by omega)]
    refine ev_eq ih' ?_
    simp [hg]
   ·have hf : goodW m [a, b] = false := by simpa using hg
    have er : false = (([a, b] :: r).all (goodW m)) := by simp [hf]
    rw [← er]
    refine ev_ite (fun _ => Ev.now _) (fun c1 => ev_ite (fun _ => Ev.now _) (fun c2 => ev_p (by simp) (ev_ite (fun _ => Ev.now _) (fun c3 => ev_ite (fun _ => Ev.now _) (fun c4 => ?_)))))
    exact absurd (by simp only [goodW]; exact decide_eq_true (by omega)) hg
  ·refine ev_eq (Ev.now _) ?_
   have : goodW m x = false := goodW_len (by omega)
   simp [this]
theorem impl_AreLevelWires_ev (l : List (List Int)) (m : Int) (hl : l.length ≤ 9223372036854775807) : Ev (fun k => impl_AreLevelWires.f k l m) (levelWiresM l m) := by
 have h0 := impl_AreLevelWires_l0 l m hl l [] 0 rfl rfl
 unfold impl_AreLevelWires.f levelWiresM
 refine ev_ite (fun h1 => ?_) (fun h1 => ev_ite (fun h2 => ?_) (fun h2 => ?_))
 ·apply ev_up
  simp only [impl_AreLevelWires.j0]
  refine ev_p (by simp) (ev_eq (Ev.now _) ?_)
  rw [decide_eq_false (by omega), Bool.false_and]
 ·apply ev_up
  simp only [impl_AreLevelWires.j0]
  refine ev_p (by simp) (ev_eq (Ev.now _) ?_)
  rw [decide_eq_false (by omega), Bool.false_and]
 ·apply ev_up
  simp only [impl_AreLevelWires.j0]
  refine ev_ite (fun h3 => ?_) (fun h3 => ?_)
  ·have h3' := of_decide_eq_true h3
   refine ev_eq (Ev.now _) ?_
   rw [decide_eq_false (by omega), Bool.false_and]
  ·have h3' : ¬ (l.length : Int) > 30 := fun h => h3 (decide_eq_true h)
   refine ev_eq h0 ?_
   rw [decide_eq_true (by omega), Bool.true_and]
/-! #### levelNat -/
theorem levelWires_nat {l : List (List Int)} {m : Int} (h : levelWiresM l m = true) : ∃ n : Nat, m = n ∧ 1 ≤ n ∧ n ≤ 7 ∧ l.length ≤ 30 ∧ ∀ w ∈ l, isW n w := by
 obtain ⟨h1, h2, h3, h4⟩ := levelWiresM_of h
 obtain ⟨n, rfl⟩ := nat_of (show 0 ≤ m by omega)
 exact ⟨n, rfl, by omega, by omega, h3, h4⟩
/-! #### crossingTable -/
def crossingTableM (l : List (List Int)) (m : Int) : List (List Int) × Bool := if levelWiresM l m = true then (tabM l m.toNat, true) else ([], false)
theorem crossingTableM_length (l : List (List Int)) (m : Int) : (crossingTableM l m).1.length ≤ 7 ∧ ∀ y ∈ (crossingTableM l m).1, y.length ≤ 7 := by
 unfold crossingTableM
 split
 ·rename_i h
  obtain ⟨n, rfl, h1, h7, _⟩ := levelWires_nat h
  rw [Int.toNat_natCast]
  unfold tabM
  refine ⟨by rw [mkT_length]; exact h7, fun y hy => ?_⟩
  unfold mkT at hy
  obtain ⟨i, _, rfl⟩ := List.mem_map.1 hy
  simp [mkRow]
  exact h7
 ·simp
theorem spec_CrossingTable_ev (l : List (List Int)) (m : Int) (hm : I64 m) (hl : l.length ≤ 9223372036854775807) : Ev (fun k => spec_CrossingTable.f k l m) (crossingTableM l m) := by
 unfold spec_CrossingTable.f crossingTableM
 refine Ev.bind (spec_plWires_ev l m hm hl) (ev_ite (fun h => ?_) (fun h => ?_))
 ·rw [if_pos h]
  obtain ⟨n, rfl, h1, h7, h30, hw⟩ := levelWires_nat h
  rw [Int.toNat_natCast]
  exact Ev.bind (spec_plTable_ev n h7 l h30 hw) (Ev.now _)
 ·rw [if_neg h]
  exact Ev.now _
theorem impl_CrossingTable_ev (l : List (List Int)) (m : Int) (hl : l.length ≤ 9223372036854775807) : Ev (fun k => impl_CrossingTable.f k l m) (crossingTableM l m) := by
 unfold impl_CrossingTable.f crossingTableM
 refine Ev.bind (impl_AreLevelWires_ev l m hl) (ev_ite (fun h => ?_) (fun h => ?_))
 ·rw [if_pos h]
  obtain ⟨n, rfl, h1, h7, h30, hw⟩ := levelWires_nat h
  rw [Int.toNat_natCast]
  exact Ev.bind (impl_crossingTable_ev n h7 l h30 hw) (Ev.now _)
 ·rw [if_neg h]
  exact Ev.now _
/-! #### spec_plCount -/
theorem spec_plCount_l1 (l : List (List Int)) (m : Int) (hm : m ≤ 7) (hl : l.length ≤ 30) (x : List Int) (hx : isW m x) (j : Int) (ys : List (List Int)) (res : Int) (r : List (List Int)) : ∀ (p : List (List Int)) (n i : Int), i = p.length → ys = p ++ r → ys.length ≤ 30 → (∀ w ∈ r, isW m w) → 0 ≤ n → n + r.length ≤ 100000 →
  (Ev (fun k => spec_plCount.l0 k l (n + (r.countP (cross x) : Nat)) l l.length (wrap64 (j + 1))) res) → Ev (fun k => spec_plCount.l1 k l n x l l.length j ys ys.length i) res := by
 induction r with
 | nil =>
  intro p n i hi e hy hw h0 hn hk
  have hlen : ys.length = p.length := by rw [e]; simp
  apply ev_up
  simp only [spec_plCount.l1]
  refine ev_n (by omega) ?_
  simpa using hk
 | cons y r ih =>
  intro p n i hi e hy hw h0 hn hk
  have hlen : ys.length = p.length + r.length + 1 := by rw [e]; simp; omega
  simp only [List.length_cons] at hn
  have hr : rd_L2 ys i = y := by rw [e]; exact rdIIA hi
  obtain ⟨a, b, rfl, ha⟩ := hx
  obtain ⟨c, d, rfl, hc⟩ := hw y (by simp)
  have hb := mul_small (a := a - c) (b := b - d) (by omega) (by omega) (by omega) (by omega)
  apply ev_up
  simp only [spec_plCount.l1]
  refine ev_p (by omega) (ev_p (by omega) (ev_p (by omega) (ev_p (by simp) ?_)))
  rw [hr]
  refine ev_p (by simp) (ev_p (by simp) (ev_p (by simp) ?_))
  have e0 : rd [a, b] 0 = a := rfl
  have e1 : rd [a, b] 1 = b := rfl
  have e2 : rd [c, d] 0 = c := rfl
  have e3 : rd [c, d] 1 = d := rfl
  rw [e0, e1, e2, e3, w64 (n := a - c) (by omega) (by omega), w64 (n := b - d) (by omega) (by omega), w64 (n := (a - c) * (b - d)) (by omega) (by omega), w64 (n := i + 1) (by omega) (by omega), w64 (n := n + 1) (by omega) (by omega)]
  refine ev_ite (fun h => ?_) (fun h => ?_)
  ·have hcr : cross [a, b] [c, d] = true := decide_eq_true h
   refine ih (p ++ [[c, d]]) (n + 1) (i + 1) (by simp; omega) (by rw [e]; simp) hy (fun w hw' => hw w (by simp [hw'])) (by omega) (by omega) ?_
   rw [List.countP_cons, hcr] at hk
   have e9 : n + 1 + ((r.countP (cross [a, b]) : Nat) : Int) = n + ((r.countP (cross [a, b]) + 1 : Nat) : Int) := by omega
   rw [e9]
   simpa using hk
  ·have hcr : cross [a, b] [c, d] = false := decide_eq_false h
   refine ih (p ++ [[c, d]]) n (i + 1) (by simp; omega) (by rw [e]; simp) hy (fun w hw' => hw w (by simp [hw'])) (by omega) (by omega) ?_
   rw [List.countP_cons, hcr] at hk
   simpa using hk
theorem spec_plCount_l0 (l : List (List Int)) (m : Int) (hm : m ≤ 7) (hl : l.length ≤ 30) (hw : ∀ w ∈ l, isW m w) (r : List (List Int)) : ∀ (p : List (List Int)) (n i : Int), i = p.length → l = p ++ r → 0 ≤ n → n ≤ 30 * p.length →
  Ev (fun k => spec_plCount.l0 k l n l l.length i) (n + (cntM p r : Nat)) := by
 induction r with
 | nil =>
  intro p n i hi e h0 hn
  have hlen : l.length = p.length := by rw [e]; simp
  apply ev_up
  simp only [spec_plCount.l0]
  refine ev_n (by omega) ?_
  simpa [cntM] using Ev.now n
 | cons x r ih =>
  intro p n i hi e h0 hn
  have hlen : l.length = p.length + r.length + 1 := by rw [e]; simp; omega
  have hr : rd_L2 l i = x := by rw [e]; exact rdIIA hi
  have htk : l.take i.toNat = p := by rw [e, hi]; simp
  have hc := List.countP_le_length (p := cross x) (l := p)
  apply ev_up
  simp only [spec_plCount.l0]
  refine ev_p (by omega) (ev_p (by omega) (ev_p (by omega) (ev_p (by omega) (Ev.bind (ev_c rfl) ?_))))
  rw [hr, htk]
  refine spec_plCount_l1 l m hm hl x (hw x (by rw [e]; simp)) i p _ p [] n 0 rfl rfl (by omega) (fun w hw' => hw w (by rw [e]; simp [hw'])) h0 (by omega) ?_
  rw [w64 (n := i + 1) (by omega) (by omega)]
  refine ev_eq (ih (p ++ [x]) _ (i + 1) (by simp; omega) (by rw [e]; simp) (by omega) (by simp; omega)) ?_
  simp only [cntM]
  omega
theorem spec_plCount_ev (l : List (List Int)) (m : Int) (hm : m ≤ 7) (hl : l.length ≤ 30) (hw : ∀ w ∈ l, isW m w) : Ev (fun k => spec_plCount.f k l) ((cntM [] l : Nat) : Int) := by
 unfold spec_plCount.f
 exact ev_eq (spec_plCount_l0 l m hm hl hw l [] 0 0 rfl rfl (by omega) (by simp)) (by omega)
/-! #### impl_CountCrossings -/
theorem impl_CountCrossings_l (k : Nat) : (∀ l n xs e i, impl_CountCrossings.l0 k l n xs e i = (spec_plCount.l0 k l n xs e i).map (fun c => (c, true))) ∧ (∀ l n x xs e i ys f j, impl_CountCrossings.l1 k l n x xs e i ys f j = (spec_plCount.l1 k l n x xs e i ys f j).map (fun c => (c, true))) := by
 induction k with
 | zero => exact ⟨fun _ _ _ _ _ => rfl, fun _ _ _ _ _ _ _ _ _ => rfl⟩
 | succ k ih =>
  constructor
  ·intro l n xs e i
   simp only [impl_CountCrossings.l0, spec_plCount.l0, ih.2, Option.bind_some]
   (repeat' split) <;> rfl
  ·intro l n x xs e i ys f j
   simp only [impl_CountCrossings.l1, spec_plCount.l1, ih.1, ih.2]
   (repeat' split) <;> rfl
def countM (l : List (List Int)) (m : Int) : Int × Bool := if levelWiresM l m = true then ((cntM [] l : Nat), true) else (0, false)
theorem ev_map {α β : Type} {g : Nat → Option α} {r : α} (f : α → β) (h : Ev g r) : Ev (fun k => (g k).map f) (f r) := by
 obtain ⟨K, hK⟩ := h
 exact ⟨K, fun k hk => by simp [hK k hk]⟩
theorem impl_CountCrossings_ev (l : List (List Int)) (m : Int) (hl : l.length ≤ 9223372036854775807) : Ev (fun k => impl_CountCrossings.f k l m) (countM l m) := by
 unfold impl_CountCrossings.f countM
 refine Ev.bind (impl_AreLevelWires_ev l m hl) (ev_ite (fun h => ?_) (fun h => ?_))
 ·rw [if_pos h]
  obtain ⟨_, h7, h30, hw⟩ := levelWiresM_of h
  simp only [(impl_CountCrossings_l _).1]
  have := spec_plCount_ev l m h7 h30 hw
  unfold spec_plCount.f at this
  exact ev_map _ this
 ·rw [if_neg h]
  exact Ev.now _
/-! #### spec_CountCrossings -/
theorem spec_CountCrossings_ev (l : List (List Int)) (m : Int) (hm : I64 m) (hl : l.length ≤ 9223372036854775807) : Ev (fun k => spec_CountCrossings.f k l m) (countM l m) := by
 unfold spec_CountCrossings.f countM
 refine Ev.bind (spec_plWires_ev l m hm hl) (ev_ite (fun h => ?_) (fun h => ?_))
 ·rw [if_pos h]
  obtain ⟨_, h7, h30, hw⟩ := levelWiresM_of h
  exact Ev.bind (spec_plCount_ev l m h7 h30 hw) (Ev.now _)
 ·rw [if_neg h]
  exact Ev.now _
/-! #### orderM -/
/-- The rest's numbers are below m, and none stands ahead of itself. -/
def okO (m : Nat) : List Int → List Int → Bool
 | _, [] => true
 | p, x :: r => decide (0 ≤ x ∧ x < m ∧ ¬ x ∈ p) && okO m (p ++ [x]) r
theorem spec_l1Has_l0 (v : Int) (l : List Int) (hl : l.length ≤ 1048576) (r : List Int) : ∀ (p : List Int) (i : Int), i = p.length → l = p ++ r →
  Ev (fun k => spec_l1Has.l0 k v l l.length i) (decide (v ∈ r)) := by
 induction r with
 | nil =>
  intro p i hi e
  have hlen : l.length = p.length := by rw [e]; simp
  apply ev_up
  simp only [spec_l1Has.l0]
  exact ev_n (by omega) (ev_eq (Ev.now _) (by simp))
 | cons x r ih =>
  intro p i hi e
  have hlen : l.length = p.length + r.length + 1 := by rw [e]; simp; omega
  have hx : rd l i = x := by rw [e]; exact rdA hi
  apply ev_up
  simp only [spec_l1Has.l0]
  refine ev_p (by omega) (ev_p (by omega) (ev_p (by omega) ?_))
  rw [hx, w64 (n := i + 1) (by omega) (by omega)]
  refine ev_ite (fun c => ?_) (fun c => ?_)
  ·rw [decide_eq_true (show v ∈ x :: r by simp [c])]
   exact Ev.now _
  ·refine ev_eq (ih (p ++ [x]) (i + 1) (by simp; omega) (by rw [e]; simp)) ?_
   refine decide_eq_decide.2 ?_
   simp [show ¬ v = x from fun h => c h.symm]
theorem spec_l1Has_ev (v : Int) (l : List Int) (hl : l.length ≤ 1048576) : Ev (fun k => spec_l1Has.f k l v) (decide (v ∈ l)) := by
 unfold spec_l1Has.f
 exact spec_l1Has_l0 v l hl l [] 0 rfl rfl
theorem spec_ddOrder_l0 (m : Nat) (hm : m ≤ 7) (o : List Int) (ho : o.length ≤ 1048576) (r : List Int) : ∀ (p : List Int) (i : Int), i = p.length → o = p ++ r →
  Ev (fun k => spec_ddOrder.l0 k o m o o.length i) (okO m p r && decide (o.length = m)) := by
 induction r with
 | nil =>
  intro p i hi e
  have hlen : o.length = p.length := by rw [e]; simp
  apply ev_up
  simp only [spec_ddOrder.l0]
  refine ev_n (by omega) (ev_eq (Ev.now _) ?_)
  rw [okO, Bool.true_and, Bool.eq_iff_iff, beq_iff_eq, decide_eq_true_eq]
  omega
 | cons x r ih =>
  intro p i hi e
  have hlen : o.length = p.length + r.length + 1 := by rw [e]; simp; omega
  have hx : rd o i = x := by rw [e]; exact rdA hi
  have ht : o.take (i : Int).toNat = p := by rw [e, hi, Int.toNat_natCast]; simp
  apply ev_up
  simp only [spec_ddOrder.l0]
  refine ev_p (by omega) (ev_p (by omega) (ev_p (by omega) ?_))
  rw [hx, l1In_eq, w64 (n := i + 1) (by omega) (by omega), w64 (n := (m : Int) - 1) (by omega) (by omega), ht, okO]
  refine Ev.bind (ev_c rfl) (ev_ite (fun c => ev_p (by omega) (Ev.bind (spec_l1Has_ev x p (by omega)) (ev_ite (fun c2 => ?_) (fun c2 => ?_)))) (fun c => ?_))
  ·have c2' := of_decide_eq_true c2
   rw [decide_eq_false (fun h => h.2.2 c2'), Bool.false_and, Bool.false_and]
   exact Ev.now _
  ·have c' := of_decide_eq_true c
   have c2' : ¬ x ∈ p := fun h => c2 (decide_eq_true h)
   rw [decide_eq_true (show 0 ≤ x ∧ x < m ∧ ¬ x ∈ p from ⟨by omega, by omega, c2'⟩), Bool.true_and]
   exact ih (p ++ [x]) (i + 1) (by simp; omega) (by rw [e]; simp)
  ·have c' : ¬ (0 ≤ x ∧ x ≤ (m : Int) - 1) := fun h => c (decide_eq_true h)
   rw [decide_eq_false (fun h => c' ⟨h.1, by omega⟩), Bool.false_and, Bool.false_and]
   exact Ev.now _
theorem spec_ddOrder_ev (m : Nat) (hm : m ≤ 7) (o : List Int) (ho : o.length ≤ 1048576) : Ev (fun k => spec_ddOrder.f k o m) (okO m [] o && decide (o.length = m)) := by
 unfold spec_ddOrder.f
 exact spec_ddOrder_l0 m hm o ho o [] 0 rfl rfl
theorem impl_isOrder_l0 (m : Nat) (hm : m ≤ 7) (o : List Int) (ho : o.length ≤ 1048576) (r : List Int) : ∀ (p : List Int) (i : Int), i = p.length → o = p ++ r →
  Ev (fun k => impl_isOrder.l0 k m (rmap m (fun j => decide ((j : Int) ∈ p))) o o.length i) (okO m p r) := by
 induction r with
 | nil =>
  intro p i hi e
  have hlen : o.length = p.length := by rw [e]; simp
  apply ev_up
  simp only [impl_isOrder.l0]
  exact ev_n (by omega) (Ev.now _)
 | cons x r ih =>
  intro p i hi e
  have hlen : o.length = p.length + r.length + 1 := by rw [e]; simp; omega
  have hx : rd o i = x := by rw [e]; exact rdA hi
  have no : ¬ (0 ≤ x ∧ x < m ∧ ¬ x ∈ p) → Ev (fun _ => some false) (okO m p (x :: r)) := fun h => by
   rw [okO, decide_eq_false h, Bool.false_and]
   exact Ev.now _
  apply ev_up
  simp only [impl_isOrder.l0]
  refine ev_p (by omega) (ev_p (by omega) (ev_p (by omega) ?_))
  rw [hx, w64 (n := i + 1) (by omega) (by omega)]
  refine ev_ite (fun c => no (fun h => by omega)) (fun c => ev_ite (fun c2 => no (fun h => by omega)) (fun c2 => ?_))
  obtain ⟨y, rfl⟩ := nat_of (show 0 ≤ x by omega)
  have hy : y < m := by omega
  have hr : rdOf false (rmap m (fun j => decide ((j : Int) ∈ p))) (y : Int) = decide ((y : Int) ∈ p) := rmap_get hy _
  rw [hr, Int.toNat_natCast, rmap_set hy]
  refine ev_p (by omega) (ev_p (by rw [rmap_length]; omega) (ev_ite (fun c3 => no (fun h => h.2.2 (of_decide_eq_true c3))) (fun c3 => ?_)))
  have c3' : ¬ (y : Int) ∈ p := fun h => c3 (decide_eq_true h)
  rw [okO, decide_eq_true (show 0 ≤ (y : Int) ∧ (y : Int) < m ∧ ¬ (y : Int) ∈ p from ⟨by omega, by omega, c3'⟩), Bool.true_and]
  have e2 : rmap m (fun j => if j = y then true else decide ((j : Int) ∈ p)) = rmap m (fun j => decide ((j : Int) ∈ p ++ [(y : Int)])) := by
   apply rmap_congr
   intro j _
   by_cases c4 : j = y
   ·rw [if_pos c4, decide_eq_true (by rw [c4]; simp)]
   ·rw [if_neg c4]
    refine decide_eq_decide.2 ?_
    rw [List.mem_append, List.mem_singleton]
    exact ⟨Or.inl, fun h => h.elim id (fun h2 => absurd (by omega) c4)⟩
  rw [e2]
  exact ih (p ++ [(y : Int)]) (i + 1) (by simp; omega) (by rw [e]; simp)
theorem impl_isOrder_ev (m : Nat) (hm : m ≤ 7) (o : List Int) (ho : o.length ≤ 1048576) : Ev (fun k => impl_isOrder.f k o m) (okO m [] o && decide (o.length = m)) := by
 unfold impl_isOrder.f
 refine ev_ite (fun c => ?_) (fun c => ?_)
 ·rw [decide_eq_true (show o.length = m by omega), Bool.and_true, Int.toNat_natCast, rmap_const]
  have := impl_isOrder_l0 m hm o ho o [] 0 rfl rfl
  have e : rmap m (fun j => decide ((j : Int) ∈ ([] : List Int))) = rmap m (fun _ => false) := rmap_congr (fun j _ => by simp)
  rw [e] at this
  exact ev_p (by omega) (ev_p (by omega) this)
 ·rw [decide_eq_false (show ¬ o.length = m by omega), Bool.and_false]
  exact Ev.now _
/-! #### movePoints -/
theorem isW_facts {m : Nat} {w : List Int} (h : isW m w) : 0 < (w.length : Int) ∧ 1 < (w.length : Int) ∧ 0 ≤ rd w 1 ∧ rd w 1 < m ∧ w.length = 2 := by
 obtain ⟨a, b, rfl, _, _, h3, h4⟩ := h
 exact ⟨by simp, by simp, h3, h4, rfl⟩
def moveP (o : List Int) (w : List Int) : List Int := [rd w 0, rd o (rd w 1)]
def movePointsM (l : List (List Int)) (m : Int) (o : List Int) : List (List Int) × Bool := if levelWiresM l m = true ∧ (okO m.toNat [] o && decide (o.length = m.toNat)) = true then (l.map (moveP o), true) else ([], false)
theorem movePointsM_length (l : List (List Int)) (m : Int) (o : List Int) : (movePointsM l m o).1.length ≤ 30 ∧ ∀ y ∈ (movePointsM l m o).1, y.length ≤ 2 := by
 unfold movePointsM
 split
 ·rename_i h
  obtain ⟨n, rfl, _, _, h30, _⟩ := levelWires_nat h.1
  refine ⟨by simpa using h30, fun y hy => ?_⟩
  obtain ⟨w, _, rfl⟩ := List.mem_map.1 hy
  exact Nat.le_refl 2
 ·simp
theorem spec_plMove_l0 (m : Nat) (l : List (List Int)) (hl : l.length ≤ 30) (hw : ∀ w ∈ l, isW m w) (o : List Int) (ho : o.length = m) (r : List (List Int)) : ∀ (p : List (List Int)) (i : Int), i = p.length → l = p ++ r →
  Ev (fun k => spec_plMove.l0 k o (p.map (moveP o)) l l.length i) (l.map (moveP o)) := by
 induction r with
 | nil =>
  intro p i hi e
  have hlen : l.length = p.length := by rw [e]; simp
  have e' : l = p := by rw [e]; simp
  apply ev_up
  simp only [spec_plMove.l0]
  refine ev_n (by omega) (ev_eq (Ev.now _) ?_)
  rw [e']
 | cons w r ih =>
  intro p i hi e
  have hlen : l.length = p.length + r.length + 1 := by rw [e]; simp; omega
  have hx : rd_L2 l i = w := by rw [e]; exact rdIIA hi
  have hww := hw w (by rw [e]; simp)
  apply ev_up
  simp only [spec_plMove.l0]
  refine ev_p (by omega) (ev_p (by omega) (ev_p (by omega) ?_))
  rw [hx, w64 (n := i + 1) (by omega) (by omega)]
  obtain ⟨h1, h2, h3, h4, h5⟩ := isW_facts hww
  refine ev_p (by omega) (ev_p (by omega) (ev_p (by omega) (ev_p (by omega) (ev_p (by simp; omega) ?_))))
  have := ih (p ++ [w]) (i + 1) (by simp; omega) (by rw [e]; simp)
  rw [List.map_append] at this
  exact this
theorem impl_MovePoints_l0 (m : Nat) (l : List (List Int)) (hl : l.length ≤ 30) (hw : ∀ w ∈ l, isW m w) (o : List Int) (ho : o.length = m) (r : List (List Int)) : ∀ (p : List (List Int)) (i : Int), i = p.length → l = p ++ r →
  Ev (fun k => impl_MovePoints.l0 k o (p.map (moveP o)) l l.length i) (l.map (moveP o), true) := by
 induction r with
 | nil =>
  intro p i hi e
  have hlen : l.length = p.length := by rw [e]; simp
  have e' : l = p := by rw [e]; simp
  apply ev_up
  simp only [impl_MovePoints.l0]
  refine ev_n (by omega) (ev_eq (Ev.now _) ?_)
  rw [e']
 | cons w r ih =>
  intro p i hi e
  have hlen : l.length = p.length + r.length + 1 := by rw [e]; simp; omega
  have hx : rd_L2 l i = w := by rw [e]; exact rdIIA hi
  have hww := hw w (by rw [e]; simp)
  apply ev_up
  simp only [impl_MovePoints.l0]
  refine ev_p (by omega) (ev_p (by omega) (ev_p (by omega) ?_))
  rw [hx, w64 (n := i + 1) (by omega) (by omega)]
  obtain ⟨h1, h2, h3, h4, h5⟩ := isW_facts hww
  refine ev_p (by omega) (ev_p (by omega) (ev_p (by omega) (ev_p (by omega) (ev_p (by simp; omega) ?_))))
  have := ih (p ++ [w]) (i + 1) (by simp; omega) (by rw [e]; simp)
  rw [List.map_append] at this
  exact this
theorem spec_MovePoints_ev (l : List (List Int)) (m : Int) (o : List Int) (hm : I64 m) (hl : l.length ≤ 9223372036854775807) (ho : o.length ≤ 1048576) : Ev (fun k => spec_MovePoints.f k l m o) (movePointsM l m o) := by
 unfold spec_MovePoints.f movePointsM
 refine Ev.bind (spec_plWires_ev l m hm hl) (ev_ite (fun h => ?_) (fun h => ?_))
 ·obtain ⟨n, rfl, h1, h7, h30, hw⟩ := levelWires_nat h
  refine Ev.bind (spec_ddOrder_ev n h7 o ho) (ev_ite (fun h2 => ?_) (fun h2 => ?_))
  ·rw [if_pos ⟨h, by rw [Int.toNat_natCast]; exact h2⟩]
   rw [Bool.and_eq_true] at h2
   have hp : Ev (fun k => spec_plMove.f k l o) (l.map (moveP o)) := by
    unfold spec_plMove.f
    exact spec_plMove_l0 n l h30 hw o (of_decide_eq_true h2.2) l [] 0 rfl rfl
   exact Ev.bind hp (Ev.now _)
  ·rw [if_neg (fun hh => h2 (by have := hh.2; rw [Int.toNat_natCast] at this; exact this))]
   exact Ev.now _
 ·rw [if_neg (fun hh => h hh.1)]
  exact Ev.now _
theorem impl_MovePoints_ev (l : List (List Int)) (m : Int) (o : List Int) (hl : l.length ≤ 9223372036854775807) (ho : o.length ≤ 1048576) : Ev (fun k => impl_MovePoints.f k l m o) (movePointsM l m o) := by
 have no : ¬ (levelWiresM l m = true ∧ (okO m.toNat [] o && decide (o.length = m.toNat)) = true) → Ev (fun k => impl_MovePoints.j0 k l o true) (movePointsM l m o) := fun h => by
  unfold movePointsM
  rw [if_neg h]
  apply ev_up
  simp only [impl_MovePoints.j0]
  exact ev_p (by trivial) (Ev.now _)
 unfold impl_MovePoints.f
 refine Ev.bind (impl_AreLevelWires_ev l m hl) (ev_ite (fun h => ?_) (fun h => no (fun hh => h hh.1)))
 obtain ⟨n, rfl, h1, h7, h30, hw⟩ := levelWires_nat h
 refine Ev.bind (impl_isOrder_ev n h7 o ho) ?_
 by_cases h2 : (okO n [] o && decide (o.length = n)) = true
 ·rw [h2]
  unfold movePointsM
  rw [if_pos ⟨h, by rw [Int.toNat_natCast]; exact h2⟩]
  rw [Bool.and_eq_true] at h2
  apply ev_up
  simp only [impl_MovePoints.j0]
  exact ev_n (by decide) (impl_MovePoints_l0 n l h30 hw o (of_decide_eq_true h2.2) l [] 0 rfl rfl)
 ·rw [show (okO n [] o && decide (o.length = n)) = false by simpa using h2]
  exact no (fun hh => h2 (by have := hh.2; rw [Int.toNat_natCast] at this; exact this))
/-! #### l1All -/
def inB (a b : Int) (x : Int) : Bool := decide (a ≤ x ∧ x ≤ b)
theorem l1All_l0 (l : List Int) (a b : Int) (hl : l.length ≤ 9223372036854775807) (r : List Int) : ∀ (p : List Int) (i : Int), i = p.length → l = p ++ r →
  Ev (fun k => spec_l1All.l0 k a b l l.length i) (r.all (inB a b)) := by
 induction r with
 | nil =>
  intro p i hi e
  have hlen : l.length = p.length := by rw [e]; simp
  apply ev_up
  simp only [spec_l1All.l0]
  exact ev_n (by omega) (Ev.now _)
 | cons x r ih =>
  intro p i hi e
  have hlen : l.length = p.length + r.length + 1 := by rw [e]; simp; omega
  have hx : rd l i = x := by rw [e]; exact rdA hi
  have ih' := ih (p ++ [x]) (i + 1) (by simp; omega) (by rw [e]; simp)
  apply ev_up
  simp only [spec_l1All.l0]
  refine ev_p (by omega) (ev_p (by omega) (ev_p (by omega) ?_))
  rw [hx, l1In_eq]
  refine Ev.bind (ev_c rfl) ?_
  refine ev_ite (fun h => ?_) (fun h => ?_)
  ·rw [w64 (by omega) (by omega)]
   refine ev_eq ih' ?_
   rw [List.all_cons, show inB a b x = true from h, Bool.true_and]
  ·refine ev_eq (Ev.now _) ?_
   rw [List.all_cons, show inB a b x = false from decide_eq_false (fun hh => h (decide_eq_true hh)), Bool.false_and]
theorem l1All_ev (l : List Int) (a b : Int) (hl : l.length ≤ 9223372036854775807) : Ev (fun k => spec_l1All.f k l a b) (l.all (inB a b)) := by
 unfold spec_l1All.f
 exact l1All_l0 l a b hl l [] 0 rfl rfl
/-! #### ttInputs -/
theorem ttInputs_eq (a : Int) : spec_ttInputs.f a = some (decide (0 ≤ a ∧ a ≤ 4)) := by
 unfold spec_ttInputs.f
 rw [l1In_eq, Option.bind_some]
/-! #### circuitM -/
/-- A gate is good where there are w wires before it. -/
def gateOk (w : Int) (g : S57) : Bool := decide (1 ≤ g.f0 ∧ g.f0 ≤ 4 ∧ 0 ≤ g.f1 ∧ g.f1 < w ∧ 0 ≤ g.f2 ∧ g.f2 < w ∧ (g.f0 = 4 → g.f1 = g.f2))
def gatesOk (w : Int) : List S57 → Bool
 | [] => true
 | g :: r => gateOk w g && gatesOk (w + 1) r
def circuitM (n : Int) (gs : List S57) (os : List Int) : Bool := decide (0 ≤ n ∧ n ≤ 4 ∧ gs.length ≤ 16 ∧ 1 ≤ os.length ∧ os.length ≤ 4) && (gatesOk n gs && os.all (inB 0 (n + gs.length - 1)))
/-! #### gatesOkI -/
theorem circuitM_of {n : Int} {gs : List S57} {os : List Int} (h : circuitM n gs os = true) :
  ∃ a : Nat, n = a ∧ a ≤ 4 ∧ gs.length ≤ 16 ∧ 1 ≤ os.length ∧ os.length ≤ 4 ∧ gatesOk n gs = true ∧ ∀ o ∈ os, 0 ≤ o ∧ o < n + gs.length := by
 unfold circuitM at h
 rw [Bool.and_eq_true, Bool.and_eq_true, List.all_eq_true] at h
 obtain ⟨h1, h2, h3⟩ := h
 obtain ⟨h4, h5, h6, h7, h8⟩ := of_decide_eq_true h1
 obtain ⟨a, rfl⟩ := nat_of h4
 refine ⟨a, rfl, by omega, h6, h7, h8, h2, fun o ho => ?_⟩
 have := of_decide_eq_true (h3 o ho)
 omega
/-! #### depthsM -/
def depthsM : List Int → List S57 → List Int
 | ds, [] => ds
 | ds, g :: r => depthsM (ds ++ [1 + (if rd ds g.f1 < rd ds g.f2 then rd ds g.f2 else rd ds g.f1)]) r
theorem depthsM_length (r : List S57) : ∀ ds, (depthsM ds r).length = ds.length + r.length := by
 induction r with
 | nil => intro ds; rfl
 | cons g r ih =>
  intro ds
  rw [depthsM, ih]
  simp
  omega
/-! #### levelsM -/
/-- A wire put into level d; levels are made up to d. -/
def lvPut (o : List (List Int)) (d : Nat) (v : Int) : List (List Int) := (o ++ List.replicate (d + 1 - o.length) []).set d ((o ++ List.replicate (d + 1 - o.length) []).getD d [] ++ [v])
def lvAll (a : Int) : List Int → Nat → List (List Int) → List (List Int)
 | [], _, o => o
 | d :: r, i, o => lvAll a r (i + 1) (lvPut o d.toNat (a + i))
def levelsM (a : Nat) (gs : List S57) : List (List Int) := lvAll a ((depthsM (List.replicate a 0) gs).drop a) 0 [seqFrom 0 a]
theorem lvPut_more {o : List (List Int)} {d : Nat} (v : Int) (h : o.length ≤ d) : lvPut (o ++ [[]]) d v = lvPut o d v := by
 have e : (o ++ [[]]) ++ List.replicate (d + 1 - (o ++ [[]]).length) [] = o ++ List.replicate (d + 1 - o.length) ([] : List Int) := by
  rw [List.append_assoc, show d + 1 - o.length = (d + 1 - (o ++ [[]]).length) + 1 by simp; omega, List.replicate_succ]
  rfl
 unfold lvPut
 rw [e]
theorem lvPut_now {o : List (List Int)} {d : Nat} (v : Int) (h : d < o.length) : lvPut o d v = o.set d (o.getD d [] ++ [v]) := by
 unfold lvPut
 rw [show d + 1 - o.length = 0 by omega, List.replicate_zero, List.append_nil]
theorem lvPut_ok {o : List (List Int)} {d m : Nat} (v : Int) (h1 : o.length ≤ 40) (hd : d < 40) (h2 : ∀ y ∈ o, y.length ≤ m) : (lvPut o d v).length ≤ 40 ∧ ∀ y ∈ lvPut o d v, y.length ≤ m + 1 := by
 have h3 : ∀ y ∈ o ++ List.replicate (d + 1 - o.length) ([] : List Int), y.length ≤ m := fun y hy => by
  rcases List.mem_append.1 hy with hy | hy
  ·exact h2 y hy
  ·rw [(List.mem_replicate.1 hy).2]; simp
 unfold lvPut
 refine ⟨by simp; omega, fun y hy => ?_⟩
 rcases List.mem_or_eq_of_mem_set hy with hy | hy
 ·have := h3 y hy; omega
 ·subst hy
  rw [List.length_append, List.length_singleton]
  have h4 : ((o ++ List.replicate (d + 1 - o.length) ([] : List Int)).getD d []).length ≤ m := by
   rw [List.getD_eq_getElem?_getD]
   cases hq : (o ++ List.replicate (d + 1 - o.length) ([] : List Int))[d]? with
   | none => simp
   | some z => exact h3 z (List.mem_of_getElem? hq)
  omega
theorem lvAll_ok (a : Int) (r : List Int) : ∀ (i m : Nat) (o : List (List Int)), o.length ≤ 40 → (∀ y ∈ o, y.length ≤ m) → (∀ x ∈ r, 0 ≤ x ∧ x < 40) → (lvAll a r i o).length ≤ 40 ∧ ∀ y ∈ lvAll a r i o, y.length ≤ m + r.length := by
 induction r with
 | nil => intro i m o h1 h2 _; exact ⟨h1, h2⟩
 | cons d r ih =>
  intro i m o h1 h2 h3
  have hd := h3 d (by simp)
  obtain ⟨h4, h5⟩ := lvPut_ok (a + i) h1 (show d.toNat < 40 by omega) h2
  obtain ⟨h6, h7⟩ := ih (i + 1) (m + 1) _ h4 h5 (fun x hx => h3 x (by simp [hx]))
  rw [lvAll, List.length_cons]
  exact ⟨h6, fun y hy => by have := h7 y hy; omega⟩
theorem rd_or (ds : List Int) (i : Int) : rd ds i ∈ ds ∨ rd ds i = 0 := by
 unfold rd
 rw [List.getD_eq_getElem?_getD]
 cases h : ds[i.toNat]? with
 | none => right; rfl
 | some x => left; exact List.mem_of_getElem? h
theorem depthsM_bound (r : List S57) : ∀ (ds : List Int) (N : Int), 0 ≤ N → (∀ x ∈ ds, 0 ≤ x ∧ x ≤ N) → ∀ x ∈ depthsM ds r, 0 ≤ x ∧ x ≤ N + r.length := by
 induction r with
 | nil => intro ds N _ h x hx; have := h x hx; simp; omega
 | cons g r ih =>
  intro ds N hN h x hx
  rw [depthsM] at hx
  have hr : ∀ i, 0 ≤ rd ds i ∧ rd ds i ≤ N := fun i => by
   rcases rd_or ds i with hh | hh
   ·exact h _ hh
   ·rw [hh]; omega
  have h1 := hr g.f1
  have h2 := hr g.f2
  have := ih _ (N + 1) (by omega) (fun y hy => by
   rcases List.mem_append.1 hy with hy | hy
   ·have := h y hy; omega
   ·rw [List.mem_singleton] at hy
    subst hy
    split <;> omega) x hx
  rw [List.length_cons]
  omega
theorem depths_drop {a : Nat} {gs : List S57} (hg : gs.length ≤ 16) : ∀ x ∈ (depthsM (List.replicate a 0) gs).drop a, 0 ≤ x ∧ x < 40 := fun x hx => by
 have := depthsM_bound gs (List.replicate a 0) 0 (by omega) (fun y hy => by rw [(List.mem_replicate.1 hy).2]; omega) x (List.mem_of_mem_drop hx)
 omega
theorem depths_drop_len (a : Nat) (gs : List S57) : ((depthsM (List.replicate a 0) gs).drop a).length = gs.length := by
 rw [List.length_drop, depthsM_length, List.length_replicate]; omega
theorem levelsM_ok {a : Nat} {gs : List S57} (ha : a ≤ 4) (hg : gs.length ≤ 16) : (levelsM a gs).length ≤ 40 ∧ ∀ y ∈ levelsM a gs, y.length ≤ 20 := by
 obtain ⟨h1, h2⟩ := lvAll_ok a ((depthsM (List.replicate a 0) gs).drop a) 0 4 [seqFrom 0 a] (by simp) (fun y hy => by rw [List.mem_singleton] at hy; rw [hy, seqFrom_length]; exact ha) (depths_drop hg)
 refine ⟨h1, fun y hy => ?_⟩
 have := h2 y hy
 rw [depths_drop_len] at this
 omega
theorem seqFrom_snoc (s : Int) (n : Nat) : seqFrom s n ++ [s + n] = seqFrom s (n + 1) := by
 induction n generalizing s with
 | zero => simp [seqFrom]
 | succ n ih =>
  rw [seqFrom, List.cons_append, show s + ((n + 1 : Nat) : Int) = (s + 1) + (n : Int) by omega, ih (s + 1)]
  rfl
/-! #### slices_Index -/
/-- The first place of v, from i on, or -1. -/
def placeM (v : Int) : Int → List Int → Int
 | _, [] => -1
 | i, x :: r => if v = x then i else placeM v (i + 1) r
theorem placeM_mem (v : Int) (r : List Int) : ∀ i, 0 ≤ i → (0 ≤ placeM v i r ↔ v ∈ r) := by
 induction r with
 | nil => intro i _; simp [placeM]
 | cons x r ih =>
  intro i hi
  rw [placeM]
  by_cases h : v = x
  ·rw [if_pos h, h]
   simp [hi]
  ·rw [if_neg h, ih (i + 1) (by omega)]
   simp [h]
theorem slices_Index_l0 (l : List Int) (v : Int) (hl : l.length ≤ 1048576) (r : List Int) : ∀ (p : List Int) (i : Int), i = p.length → l = p ++ r →
  Ev (fun k => slices_Index_int_int.l0 k l v l.length i) (placeM v i r) := by
 induction r with
 | nil =>
  intro p i hi e
  have hlen : l.length = p.length := by rw [e]; simp
  apply ev_up
  simp only [slices_Index_int_int.l0]
  exact ev_n (by omega) (Ev.now _)
 | cons x r ih =>
  intro p i hi e
  have hlen : l.length = p.length + r.length + 1 := by rw [e]; simp; omega
  have hx : rd l i = x := by rw [e]; exact rdA hi
  apply ev_up
  simp only [slices_Index_int_int.l0]
  refine ev_p (by omega) (ev_p (by omega) (ev_p (by omega) ?_))
  rw [hx, w64 (n := i + 1) (by omega) (by omega), placeM]
  refine ev_ite (fun h => ?_) (fun h => ?_)
  ·rw [if_pos h]
   exact Ev.now _
  ·rw [if_neg h]
   exact ih (p ++ [x]) (i + 1) (by simp; omega) (by rw [e]; simp)
theorem slices_Index_ev (l : List Int) (v : Int) (hl : l.length ≤ 1048576) : Ev (fun k => slices_Index_int_int.f k l v) (placeM v 0 l) := by
 unfold slices_Index_int_int.f
 exact slices_Index_l0 l v hl l [] 0 rfl rfl
/-! #### lwM -/
def lwEnds (g : S57) : List Int := if g.f0 = 4 then [g.f1] else [g.f1, g.f2]
theorem lwEnds_length (g : S57) : (lwEnds g).length ≤ 2 := by unfold lwEnds; split <;> simp
def lwIn (row0 : List Int) (pl : Int) : List Int → List (List Int) → List (List Int)
 | [], acc => acc
 | e :: r, acc => lwIn row0 pl r (if placeM e 0 row0 ≥ 0 then acc ++ [[placeM e 0 row0, pl]] else acc)
theorem lwIn_length (row0 : List Int) (pl : Int) (r : List Int) : ∀ acc, (lwIn row0 pl r acc).length ≤ acc.length + r.length := by
 induction r with
 | nil => intro acc; exact Nat.le_refl _
 | cons e r ih =>
  intro acc
  have h1 := ih (if placeM e 0 row0 ≥ 0 then acc ++ [[placeM e 0 row0, pl]] else acc)
  have h2 : (if placeM e 0 row0 ≥ 0 then acc ++ [[placeM e 0 row0, pl]] else acc).length ≤ acc.length + 1 := by split <;> simp
  rw [lwIn, List.length_cons]
  omega
theorem lwIn_rows (row0 : List Int) (pl : Int) (r : List Int) : ∀ acc, (∀ y ∈ acc, y.length = 2) → ∀ y ∈ lwIn row0 pl r acc, y.length = 2 := by
 induction r with
 | nil => intro acc h; exact h
 | cons e r ih =>
  intro acc h
  rw [lwIn]
  refine ih _ ?_
  split
  ·intro y hy
   rcases List.mem_append.1 hy with hy | hy
   ·exact h y hy
   ·rw [List.mem_singleton] at hy; rw [hy]; rfl
  ·exact h
def lwOut (a : Nat) (gs : List S57) (row0 : List Int) : List Int → Nat → List (List Int) → List (List Int)
 | [], _, acc => acc
 | w :: r, i, acc => lwOut a gs row0 r (i + 1) (lwIn row0 i (lwEnds (rd_T57 gs (w - a))) acc)
theorem lwOut_length (a : Nat) (gs : List S57) (row0 r : List Int) : ∀ i acc, (lwOut a gs row0 r i acc).length ≤ acc.length + 2 * r.length := by
 induction r with
 | nil => intro i acc; exact Nat.le_refl _
 | cons w r ih =>
  intro i acc
  have h1 := ih (i + 1) (lwIn row0 i (lwEnds (rd_T57 gs (w - a))) acc)
  have h2 := lwIn_length row0 i (lwEnds (rd_T57 gs (w - a))) acc
  have h3 := lwEnds_length (rd_T57 gs (w - a))
  rw [lwOut, List.length_cons]
  omega
theorem lwOut_rows (a : Nat) (gs : List S57) (row0 r : List Int) : ∀ i acc, (∀ y ∈ acc, y.length = 2) → ∀ y ∈ lwOut a gs row0 r i acc, y.length = 2 := by
 induction r with
 | nil => intro i acc h; exact h
 | cons w r ih =>
  intro i acc h
  rw [lwOut]
  exact ih _ _ (lwIn_rows _ _ _ _ h)
theorem lvPut_getD (o : List (List Int)) (d : Nat) (v : Int) (e : Nat) : (lvPut o d v).getD e [] = if e = d then o.getD e [] ++ [v] else o.getD e [] := by
 have hpad : ∀ e, (o ++ List.replicate (d + 1 - o.length) ([] : List Int)).getD e [] = o.getD e [] := by
  intro e
  rw [List.getD_eq_getElem?_getD, List.getD_eq_getElem?_getD]
  by_cases h : e < o.length
  ·rw [List.getElem?_append_left h]
  ·rw [List.getElem?_append_right (by omega), List.getElem?_eq_none (by omega : o.length ≤ e)]
   cases hq : (List.replicate (d + 1 - o.length) ([] : List Int))[e - o.length]? with
   | none => rfl
   | some z => rw [(List.mem_replicate.1 (List.mem_of_getElem? hq)).2]; rfl
 unfold lvPut
 rw [List.getD_eq_getElem?_getD, List.getElem?_set]
 by_cases h : d = e
 ·subst h
  rw [if_pos rfl, if_pos rfl, if_pos (by simp; omega), Option.getD_some, hpad]
 ·rw [if_neg h, if_neg (fun hh => h hh.symm), ← List.getD_eq_getElem?_getD, hpad]
theorem lvAll_in (a : Int) (e : Nat) (r : List Int) : ∀ (i : Nat) (o : List (List Int)), (∀ y ∈ o.getD e [], a ≤ y ∧ y < a + i) → ∀ y ∈ (lvAll a r i o).getD e [], a ≤ y ∧ y < a + (i + r.length) := by
 induction r with
 | nil => intro i o h y hy; have := h y hy; simp; omega
 | cons d r ih =>
  intro i o h y hy
  rw [lvAll] at hy
  have := ih (i + 1) (lvPut o d.toNat (a + i)) (fun z hz => by
   rw [lvPut_getD] at hz
   split at hz
   ·rcases List.mem_append.1 hz with hz | hz
    ·have := h z hz; omega
    ·rw [List.mem_singleton] at hz; omega
   ·have := h z hz; omega) y hy
  rw [List.length_cons]
  omega
theorem levelsM_in {a : Nat} {gs : List S57} (e : Nat) : ∀ y ∈ (levelsM a gs).getD (e + 1) [], (a : Int) ≤ y ∧ y < a + gs.length := by
 have := lvAll_in a (e + 1) ((depthsM (List.replicate a 0) gs).drop a) 0 [seqFrom 0 a] (fun y hy => by simp at hy)
 rw [depths_drop_len] at this
 unfold levelsM
 intro y hy
 have := this y hy
 omega
def lvWiresM (n : Int) (gs : List S57) (os : List Int) (kk : Int) : List (List Int) × Bool :=
 if circuitM n gs os = true ∧ 0 ≤ kk ∧ kk ≤ ((levelsM n.toNat gs).length : Int) - 2 then (lwOut n.toNat gs ((levelsM n.toNat gs).getD kk.toNat []) ((levelsM n.toNat gs).getD (kk.toNat + 1) []) 0 [], true) else ([], false)
theorem rows_getD {lv : List (List Int)} (h : ∀ y ∈ lv, y.length ≤ 20) (e : Nat) : (lv.getD e []).length ≤ 20 := by
 rw [List.getD_eq_getElem?_getD]
 cases hq : lv[e]? with
 | none => simp
 | some z => exact h z (List.mem_of_getElem? hq)
theorem lvWiresM_length (n : Int) (gs : List S57) (os : List Int) (kk : Int) : (lvWiresM n gs os kk).1.length ≤ 400 ∧ ∀ y ∈ (lvWiresM n gs os kk).1, y.length ≤ 20 := by
 unfold lvWiresM
 split
 ·rename_i h
  obtain ⟨a, rfl, ha, hg, _⟩ := circuitM_of h.1
  obtain ⟨h1, h2⟩ := levelsM_ok ha hg
  simp only [Int.toNat_natCast]
  have h3 := rows_getD h2 (kk.toNat + 1)
  have h4 := lwOut_length a gs ((levelsM a gs).getD kk.toNat []) ((levelsM a gs).getD (kk.toNat + 1) []) 0 []
  simp only [List.length_nil] at h4
  exact ⟨by omega, fun y hy => by rw [lwOut_rows _ _ _ _ 0 [] (by simp) y hy]; omega⟩
 ·simp
/-! #### spec_plPlace -/
theorem spec_plPlace_l0 (l : List Int) (v : Int) (hl : l.length ≤ 1048576) (r : List Int) : ∀ (p : List Int) (i : Int), i = p.length → l = p ++ r →
  Ev (fun k => spec_plPlace.l0 k v l l.length i) (placeM v i r) := by
 induction r with
 | nil =>
  intro p i hi e
  have hlen : l.length = p.length := by rw [e]; simp
  apply ev_up
  simp only [spec_plPlace.l0]
  exact ev_n (by omega) (Ev.now _)
 | cons x r ih =>
  intro p i hi e
  have hlen : l.length = p.length + r.length + 1 := by rw [e]; simp; omega
  have hx : rd l i = x := by rw [e]; exact rdA hi
  apply ev_up
  simp only [spec_plPlace.l0]
  refine ev_p (by omega) (ev_p (by omega) (ev_p (by omega) ?_))
  rw [hx, w64 (n := i + 1) (by omega) (by omega), placeM]
  refine ev_ite (fun h => ?_) (fun h => ?_)
  ·rw [if_pos h.symm]
   exact Ev.now _
  ·rw [if_neg (fun hh => h hh.symm)]
   exact ih (p ++ [x]) (i + 1) (by simp; omega) (by rw [e]; simp)
theorem spec_plPlace_ev (l : List Int) (v : Int) (hl : l.length ≤ 1048576) : Ev (fun k => spec_plPlace.f k l v) (placeM v 0 l) := by
 unfold spec_plPlace.f
 exact spec_plPlace_l0 l v hl l [] 0 rfl rfl
/-! #### spec_ciGood -/
theorem spec_ciGood_end (n : Int) (gs : List S57) (os : List Int) (hn : I64 n) (hg : gs.length ≤ 1048576) (ho : os.length ≤ 1048576) :
  Ev (fun k => (spec_ttInputs.f n).bind fun t108 => (if t108 = true then (if (gs.length : Int) ≤ 16 then ((spec_l1In.f (os.length : Int) 1 4).bind fun t109 => (if t109 = true then ((spec_l1All.f k os 0 (wrap64 ((wrap64 (n + (gs.length : Int))) - 1))).bind fun t110 => (some t110)) else (some false))) else (some false)) else (some false)))
   (decide (0 ≤ n ∧ n ≤ 4 ∧ gs.length ≤ 16 ∧ 1 ≤ os.length ∧ os.length ≤ 4) && os.all (inB 0 (n + gs.length - 1))) := by
 rw [ttInputs_eq, l1In_eq]
 refine Ev.bind (ev_c rfl) (ev_ite (fun h1 => ?_) (fun h1 => ?_))
 ·have h1' := of_decide_eq_true h1
  refine ev_ite (fun h2 => ?_) (fun h2 => ?_)
  ·refine Ev.bind (ev_c rfl) (ev_ite (fun h3 => ?_) (fun h3 => ?_))
   ·have h3' := of_decide_eq_true h3
    rw [w64 (n := n + gs.length) (by omega) (by omega), w64 (by omega) (by omega), decide_eq_true (by omega), Bool.true_and]
    exact Ev.bind (l1All_ev os 0 _ (by omega)) (Ev.now _)
   ·rw [decide_eq_false (fun hh => h3 (decide_eq_true (by omega))), Bool.false_and]
    exact Ev.now _
  ·rw [decide_eq_false (by omega), Bool.false_and]
   exact Ev.now _
 ·rw [decide_eq_false (fun hh => h1 (decide_eq_true (by omega))), Bool.false_and]
  exact Ev.now _
theorem spec_ciGood_l0 (n : Int) (gs : List S57) (os : List Int) (hn : I64 n) (hg : gs.length ≤ 1048576) (ho : os.length ≤ 1048576) (r : List S57) : ∀ (p : List S57) (i : Int), i = p.length → gs = p ++ r →
  Ev (fun k => spec_ciGood.l0 k gs gs.length i n gs os) (decide (0 ≤ n ∧ n ≤ 4 ∧ gs.length ≤ 16 ∧ 1 ≤ os.length ∧ os.length ≤ 4) && (gatesOk (n + i) r && os.all (inB 0 (n + gs.length - 1)))) := by
 have hn' := hn
 unfold I64 at hn'
 induction r with
 | nil =>
  intro p i hi e
  have hlen : gs.length = p.length := by rw [e]; simp
  apply ev_up
  simp only [spec_ciGood.l0]
  refine ev_n (by omega) ?_
  rw [gatesOk, Bool.true_and]
  exact spec_ciGood_end n gs os hn hg ho
 | cons x r ih =>
  intro p i hi e
  have hlen : gs.length = p.length + r.length + 1 := by rw [e]; simp; omega
  have hx : rd_T57 gs i = x := by rw [e]; exact rdGateA hi
  have ih' := ih (p ++ [x]) (i + 1) (by simp; omega) (by rw [e]; simp)
  apply ev_up
  simp only [spec_ciGood.l0]
  refine ev_p (by omega) (ev_p (by omega) (ev_p (by omega) ?_))
  rw [hx, w64 (n := i + 1) (by omega) (by omega)]
  simp only [l1In_eq]
  by_cases hv : 0 ≤ n ∧ n ≤ 4
  ·rw [w64 (n := n + i) (by omega) (by omega), w64 (n := n + i - 1) (by omega) (by omega)]
   have no : gateOk (n + i) x = false → Ev (fun _ => some false) (decide (0 ≤ n ∧ n ≤ 4 ∧ gs.length ≤ 16 ∧ 1 ≤ os.length ∧ os.length ≤ 4) && (gatesOk (n + i) (x :: r) && os.all (inB 0 (n + gs.length - 1)))) := fun h => by
    rw [gatesOk, h, Bool.false_and, Bool.false_and, Bool.and_false]
    exact Ev.now _
   have yes : gateOk (n + i) x = true → Ev (fun k => spec_ciGood.l0 k gs gs.length (i + 1) n gs os) (decide (0 ≤ n ∧ n ≤ 4 ∧ gs.length ≤ 16 ∧ 1 ≤ os.length ∧ os.length ≤ 4) && (gatesOk (n + i) (x :: r) && os.all (inB 0 (n + gs.length - 1)))) := fun h => by
    rw [gatesOk, h, Bool.true_and, Int.add_assoc]
    exact ih'
   refine Ev.bind (ev_c rfl) (ev_ite (fun h1 => Ev.bind (ev_c rfl) (ev_ite (fun h2 => Ev.bind (ev_c rfl) (ev_ite (fun h3 => ev_ite (fun h4 => ev_ite (fun h5 => ?_) (fun h5 => ?_)) (fun h4 => ?_)) (fun h3 => ?_))) (fun h2 => ?_))) (fun h1 => ?_))
   ·simp only [decide_eq_true_eq] at h1 h2 h3
    exact yes (decide_eq_true (by omega))
   ·exact no (decide_eq_false (fun hh => h5 (hh.2.2.2.2.2.2 h4).symm))
   ·simp only [decide_eq_true_eq] at h1 h2 h3
    exact yes (decide_eq_true (by omega))
   ·simp only [decide_eq_true_eq] at h3
    exact no (decide_eq_false (by omega))
   ·simp only [decide_eq_true_eq] at h2
    exact no (decide_eq_false (by omega))
   ·simp only [decide_eq_true_eq] at h1
    exact no (decide_eq_false (by omega))
  ·have ef : decide (0 ≤ n ∧ n ≤ 4 ∧ gs.length ≤ 16 ∧ 1 ≤ os.length ∧ os.length ≤ 4) = false := decide_eq_false (by omega)
   rw [ef, Bool.false_and] at ih' ⊢
   refine Ev.bind (ev_c rfl) (ev_ite (fun h1 => Ev.bind (ev_c rfl) (ev_ite (fun h2 => Ev.bind (ev_c rfl) (ev_ite (fun h3 => ev_ite (fun h4 => ev_ite (fun h5 => ih') (fun h5 => Ev.now _)) (fun h4 => ih')) (fun h3 => Ev.now _))) (fun h2 => Ev.now _))) (fun h1 => Ev.now _))
theorem spec_ciGood_ev (n : Int) (gs : List S57) (os : List Int) (hn : I64 n) (hg : gs.length ≤ 1048576) (ho : os.length ≤ 1048576) : Ev (fun k => spec_ciGood.f k n gs os) (circuitM n gs os) := by
 unfold spec_ciGood.f circuitM
 have := spec_ciGood_l0 n gs os hn hg ho gs [] 0 rfl rfl
 rwa [Int.add_zero] at this
/-! #### ciDepths -/
theorem l1MostD_eq (a b : Int) : spec_l1Most.f a b = some (if a < b then b else a) := by
 unfold spec_l1Most.f
 by_cases h : a > b
 ·rw [if_pos h, if_neg (by omega)]
 ·rw [if_neg h]
  by_cases h2 : a < b
  ·rw [if_pos h2]
  ·rw [if_neg h2]
   congr 1
   omega
theorem spec_ciDepths_l0 (a : Nat) (ha : a ≤ 4) (gs : List S57) (os : List Int) (hg : gs.length ≤ 16) (r : List S57) : ∀ (p : List S57) (ds : List Int) (i : Int), i = p.length → gs = p ++ r → (ds.length : Int) = a + i → gatesOk (a + i) r = true → (∀ x ∈ ds, 0 ≤ x ∧ x ≤ i) →
  Ev (fun k => spec_ciDepths.l0 k ds gs gs.length i a gs os) ((depthsM ds r).drop a) := by
 induction r with
 | nil =>
  intro p ds i hi e hd hk hb
  have hlen : gs.length = p.length := by rw [e]; simp
  apply ev_up
  simp only [spec_ciDepths.l0]
  refine ev_n (by omega) (ev_p (by omega) (ev_p (by omega) ?_))
  rw [Int.toNat_natCast]
  exact Ev.now _
 | cons x r ih =>
  intro p ds i hi e hd hk hb
  have hlen : gs.length = p.length + r.length + 1 := by rw [e]; simp; omega
  have hx : rd_T57 gs i = x := by rw [e]; exact rdGateA hi
  rw [gatesOk, Bool.and_eq_true] at hk
  have hk1 := of_decide_eq_true hk.1
  have b1 := hb _ (rd_mem (i := x.f1) (by omega) (by omega))
  have b2 := hb _ (rd_mem (i := x.f2) (by omega) (by omega))
  apply ev_up
  simp only [spec_ciDepths.l0]
  refine ev_p (by omega) (ev_p (by omega) (ev_p (by omega) ?_))
  rw [hx]
  refine ev_p (by omega) (ev_p (by omega) (ev_p (by omega) (ev_p (by omega) ?_)))
  rw [l1MostD_eq]
  refine Ev.bind (ev_c rfl) (ev_p (by omega) ?_)
  have hm : 0 ≤ (if rd ds x.f1 < rd ds x.f2 then rd ds x.f2 else rd ds x.f1) ∧ (if rd ds x.f1 < rd ds x.f2 then rd ds x.f2 else rd ds x.f1) ≤ i := by
   split <;> omega
  rw [w64 (n := i + 1) (by omega) (by omega), w64 (by omega) (by omega), depthsM]
  refine ih (p ++ [x]) _ (i + 1) (by simp; omega) (by rw [e]; simp) (by simp; omega) (by rw [← Int.add_assoc]; exact hk.2) (fun y hy => ?_)
  rw [List.mem_append] at hy
  rcases hy with hy | hy
  ·have := hb y hy
   omega
  ·simp only [List.mem_singleton] at hy
   omega
theorem spec_ciDepths_ev (a : Nat) (gs : List S57) (os : List Int) (h : circuitM a gs os = true) : Ev (fun k => spec_ciDepths.f k a gs os) ((depthsM (List.replicate a 0) gs).drop a) := by
 obtain ⟨b, hab, ha, hg, _, _, hk, _⟩ := circuitM_of h
 obtain rfl : a = b := by omega
 unfold spec_ciDepths.f
 refine ev_p (by omega) (ev_p (by omega) ?_)
 rw [Int.toNat_natCast]
 exact spec_ciDepths_l0 a ha gs os hg gs [] _ 0 rfl rfl (by simp) (by rw [Int.add_zero]; exact hk) (fun x hx => by have := (List.mem_replicate.1 hx).2; omega)
/-! #### gateDepthsM -/
def gateDepthsM (n : Int) (gs : List S57) (os : List Int) : List Int × Bool := if circuitM n gs os = true then ((depthsM (List.replicate n.toNat 0) gs).drop n.toNat, true) else ([], false)
theorem gateDepthsM_length (n : Int) (gs : List S57) (os : List Int) : (gateDepthsM n gs os).1.length ≤ 16 := by
 unfold gateDepthsM
 by_cases h : circuitM n gs os = true
 ·rw [if_pos h]
  obtain ⟨a, rfl, ha, hg, _⟩ := circuitM_of h
  simp [depthsM_length]
  exact hg
 ·rw [if_neg h]
  simp
/-! #### impl_IsCircuit -/
theorem impl_IsCircuit_l1 (n : Int) (gs : List S57) (os : List Int) (h0 : 0 ≤ n) (h4 : n ≤ 4) (hg : gs.length ≤ 1048576) (ho : os.length ≤ 1048576) (r : List Int) : ∀ (p : List Int) (i : Int), i = p.length → os = p ++ r →
  Ev (fun k => impl_IsCircuit.l1 k os os.length i n gs os) (r.all (inB 0 (n + gs.length - 1))) := by
 induction r with
 | nil =>
  intro p i hi e
  have hlen : os.length = p.length := by rw [e]; simp
  apply ev_up
  simp only [impl_IsCircuit.l1]
  exact ev_n (by omega) (Ev.now _)
 | cons x r ih =>
  intro p i hi e
  have hlen : os.length = p.length + r.length + 1 := by rw [e]; simp; omega
  have hx : rd os i = x := by rw [e]; exact rdA hi
  have ih' := ih (p ++ [x]) (i + 1) (by simp; omega) (by rw [e]; simp)
  apply ev_up
  simp only [impl_IsCircuit.l1]
  refine ev_p (by omega) (ev_p (by omega) (ev_p (by omega) ?_))
  rw [hx, w64 (n := i + 1) (by omega) (by omega), w64 (n := n + gs.length) (by omega) (by omega)]
  refine ev_ite (fun h1 => ?_) (fun h1 => ev_ite (fun h2 => ?_) (fun h2 => ?_))
  ·rw [List.all_cons, show inB 0 (n + gs.length - 1) x = false from decide_eq_false (by omega), Bool.false_and]
   exact Ev.now _
  ·rw [List.all_cons, show inB 0 (n + gs.length - 1) x = false from decide_eq_false (by omega), Bool.false_and]
   exact Ev.now _
  ·rw [List.all_cons, show inB 0 (n + gs.length - 1) x = true from decide_eq_true (by omega), Bool.true_and]
   exact ih'
theorem impl_IsCircuit_l0 (n : Int) (gs : List S57) (os : List Int) (h0 : 0 ≤ n) (h4 : n ≤ 4) (hg : gs.length ≤ 1048576) (ho : os.length ≤ 1048576) (r : List S57) : ∀ (p : List S57) (i : Int), i = p.length → gs = p ++ r →
  Ev (fun k => impl_IsCircuit.l0 k gs gs.length i n gs os) (gatesOk (n + i) r && os.all (inB 0 (n + gs.length - 1))) := by
 induction r with
 | nil =>
  intro p i hi e
  have hlen : gs.length = p.length := by rw [e]; simp
  apply ev_up
  simp only [impl_IsCircuit.l0]
  refine ev_n (by omega) ?_
  rw [gatesOk, Bool.true_and]
  exact impl_IsCircuit_l1 n gs os h0 h4 hg ho os [] 0 rfl rfl
 | cons x r ih =>
  intro p i hi e
  have hlen : gs.length = p.length + r.length + 1 := by rw [e]; simp; omega
  have hx : rd_T57 gs i = x := by rw [e]; exact rdGateA hi
  have ih' := ih (p ++ [x]) (i + 1) (by simp; omega) (by rw [e]; simp)
  apply ev_up
  simp only [impl_IsCircuit.l0]
  refine ev_p (by omega) (ev_p (by omega) (ev_p (by omega) ?_))
  rw [hx, w64 (n := i + 1) (by omega) (by omega), w64 (n := n + i) (by omega) (by omega)]
  have no : gateOk (n + i) x = false → Ev (fun _ => some false) (gatesOk (n + i) (x :: r) && os.all (inB 0 (n + gs.length - 1))) := fun h => by
   rw [gatesOk, h, Bool.false_and, Bool.false_and]
   exact Ev.now _
  have yes : gateOk (n + i) x = true → Ev (fun k => impl_IsCircuit.l0 k gs gs.length (i + 1) n gs os) (gatesOk (n + i) (x :: r) && os.all (inB 0 (n + gs.length - 1))) := fun h => by
   rw [gatesOk, h, Bool.true_and, Int.add_assoc]
   exact ih'
  refine ev_ite (fun c => no (decide_eq_false (by omega))) (fun c1 => ev_ite (fun c => no (decide_eq_false (by omega))) (fun c2 => ev_ite (fun c => no (decide_eq_false (by omega))) (fun c3 => ev_ite (fun c => no (decide_eq_false (by omega))) (fun c4 => ev_ite (fun c => no (decide_eq_false (by omega))) (fun c5 => ev_ite (fun c => no (decide_eq_false (by omega))) (fun c6 => ev_ite (fun c7 => ev_ite (fun c8 => yes (decide_eq_true (by omega))) (fun c8 => no (decide_eq_false (fun hh => c8 (hh.2.2.2.2.2.2 c7))))) (fun c7 => yes (decide_eq_true (by omega)))))))))
theorem impl_IsCircuit_ev (n : Int) (gs : List S57) (os : List Int) (hg : gs.length ≤ 1048576) (ho : os.length ≤ 1048576) : Ev (fun k => impl_IsCircuit.f k n gs os) (circuitM n gs os) := by
 have bad : ¬ (0 ≤ n ∧ n ≤ 4 ∧ gs.length ≤ 16 ∧ 1 ≤ os.length ∧ os.length ≤ 4) → Ev (fun k => impl_IsCircuit.j0 k true n gs os) (circuitM n gs os) := fun h => by
  apply ev_up
  simp only [impl_IsCircuit.j0]
  unfold circuitM
  rw [decide_eq_false h, Bool.false_and]
  exact ev_p (by trivial) (Ev.now _)
 unfold impl_IsCircuit.f
 refine ev_ite (fun c1 => bad (by omega)) (fun c1 => ev_ite (fun c2 => bad (by omega)) (fun c2 => ev_ite (fun c3 => bad (by omega)) (fun c3 => ev_ite (fun c4 => bad (by omega)) (fun c4 => ?_))))
 apply ev_up
 simp only [impl_IsCircuit.j0]
 refine ev_ite (fun c5 => ?_) (fun c5 => ?_)
 ·have c5' := of_decide_eq_true c5
  unfold circuitM
  rw [decide_eq_false (by omega), Bool.false_and]
  exact Ev.now _
 ·have c5' : ¬ (os.length : Int) > 4 := fun h => c5 (decide_eq_true h)
  unfold circuitM
  rw [decide_eq_true (by omega), Bool.true_and]
  have := impl_IsCircuit_l0 n gs os (by omega) (by omega) hg ho gs [] 0 rfl rfl
  rwa [Int.add_zero] at this
/-! #### implGateDepths -/
theorem impl_GateDepths_l0 (a : Nat) (ha : a ≤ 4) (gs : List S57) (os : List Int) (hg : gs.length ≤ 16) (r : List S57) : ∀ (p : List S57) (ds : List Int) (i : Int), i = p.length → gs = p ++ r → (ds.length : Int) = a + i → gatesOk (a + i) r = true → (∀ x ∈ ds, 0 ≤ x ∧ x ≤ i) →
  Ev (fun k => impl_GateDepths.l0 k ds gs gs.length i a gs os) ((depthsM ds r).drop a, true) := by
 induction r with
 | nil =>
  intro p ds i hi e hd hk hb
  have hlen : gs.length = p.length := by rw [e]; simp
  apply ev_up
  simp only [impl_GateDepths.l0]
  refine ev_n (by omega) (Ev.bind (ev_c rfl) (ev_p (by omega) (ev_p (by omega) (Ev.bind (ev_c rfl) (ev_p (by simp; omega) ?_)))))
  rw [Int.toNat_natCast]
  exact Ev.now _
 | cons x r ih =>
  intro p ds i hi e hd hk hb
  have hlen : gs.length = p.length + r.length + 1 := by rw [e]; simp; omega
  have hx : rd_T57 gs i = x := by rw [e]; exact rdGateA hi
  rw [gatesOk, Bool.and_eq_true] at hk
  have hk1 := of_decide_eq_true hk.1
  have b1 := hb _ (rd_mem (i := x.f1) (by omega) (by omega))
  have b2 := hb _ (rd_mem (i := x.f2) (by omega) (by omega))
  apply ev_up
  simp only [impl_GateDepths.l0]
  refine ev_p (by omega) (ev_p (by omega) (ev_p (by omega) ?_))
  rw [hx]
  refine ev_p (by omega) (ev_p (by omega) (ev_p (by omega) (ev_p (by omega) (ev_p (by omega) ?_))))
  have hm : 0 ≤ (if rd ds x.f1 < rd ds x.f2 then rd ds x.f2 else rd ds x.f1) ∧ (if rd ds x.f1 < rd ds x.f2 then rd ds x.f2 else rd ds x.f1) ≤ i := by
   split <;> omega
  unfold mx
  rw [w64 (n := i + 1) (by omega) (by omega), w64 (by omega) (by omega), depthsM]
  refine ih (p ++ [x]) _ (i + 1) (by simp; omega) (by rw [e]; simp) (by simp; omega) (by rw [← Int.add_assoc]; exact hk.2) (fun y hy => ?_)
  rw [List.mem_append] at hy
  rcases hy with hy | hy
  ·have := hb y hy
   omega
  ·simp only [List.mem_singleton] at hy
   omega
theorem impl_GateDepths_ev (n : Int) (gs : List S57) (os : List Int) (hg : gs.length ≤ 1048576) (ho : os.length ≤ 1048576) : Ev (fun k => impl_GateDepths.f k n gs os) (gateDepthsM n gs os) := by
 unfold impl_GateDepths.f gateDepthsM
 refine Ev.bind (impl_IsCircuit_ev n gs os hg ho) (ev_ite (fun h => ?_) (fun h => ?_))
 ·rw [if_pos h]
  obtain ⟨a, rfl, ha, hg', _, _, hk, _⟩ := circuitM_of h
  refine ev_p (by omega) (ev_p (by omega) ?_)
  rw [Int.toNat_natCast]
  exact impl_GateDepths_l0 a ha gs os hg' gs [] _ 0 rfl rfl (by simp) (by rw [Int.add_zero]; exact hk) (fun x hx => by have := (List.mem_replicate.1 hx).2; omega)
 ·rw [if_neg h]
  exact Ev.now _
/-! #### spec_plLevels -/
theorem spec_plLevels_l2 (a : Nat) (ha : a ≤ 4) (gs : List S57) (os ds : List Int) (hl : ds.length ≤ 16) (i : Nat) (hi : i < ds.length) (d : Nat) (hd : d < 40) (R : List (List Int)) (n : Nat) : ∀ (o : List (List Int)), n = d + 1 - o.length → o.length ≤ 40 → (∀ y ∈ o, y.length ≤ 100) →
  Ev (fun k => spec_plLevels.l1 k (lvPut o d ((a : Int) + i)) ds ds.length (wrap64 ((i : Int) + 1)) a gs os) R → Ev (fun k => spec_plLevels.l2 k o i d ds ds.length i a gs os) R := by
 induction n with
 | zero =>
  intro o hn h1 h2 h
  have hlt : d < o.length := by omega
  rw [lvPut_now _ hlt] at h
  have hr : rd_L2 o (d : Int) = o.getD d [] := rfl
  have h3 : (o.getD d []).length ≤ 100 := by
   rw [List.getD_eq_getElem?_getD, List.getElem?_eq_getElem hlt]
   exact h2 _ (List.getElem_mem hlt)
  apply ev_up
  simp only [spec_plLevels.l2]
  refine ev_n (by omega) (ev_p (by omega) (ev_p (by omega) (ev_p (by rw [hr]; omega) ?_)))
  rw [hr, w64 (n := (a : Int) + i) (by omega) (by omega), Int.toNat_natCast]
  exact h
 | succ n ih =>
  intro o hn h1 h2 h
  apply ev_up
  simp only [spec_plLevels.l2]
  refine ev_p (by omega) (ev_p (by omega) ?_)
  refine ih (o ++ [[]]) (by simp; omega) (by simp; omega) (fun y hy => ?_) ?_
  ·rcases List.mem_append.1 hy with hy | hy
   ·exact h2 y hy
   ·rw [List.mem_singleton] at hy; rw [hy]; simp
  ·rw [lvPut_more _ (by omega)]
   exact h
theorem spec_plLevels_l1 (a : Nat) (ha : a ≤ 4) (gs : List S57) (os ds : List Int) (hl : ds.length ≤ 16) (r : List Int) : ∀ (p : List Int) (i : Nat) (o : List (List Int)), i = p.length → ds = p ++ r → (∀ x ∈ r, 0 ≤ x ∧ x < 40) → o.length ≤ 40 → (∀ y ∈ o, y.length ≤ 4 + i) →
  Ev (fun k => spec_plLevels.l1 k o ds ds.length i a gs os) (lvAll a r i o) := by
 induction r with
 | nil =>
  intro p i o hi e hb h1 h2
  have hlen : ds.length = p.length := by rw [e]; simp
  apply ev_up
  simp only [spec_plLevels.l1]
  exact ev_n (by omega) (Ev.now _)
 | cons x r ih =>
  intro p i o hi e hb h1 h2
  have hlen : ds.length = p.length + r.length + 1 := by rw [e]; simp; omega
  have hx : rd ds (i : Int) = x := by rw [e]; exact rdA (by omega)
  have hxb := hb x (by simp)
  obtain ⟨d, rfl⟩ : ∃ d : Nat, x = d := ⟨x.toNat, by omega⟩
  obtain ⟨h4, h5⟩ := lvPut_ok ((a : Int) + i) h1 (show d < 40 by omega) h2
  have ih' := ih (p ++ [(d : Int)]) (i + 1) (lvPut o d ((a : Int) + i)) (by simp; omega) (by rw [e]; simp) (fun y hy => hb y (by simp [hy])) h4 (fun y hy => by have := h5 y hy; omega)
  apply ev_up
  simp only [spec_plLevels.l1]
  refine ev_p (by omega) (ev_p (by omega) (ev_p (by omega) ?_))
  rw [hx]
  refine spec_plLevels_l2 a ha gs os ds hl i (by omega) d (by omega) _ _ o rfl h1 (fun y hy => by have := h2 y hy; omega) ?_
  rw [wN (n := (i : Int) + 1) (m := i + 1) (by omega) (by omega), lvAll, Int.toNat_natCast]
  exact ih'
theorem spec_plLevels_l0 (a : Nat) (gs : List S57) (os : List Int) (h : circuitM a gs os = true) (ha : a ≤ 4) (hg : gs.length ≤ 16) (d : Nat) : ∀ (i : Nat), i + d = a →
  Ev (fun k => spec_plLevels.l0 k (seqFrom 0 i) i a gs os) (levelsM a gs) := by
 induction d with
 | zero =>
  intro i hi
  obtain rfl : i = a := by omega
  have hd := depths_drop (a := i) hg
  have hdl := depths_drop_len i gs
  apply ev_up
  simp only [spec_plLevels.l0]
  refine ev_n (by omega) (Ev.bind (spec_ciDepths_ev i gs os h) ?_)
  exact spec_plLevels_l1 i ha gs os _ (by omega) _ [] 0 [seqFrom 0 i] rfl rfl hd (by simp) (fun y hy => by rw [List.mem_singleton] at hy; rw [hy, seqFrom_length]; omega)
 | succ d ih =>
  intro i hi
  have ih' := ih (i + 1) (by omega)
  rw [← seqFrom_snoc 0 i] at ih'
  apply ev_up
  simp only [spec_plLevels.l0]
  refine ev_p (by omega) (ev_p (by rw [seqFrom_length]; omega) ?_)
  rw [wN (n := (i : Int) + 1) (m := i + 1) (by omega) (by omega)]
  simpa using ih'
theorem spec_plLevels_ev (a : Nat) (gs : List S57) (os : List Int) (h : circuitM a gs os = true) : Ev (fun k => spec_plLevels.f k a gs os) (levelsM a gs) := by
 obtain ⟨b, hab, ha, hg, _⟩ := circuitM_of h
 obtain rfl : a = b := by omega
 unfold spec_plLevels.f
 exact spec_plLevels_l0 a gs os h ha hg a 0 (by omega)
/-! #### spec_LevelWires -/
theorem spec_LevelWires_l1 (a : Nat) (gs : List S57) (os : List Int) (kk : Nat) (lv : List (List Int)) (hlv : lv.length ≤ 40) (hkk : kk < lv.length) (hrow : ∀ y ∈ lv, y.length ≤ 20) (row : List Int) (hr : row.length ≤ 20) (pl : Nat) (hpl : pl < row.length) (es : List Int) (he : es.length ≤ 2) (R : List (List Int) × Bool) (r : List Int) : ∀ (p : List Int) (i : Int) (acc : List (List Int)), i = p.length → es = p ++ r → acc.length + r.length ≤ 1000 →
  Ev (fun k => spec_LevelWires.l0 k kk lv (lwIn (lv.getD kk []) pl r acc) row row.length (wrap64 ((pl : Int) + 1)) a gs os) R → Ev (fun k => spec_LevelWires.l1 k kk lv acc pl row row.length pl es es.length i a gs os) R := by
 have hr0 : rd_L2 lv (kk : Int) = lv.getD kk [] := rfl
 have hl0 : (lv.getD kk []).length ≤ 20 := by
  rw [List.getD_eq_getElem?_getD, List.getElem?_eq_getElem hkk]
  exact hrow _ (List.getElem_mem hkk)
 induction r with
 | nil =>
  intro p i acc hi e ha h
  have hlen : es.length = p.length := by rw [e]; simp
  apply ev_up
  simp only [spec_LevelWires.l1]
  exact ev_n (by omega) h
 | cons x r ih =>
  intro p i acc hi e ha h
  have hlen : es.length = p.length + r.length + 1 := by rw [e]; simp; omega
  have hx : rd es i = x := by rw [e]; exact rdA hi
  rw [lwIn] at h
  simp only [List.length_cons] at ha
  apply ev_up
  simp only [spec_LevelWires.l1]
  refine ev_p (by omega) (ev_p (by omega) (ev_p (by omega) (ev_p (by omega) (ev_p (by omega) ?_))))
  rw [hx, hr0, w64 (n := i + 1) (by omega) (by omega)]
  refine Ev.bind (spec_plPlace_ev (lv.getD kk []) x (by omega)) (ev_ite (fun c => ev_p (by omega) ?_) (fun c => ?_))
  ·rw [if_pos c] at h
   exact ih (p ++ [x]) (i + 1) _ (by simp; omega) (by rw [e]; simp) (by simp; omega) h
  ·rw [if_neg c] at h
   exact ih (p ++ [x]) (i + 1) acc (by simp; omega) (by rw [e]; simp) (by omega) h
theorem spec_LevelWires_l0 (a : Nat) (ha : a ≤ 4) (gs : List S57) (hg : gs.length ≤ 16) (os : List Int) (kk : Nat) (lv : List (List Int)) (hlv : lv.length ≤ 40) (hkk : kk < lv.length) (hrow : ∀ y ∈ lv, y.length ≤ 20) (row : List Int) (hr : row.length ≤ 20) (hin : ∀ y ∈ row, (a : Int) ≤ y ∧ y < a + gs.length) (r : List Int) : ∀ (p : List Int) (i : Nat) (acc : List (List Int)), i = p.length → row = p ++ r → acc.length ≤ 2 * i →
  Ev (fun k => spec_LevelWires.l0 k kk lv acc row row.length i a gs os) (lwOut a gs (lv.getD kk []) r i acc, true) := by
 induction r with
 | nil =>
  intro p i acc hi e hac
  have hlen : row.length = p.length := by rw [e]; simp
  apply ev_up
  simp only [spec_LevelWires.l0]
  exact ev_n (by omega) (Ev.now _)
 | cons x r ih =>
  intro p i acc hi e hac
  have hlen : row.length = p.length + r.length + 1 := by rw [e]; simp; omega
  have hx : rd row (i : Int) = x := by rw [e]; exact rdA (by omega)
  have hxb := hin x (by rw [e]; simp)
  have hen := lwEnds_length (rd_T57 gs (x - a))
  have hac2 := lwIn_length (lv.getD kk []) i (lwEnds (rd_T57 gs (x - a))) acc
  have ih' := ih (p ++ [x]) (i + 1) (lwIn (lv.getD kk []) i (lwEnds (rd_T57 gs (x - a))) acc) (by simp; omega) (by rw [e]; simp) (by omega)
  have hl1 := spec_LevelWires_l1 a gs os kk lv hlv hkk hrow row hr i (by omega) (lwEnds (rd_T57 gs (x - a))) hen (lwOut a gs (lv.getD kk []) (x :: r) i acc, true) (lwEnds (rd_T57 gs (x - a))) [] 0 acc rfl rfl (by omega) (by
   rw [wN (n := (i : Int) + 1) (m := i + 1) (by omega) (by omega), lwOut]
   exact ih')
  apply ev_up
  simp only [spec_LevelWires.l0]
  refine ev_p (by omega) (ev_p (by omega) (ev_p (by omega) ?_))
  rw [hx, w64 (n := x - a) (by omega) (by omega)]
  refine ev_p (by omega) (ev_p (by omega) ?_)
  simp only [Option.bind_some]
  refine ev_ite (fun c => ev_p (by simp) ?_) (fun c => ?_)
  ·apply ev_up
   simp only [spec_LevelWires.j2]
   unfold lwEnds at hl1
   rw [if_pos c] at hl1
   exact hl1
  ·apply ev_up
   simp only [spec_LevelWires.j2]
   unfold lwEnds at hl1
   rw [if_neg c] at hl1
   exact hl1
theorem spec_LevelWires_ev (n : Int) (gs : List S57) (os : List Int) (kk : Int) (hn : I64 n) (hk : I64 kk) (hg : gs.length ≤ 1048576) (ho : os.length ≤ 1048576) : Ev (fun g => spec_LevelWires.f g n gs os kk) (lvWiresM n gs os kk) := by
 unfold spec_LevelWires.f
 refine Ev.bind (spec_ciGood_ev n gs os hn hg ho) (ev_ite (fun h => ?_) (fun h => ?_))
 ·obtain ⟨a, rfl, ha, hg', _⟩ := circuitM_of h
  obtain ⟨h1, h2⟩ := levelsM_ok ha hg'
  have hlv := spec_plLevels_ev a gs os h
  refine Ev.bind hlv ?_
  rw [l1In_eq, w64 (by omega) (by omega)]
  refine Ev.bind (ev_c rfl) ?_
  apply ev_up
  simp only [spec_LevelWires.j0]
  unfold lvWiresM
  simp only [Int.toNat_natCast]
  by_cases c : 0 ≤ kk ∧ kk ≤ ((levelsM a gs).length : Int) - 2
  ·rw [if_pos ⟨h, c⟩]
   obtain ⟨q, rfl⟩ : ∃ q : Nat, kk = q := ⟨kk.toNat, by omega⟩
   refine ev_n (by simp; omega) (Ev.bind hlv ?_)
   rw [wN (n := (q : Int) + 1) (m := q + 1) (by omega) (by omega)]
   refine ev_p (by omega) (ev_p (by omega) ?_)
   have hrr : rd_L2 (levelsM a gs) ((q + 1 : Nat) : Int) = (levelsM a gs).getD (q + 1) [] := by
    show (levelsM a gs).getD ((q + 1 : Nat) : Int).toNat [] = _
    rw [Int.toNat_natCast]
   rw [hrr, Int.toNat_natCast]
   exact spec_LevelWires_l0 a ha gs hg' os q (levelsM a gs) h1 (by omega) h2 _ (rows_getD h2 _) (levelsM_in q) _ [] 0 [] rfl rfl (by simp)
  ·rw [if_neg (fun hh => c hh.2)]
   refine ev_p (by simp; omega) (Ev.now _)
 ·unfold lvWiresM
  rw [if_neg (fun hh => h hh.1)]
  apply ev_up
  simp only [spec_LevelWires.j0]
  exact ev_p trivial (Ev.now _)
/-! #### impl_levelsOf -/
theorem impl_levelsOf_l2 (a : Nat) (ha : a ≤ 4) (gs : List S57) (os ds : List Int) (hl : ds.length ≤ 16) (i : Nat) (hi : i < ds.length) (d : Nat) (hd : d < 40) (R : List (List Int)) (n : Nat) : ∀ (o : List (List Int)), n = d + 1 - o.length → o.length ≤ 40 → (∀ y ∈ o, y.length ≤ 100) →
  Ev (fun k => impl_levelsOf.l1 k (lvPut o d ((a : Int) + i)) ds ds.length (wrap64 ((i : Int) + 1)) a gs os) R → Ev (fun k => impl_levelsOf.l2 k o i d ds ds.length i a gs os) R := by
 induction n with
 | zero =>
  intro o hn h1 h2 h
  have hlt : d < o.length := by omega
  rw [lvPut_now _ hlt] at h
  have hr : rd_L2 o (d : Int) = o.getD d [] := rfl
  have h3 : (o.getD d []).length ≤ 100 := by
   rw [List.getD_eq_getElem?_getD, List.getElem?_eq_getElem hlt]
   exact h2 _ (List.getElem_mem hlt)
  apply ev_up
  simp only [impl_levelsOf.l2]
  refine ev_n (by omega) (ev_p (by omega) (ev_p (by omega) (ev_p (by rw [hr]; omega) ?_)))
  rw [hr, w64 (n := (a : Int) + i) (by omega) (by omega), Int.toNat_natCast]
  exact h
 | succ n ih =>
  intro o hn h1 h2 h
  apply ev_up
  simp only [impl_levelsOf.l2]
  refine ev_p (by omega) (ev_p (by omega) ?_)
  refine ih (o ++ [[]]) (by simp; omega) (by simp; omega) (fun y hy => ?_) ?_
  ·rcases List.mem_append.1 hy with hy | hy
   ·exact h2 y hy
   ·rw [List.mem_singleton] at hy; rw [hy]; simp
  ·rw [lvPut_more _ (by omega)]
   exact h
theorem impl_levelsOf_l1 (a : Nat) (ha : a ≤ 4) (gs : List S57) (os ds : List Int) (hl : ds.length ≤ 16) (r : List Int) : ∀ (p : List Int) (i : Nat) (o : List (List Int)), i = p.length → ds = p ++ r → (∀ x ∈ r, 0 ≤ x ∧ x < 40) → o.length ≤ 40 → (∀ y ∈ o, y.length ≤ 4 + i) →
  Ev (fun k => impl_levelsOf.l1 k o ds ds.length i a gs os) (lvAll a r i o) := by
 induction r with
 | nil =>
  intro p i o hi e hb h1 h2
  have hlen : ds.length = p.length := by rw [e]; simp
  apply ev_up
  simp only [impl_levelsOf.l1]
  exact ev_n (by omega) (Ev.now _)
 | cons x r ih =>
  intro p i o hi e hb h1 h2
  have hlen : ds.length = p.length + r.length + 1 := by rw [e]; simp; omega
  have hx : rd ds (i : Int) = x := by rw [e]; exact rdA (by omega)
  have hxb := hb x (by simp)
  obtain ⟨d, rfl⟩ : ∃ d : Nat, x = d := ⟨x.toNat, by omega⟩
  obtain ⟨h4, h5⟩ := lvPut_ok ((a : Int) + i) h1 (show d < 40 by omega) h2
  have ih' := ih (p ++ [(d : Int)]) (i + 1) (lvPut o d ((a : Int) + i)) (by simp; omega) (by rw [e]; simp) (fun y hy => hb y (by simp [hy])) h4 (fun y hy => by have := h5 y hy; omega)
  apply ev_up
  simp only [impl_levelsOf.l1]
  refine ev_p (by omega) (ev_p (by omega) (ev_p (by omega) ?_))
  rw [hx]
  refine impl_levelsOf_l2 a ha gs os ds hl i (by omega) d (by omega) _ _ o rfl h1 (fun y hy => by have := h2 y hy; omega) ?_
  rw [wN (n := (i : Int) + 1) (m := i + 1) (by omega) (by omega), lvAll, Int.toNat_natCast]
  exact ih'
theorem impl_levelsOf_l0 (a : Nat) (gs : List S57) (os : List Int) (ha : a ≤ 4) (hg : gs.length ≤ 16) (d : Nat) : ∀ (i : Nat), i + d = a →
  Ev (fun k => impl_levelsOf.l0 k ((depthsM (List.replicate a 0) gs).drop a) [seqFrom 0 i] i a gs os) (levelsM a gs) := by
 induction d with
 | zero =>
  intro i hi
  obtain rfl : i = a := by omega
  have hd := depths_drop (a := i) hg
  have hdl := depths_drop_len i gs
  apply ev_up
  simp only [impl_levelsOf.l0]
  refine ev_n (by omega) ?_
  exact impl_levelsOf_l1 i ha gs os _ (by omega) _ [] 0 [seqFrom 0 i] rfl rfl hd (by simp) (fun y hy => by rw [List.mem_singleton] at hy; rw [hy, seqFrom_length]; omega)
 | succ d ih =>
  intro i hi
  have ih' := ih (i + 1) (by omega)
  rw [← seqFrom_snoc 0 i] at ih'
  have hr : rd_L2 [seqFrom 0 i] 0 = seqFrom 0 i := rfl
  apply ev_up
  simp only [impl_levelsOf.l0]
  refine ev_p (by omega) (ev_p (by simp) (ev_p (by rw [hr, seqFrom_length]; omega) ?_))
  rw [hr, wN (n := (i : Int) + 1) (m := i + 1) (by omega) (by omega)]
  simpa using ih'
theorem impl_levelsOf_ev (a : Nat) (gs : List S57) (os : List Int) (h : circuitM a gs os = true) : Ev (fun k => impl_levelsOf.f k a gs os) (levelsM a gs) := by
 obtain ⟨b, hab, ha, hg, _, ho, _⟩ := circuitM_of h
 obtain rfl : a = b := by omega
 have hd := impl_GateDepths_ev a gs os (by omega) (by omega)
 unfold gateDepthsM at hd
 rw [if_pos h, Int.toNat_natCast] at hd
 unfold impl_levelsOf.f
 exact Ev.bind hd (impl_levelsOf_l0 a gs os ha hg a 0 (by omega))
/-! #### impl_LevelWires -/
theorem impl_LevelWires_l1 (a : Nat) (gs : List S57) (os : List Int) (kk : Nat) (lv : List (List Int)) (hlv : lv.length ≤ 40) (hkk : kk < lv.length) (hrow : ∀ y ∈ lv, y.length ≤ 20) (row : List Int) (hr : row.length ≤ 20) (pl : Nat) (hpl : pl < row.length) (es : List Int) (he : es.length ≤ 2) (R : List (List Int) × Bool) (r : List Int) : ∀ (p : List Int) (i : Int) (acc : List (List Int)), i = p.length → es = p ++ r → acc.length + r.length ≤ 1000 →
  Ev (fun k => impl_LevelWires.l0 k kk lv (lwIn (lv.getD kk []) pl r acc) row row.length (wrap64 ((pl : Int) + 1)) a gs os) R → Ev (fun k => impl_LevelWires.l1 k kk lv acc pl row row.length pl es es.length i a gs os) R := by
 have hr0 : rd_L2 lv (kk : Int) = lv.getD kk [] := rfl
 have hl0 : (lv.getD kk []).length ≤ 20 := by
  rw [List.getD_eq_getElem?_getD, List.getElem?_eq_getElem hkk]
  exact hrow _ (List.getElem_mem hkk)
 induction r with
 | nil =>
  intro p i acc hi e ha h
  have hlen : es.length = p.length := by rw [e]; simp
  apply ev_up
  simp only [impl_LevelWires.l1]
  exact ev_n (by omega) h
 | cons x r ih =>
  intro p i acc hi e ha h
  have hlen : es.length = p.length + r.length + 1 := by rw [e]; simp; omega
  have hx : rd es i = x := by rw [e]; exact rdA hi
  rw [lwIn] at h
  simp only [List.length_cons] at ha
  apply ev_up
  simp only [impl_LevelWires.l1]
  refine ev_p (by omega) (ev_p (by omega) (ev_p (by omega) (ev_p (by omega) (ev_p (by omega) ?_))))
  rw [hx, hr0, w64 (n := i + 1) (by omega) (by omega)]
  refine Ev.bind (slices_Index_ev (lv.getD kk []) x (by omega)) (ev_ite (fun c => ev_p (by omega) ?_) (fun c => ?_))
  ·rw [if_pos c] at h
   exact ih (p ++ [x]) (i + 1) _ (by simp; omega) (by rw [e]; simp) (by simp; omega) h
  ·rw [if_neg c] at h
   exact ih (p ++ [x]) (i + 1) acc (by simp; omega) (by rw [e]; simp) (by omega) h
theorem impl_LevelWires_l0 (a : Nat) (ha : a ≤ 4) (gs : List S57) (hg : gs.length ≤ 16) (os : List Int) (kk : Nat) (lv : List (List Int)) (hlv : lv.length ≤ 40) (hkk : kk < lv.length) (hrow : ∀ y ∈ lv, y.length ≤ 20) (row : List Int) (hr : row.length ≤ 20) (hin : ∀ y ∈ row, (a : Int) ≤ y ∧ y < a + gs.length) (r : List Int) : ∀ (p : List Int) (i : Nat) (acc : List (List Int)), i = p.length → row = p ++ r → acc.length ≤ 2 * i →
  Ev (fun k => impl_LevelWires.l0 k kk lv acc row row.length i a gs os) (lwOut a gs (lv.getD kk []) r i acc, true) := by
 induction r with
 | nil =>
  intro p i acc hi e hac
  have hlen : row.length = p.length := by rw [e]; simp
  apply ev_up
  simp only [impl_LevelWires.l0]
  exact ev_n (by omega) (Ev.now _)
 | cons x r ih =>
  intro p i acc hi e hac
  have hlen : row.length = p.length + r.length + 1 := by rw [e]; simp; omega
  have hx : rd row (i : Int) = x := by rw [e]; exact rdA (by omega)
  have hxb := hin x (by rw [e]; simp)
  have hen := lwEnds_length (rd_T57 gs (x - a))
  have hac2 := lwIn_length (lv.getD kk []) i (lwEnds (rd_T57 gs (x - a))) acc
  have ih' := ih (p ++ [x]) (i + 1) (lwIn (lv.getD kk []) i (lwEnds (rd_T57 gs (x - a))) acc) (by simp; omega) (by rw [e]; simp) (by omega)
  have hl1 := impl_LevelWires_l1 a gs os kk lv hlv hkk hrow row hr i (by omega) (lwEnds (rd_T57 gs (x - a))) hen (lwOut a gs (lv.getD kk []) (x :: r) i acc, true) (lwEnds (rd_T57 gs (x - a))) [] 0 acc rfl rfl (by omega) (by
   rw [wN (n := (i : Int) + 1) (m := i + 1) (by omega) (by omega), lwOut]
   exact ih')
  apply ev_up
  simp only [impl_LevelWires.l0]
  refine ev_p (by omega) (ev_p (by omega) (ev_p (by omega) ?_))
  rw [hx, w64 (n := x - a) (by omega) (by omega)]
  refine ev_p (by omega) (ev_p (by omega) ?_)
  simp only [Option.bind_some]
  refine ev_ite (fun c => ev_p (by simp) ?_) (fun c => ?_)
  ·apply ev_up
   simp only [impl_LevelWires.j2]
   unfold lwEnds at hl1
   rw [if_pos c] at hl1
   exact hl1
  ·apply ev_up
   simp only [impl_LevelWires.j2]
   unfold lwEnds at hl1
   rw [if_neg c] at hl1
   exact hl1
theorem impl_LevelWires_ev (n : Int) (gs : List S57) (os : List Int) (kk : Int) (hk : I64 kk) (hg : gs.length ≤ 1048576) (ho : os.length ≤ 1048576) : Ev (fun g => impl_LevelWires.f g n gs os kk) (lvWiresM n gs os kk) := by
 unfold impl_LevelWires.f
 refine Ev.bind (impl_IsCircuit_ev n gs os hg ho) (ev_ite (fun h => ?_) (fun h => ?_))
 ·obtain ⟨a, rfl, ha, hg', _⟩ := circuitM_of h
  obtain ⟨h1, h2⟩ := levelsM_ok ha hg'
  have hlv := impl_levelsOf_ev a gs os h
  apply ev_up
  simp only [impl_LevelWires.j0]
  unfold lvWiresM
  simp only [Int.toNat_natCast]
  by_cases c0 : kk < 0
  ·rw [if_neg (fun hh => by omega)]
   exact ev_p (by simpa using c0) (Ev.now _)
  ·refine ev_n (by simpa using c0) (Ev.bind hlv ?_)
   rw [w64 (n := ((levelsM a gs).length : Int) - 2) (by omega) (by omega)]
   refine ev_ite (fun c => ?_) (fun c => ?_)
   ·rw [if_neg (fun hh => by omega)]
    exact Ev.now _
   ·rw [if_pos ⟨h, by omega, by omega⟩]
    obtain ⟨q, rfl⟩ : ∃ q : Nat, kk = q := ⟨kk.toNat, by omega⟩
    rw [wN (n := (q : Int) + 1) (m := q + 1) (by omega) (by omega)]
    refine ev_p (by omega) (ev_p (by omega) ?_)
    have hrr : rd_L2 (levelsM a gs) ((q + 1 : Nat) : Int) = (levelsM a gs).getD (q + 1) [] := by
     show (levelsM a gs).getD ((q + 1 : Nat) : Int).toNat [] = _
     rw [Int.toNat_natCast]
    rw [hrr, Int.toNat_natCast]
    exact impl_LevelWires_l0 a ha gs hg' os q (levelsM a gs) h1 (by omega) h2 _ (rows_getD h2 _) (levelsM_in q) _ [] 0 [] rfl rfl (by simp)
 ·unfold lvWiresM
  rw [if_neg (fun hh => h hh.1)]
  apply ev_up
  simp only [impl_LevelWires.j0]
  exact ev_p trivial (Ev.now _)
/-! #### levelsOf -/
def levelsOfM (n : Int) (gs : List S57) (os : List Int) : List (List Int) × Bool := if circuitM n gs os = true then (levelsM n.toNat gs, true) else ([], false)
theorem levelsOfM_length (n : Int) (gs : List S57) (os : List Int) : (levelsOfM n gs os).1.length ≤ 400 ∧ ∀ y ∈ (levelsOfM n gs os).1, y.length ≤ 20 := by
 unfold levelsOfM
 split
 ·rename_i h
  obtain ⟨a, rfl, ha, hg, _⟩ := circuitM_of h
  obtain ⟨h1, h2⟩ := levelsM_ok ha hg
  simp only [Int.toNat_natCast]
  exact ⟨by omega, h2⟩
 ·simp
theorem spec_LevelsOf_ev (n : Int) (gs : List S57) (os : List Int) (hn : I64 n) (hg : gs.length ≤ 1048576) (ho : os.length ≤ 1048576) : Ev (fun g => spec_LevelsOf.f g n gs os) (levelsOfM n gs os) := by
 unfold spec_LevelsOf.f levelsOfM
 refine Ev.bind (spec_ciGood_ev n gs os hn hg ho) (ev_ite (fun h => ?_) (fun h => ?_))
 ·obtain ⟨a, rfl, _⟩ := circuitM_of h
  rw [if_pos h, Int.toNat_natCast]
  exact Ev.bind (spec_plLevels_ev a gs os h) (Ev.now _)
 ·rw [if_neg h]
  exact Ev.now _
/-! #### FnCrossings -/
section
variable (more : List Int) (m : Nat) (hm : m ≤ 7) (T : Nat → Nat → Nat) (hT : ∀ i k, T i k ≤ 900) (hD : ∀ i, T i i = 0) (c : Int)
include hm hT hD
theorem fc_l1 (i : Nat) (hi : i < m) (d : Nat) : ∀ (k acc : Nat), k + d = m → acc + 900 * d ≤ 1000000 →
  Ev (fun g => laws_FnCrossings.l0 g more (mkT m T) c true c true ((acc + rowR T i k d : Nat) : Int) (m : Int) ((i : Int) + 1)) true →
  Ev (fun g => laws_FnCrossings.l1 g more (mkT m T) c true c true (acc : Int) (i : Int) (m : Int) (i : Int) (m : Int) (k : Int)) true := by
 induction d with
 | zero =>
  intro k acc hk _ h
  apply ev_up
  simp only [laws_FnCrossings.l1]
  rw [w64 (n := (i : Int) + 1) (by omega) (by omega)]
  exact ev_n (by omega) h
 | succ d ih =>
  intro k acc hk ha h
  have hkm : k < m := by omega
  have e1 := mkT_rd (T := T) hi
  have e2 := mkRow_rd (f := T i) hkm
  have h1 := hT i k
  apply ev_up
  simp only [laws_FnCrossings.l1]
  rw [e1, e2, mkT_length, mkRow_length, w64 (n := (k : Int) + 1) (by omega) (by omega), w64 (n := (acc : Int) + ((T i k : Nat) : Int)) (by omega) (by omega)]
  by_cases c1 : i < k
  ·refine ev_p (by omega) (ev_p (by omega) (ev_p (by omega) (ev_p (by omega) (ev_p (by omega) (ev_p (by omega) (ev_n (by omega) (ev_n (by omega) ?_)))))))
   rw [show (acc : Int) + ((T i k : Nat) : Int) = ((acc + T i k : Nat) : Int) from by omega, show (k : Int) + 1 = ((k + 1 : Nat) : Int) from by omega]
   refine ih (k + 1) (acc + T i k) (by omega) (by omega) ?_
   rw [rowR, if_pos c1, ← Nat.add_assoc] at h
   exact h
  ·rw [rowR, if_neg c1, Nat.zero_add] at h
   have ih' := ih (k + 1) acc (by omega) (by omega) h
   rw [show ((k + 1 : Nat) : Int) = (k : Int) + 1 from by omega] at ih'
   refine ev_p (by omega) (ev_n (by omega) (ev_p (by omega) (ev_p (by omega) (ev_p (by omega) (ev_p (by omega) (ev_n (by omega) ?_))))))
   by_cases c2 : i = k
   ·have := hD i
    rw [c2] at this
    rw [← c2] at this ih' ⊢
    exact ev_p rfl (ev_p (by rw [hD i]; rfl) ih')
   ·exact ev_n (by omega) ih'
theorem fc_l0 (h2 : Ev (fun g => laws_FnCrossings.j2 g more) true) (d : Nat) : ∀ (i acc : Nat), i + d = m → acc + 6300 * d ≤ 100000 → ((acc + triR T m i d : Nat) : Int) = c →
  Ev (fun g => laws_FnCrossings.l0 g more (mkT m T) c true c true (acc : Int) (m : Int) (i : Int)) true := by
 induction d with
 | zero =>
  intro i acc hi _ h
  apply ev_up
  simp only [laws_FnCrossings.l0]
  refine ev_n (by omega) ?_
  simp only [if_true]
  exact ev_p h h2
 | succ d ih =>
  intro i acc hi ha h
  have him : i < m := by omega
  have e1 := mkT_rd (T := T) him
  have h1 := rowR_le hT i m 0
  apply ev_up
  simp only [laws_FnCrossings.l0]
  rw [e1, mkT_length, mkRow_length]
  refine ev_p (by omega) (ev_p (by omega) (ev_p (by omega) ?_))
  rw [triR, ← Nat.add_assoc] at h
  refine fc_l1 more m hm T hT hD c i him m 0 acc (by omega) (by omega) ?_
  rw [show (i : Int) + 1 = ((i + 1 : Nat) : Int) from by omega]
  exact ih (i + 1) (acc + rowR T i 0 m) (by omega) (by omega) h
end
theorem okO_all {m : Nat} (r : List Int) : ∀ p, okO m p r = true → ∀ x ∈ r, 0 ≤ x ∧ x < m := by
 induction r with
 | nil => intro p _ x hx; simp at hx
 | cons y r ih =>
  intro p h x hx
  rw [okO, Bool.and_eq_true, decide_eq_true_eq] at h
  rcases List.mem_cons.1 hx with rfl | hx
  ·exact ⟨h.1.1, h.1.2.1⟩
  ·exact ih _ h.2 x hx
theorem move_good {l : List (List Int)} {m : Int} {o : List Int} (h : levelWiresM l m = true) (ho : okO m.toNat [] o = true) (hl : o.length = m.toNat) : levelWiresM (l.map (moveP o)) m = true := by
 have h0 := h
 obtain ⟨h1, h2, h3, h4⟩ := levelWiresM_of h
 unfold levelWiresM at h ⊢
 rw [Bool.and_eq_true] at h ⊢
 refine ⟨by rw [List.length_map]; exact h.1, ?_⟩
 rw [List.all_eq_true]
 intro w hw
 obtain ⟨v, hv, rfl⟩ := List.mem_map.1 hw
 obtain ⟨a, b, rfl, ha, hb, hc, hd⟩ := h4 v hv
 have hb2 : rd [a, b] 1 = b := rfl
 have := okO_all o [] ho (rd o b) (rd_mem hc (by omega))
 unfold moveP
 rw [hb2]
 show decide (0 ≤ a ∧ a ≤ 29 ∧ 0 ≤ rd o b ∧ rd o b < m) = true
 exact decide_eq_true ⟨ha, hb, this.1, by omega⟩
theorem fc_l2 (more : List Int) (l : List (List Int)) (m : Nat) (hl : l.length ≤ 30) (hw : ∀ w ∈ l, isW m w) (o : List Int) (ho : o.length = m) (v : List (List Int)) (mm : Int) (hE : Ev (fun k => impl_AreLevelWires.f k v mm) true) (h4 : Ev (fun k => laws_FnCrossings.j4 k more) true) (r : List (List Int)) :
  ∀ (p : List (List Int)) (i : Int), i = p.length → l = p ++ r → Ev (fun k => laws_FnCrossings.l2 k more l mm o v (l.map (moveP o)) l.length i) true := by
 induction r with
 | nil =>
  intro p i hi e
  have hlen : l.length = p.length := by rw [e]; simp
  apply ev_up
  simp only [laws_FnCrossings.l2]
  exact ev_n (by omega) (Ev.bind hE (ev_p rfl h4))
 | cons x r ih =>
  intro p i hi e
  have hlen : l.length = p.length + r.length + 1 := by rw [e]; simp; omega
  have hx : rd_L2 l i = x := by rw [e]; exact getDA hi
  have hy : rd_L2 (l.map (moveP o)) i = moveP o x := by
   rw [e, List.map_append, List.map_cons]
   exact getDA (by rw [List.length_map]; exact hi)
  obtain ⟨h1, h2, h3, h5, h6⟩ := isW_facts (hw x (by rw [e]; simp))
  have ih' := ih (p ++ [x]) (i + 1) (by simp; omega) (by rw [e]; simp)
  have q0 : rd (moveP o x) 0 = rd x 0 := rfl
  have q1 : rd (moveP o x) 1 = rd o (rd x 1) := rfl
  have q2 : (moveP o x).length = 2 := rfl
  apply ev_up
  simp only [laws_FnCrossings.l2]
  rw [hx, hy, q0, q1, q2, List.length_map, w64 (n := i + 1) (by omega) (by omega)]
  exact ev_p (by omega) (ev_p (by omega) (ev_p (by omega) (ev_p (by omega) (ev_p (by omega) (ev_p (by omega) (ev_p rfl (ev_p (by omega) (ev_p (by omega) (ev_p (by omega) (ev_p (by omega) (ev_p rfl ih')))))))))))
theorem place_spec (v : Int) (r : List Int) : ∀ (p : List Int) (i : Int), i = p.length → 0 ≤ placeM v i r → placeM v i r < ((p ++ r).length : Int) ∧ rd (p ++ r) (placeM v i r) = v := by
 induction r with
 | nil => intro p i hi h; simp [placeM] at h
 | cons x r ih =>
  intro p i hi h
  rw [placeM] at h ⊢
  by_cases c : v = x
  ·rw [if_pos c]
   exact ⟨by simp; omega, by rw [rdA hi, c]⟩
  ·rw [if_neg c] at h ⊢
   have := ih (p ++ [x]) (i + 1) (by simp; omega) h
   rw [List.append_assoc] at this
   exact this
def goodLW (a : Nat) (gs : List S57) (row0 row : List Int) (w : List Int) : Prop := ∃ x0 x1 : Int, w = [x0, x1] ∧ 0 ≤ x0 ∧ x0 < row0.length ∧ 0 ≤ x1 ∧ x1 < row.length ∧ (rd row0 x0 = (rd_T57 gs (rd row x1 - a)).f1 ∨ rd row0 x0 = (rd_T57 gs (rd row x1 - a)).f2)
theorem lwIn_good {a : Nat} {gs : List S57} {row0 row : List Int} (x1 : Int) (h0 : 0 ≤ x1) (h1 : x1 < row.length) (r : List Int) : ∀ acc, (∀ e ∈ r, e = (rd_T57 gs (rd row x1 - a)).f1 ∨ e = (rd_T57 gs (rd row x1 - a)).f2) → (∀ w ∈ acc, goodLW a gs row0 row w) → ∀ w ∈ lwIn row0 x1 r acc, goodLW a gs row0 row w := by
 induction r with
 | nil => intro acc _ h; exact h
 | cons e r ih =>
  intro acc he h
  rw [lwIn]
  refine ih _ (fun z hz => he z (by simp [hz])) ?_
  split
  ·rename_i hp
   intro w hw
   rcases List.mem_append.1 hw with hw | hw
   ·exact h w hw
   ·rw [List.mem_singleton] at hw
    have := place_spec e row0 [] 0 rfl hp
    rw [List.nil_append] at this
    refine ⟨_, _, hw, hp, this.1, h0, h1, ?_⟩
    rw [this.2]
    exact he e (by simp)
  ·exact h
theorem lwOut_good {a : Nat} {gs : List S57} {row0 row : List Int} (r : List Int) : ∀ (p : List Int) (i : Nat) (acc : List (List Int)), i = p.length → row = p ++ r → (∀ w ∈ acc, goodLW a gs row0 row w) → ∀ w ∈ lwOut a gs row0 r i acc, goodLW a gs row0 row w := by
 induction r with
 | nil => intro p i acc _ _ h; exact h
 | cons x r ih =>
  intro p i acc hi e h
  rw [lwOut]
  refine ih (p ++ [x]) (i + 1) _ (by simp; omega) (by rw [e]; simp) ?_
  have hx : rd row (i : Int) = x := by rw [e]; exact rdA (by omega)
  refine lwIn_good (i : Int) (by omega) (by rw [e]; simp; omega) _ acc ?_ h
  rw [hx]
  intro z hz
  unfold lwEnds at hz
  split at hz
  ·rw [List.mem_singleton] at hz; exact .inl hz
  ·simp only [List.mem_cons, List.not_mem_nil, or_false] at hz; exact hz
theorem fc_l3 (a : Nat) (ha : a ≤ 4) (gs : List S57) (hg : gs.length ≤ 16) (os : List Int) (kk : Nat) (hk : kk ≤ 1000) (lv : List (List Int)) (hlv : lv.length ≤ 40) (hkk : kk + 1 < lv.length) (hin : ∀ y ∈ lv.getD (kk + 1) [], (a : Int) ≤ y ∧ y < a + gs.length) (ws : List (List Int)) (hws : ws.length ≤ 1000) (hg2 : ∀ w ∈ ws, goodLW a gs (lv.getD kk []) (lv.getD (kk + 1) []) w) (r : List (List Int)) :
  ∀ (p : List (List Int)) (i : Int), i = p.length → ws = p ++ r → Ev (fun k => laws_FnCrossings.l3 k (kk : Int) lv ws ws.length i (a : Int) gs os) true := by
 induction r with
 | nil =>
  intro p i hi e
  have hlen : ws.length = p.length := by rw [e]; simp
  apply ev_up
  simp only [laws_FnCrossings.l3]
  exact ev_n (by omega) (Ev.now _)
 | cons x r ih =>
  intro p i hi e
  have hlen : ws.length = p.length + r.length + 1 := by rw [e]; simp; omega
  have hx : rd_L2 ws i = x := by rw [e]; exact getDA hi
  obtain ⟨x0, x1, hxe, h0, h1, h2, h3, h4⟩ := hg2 x (by rw [e]; simp)
  have ih' := ih (p ++ [x]) (i + 1) (by simp; omega) (by rw [e]; simp)
  have q0 : rd x 0 = x0 := by rw [hxe]; rfl
  have q1 : rd x 1 = x1 := by rw [hxe]; rfl
  have q2 : x.length = 2 := by rw [hxe]; rfl
  have r0 : rd_L2 lv (kk : Int) = lv.getD kk [] := rfl
  have r1 : rd_L2 lv ((kk : Int) + 1) = lv.getD (kk + 1) [] := by
   show lv.getD ((kk : Int) + 1).toNat [] = _
   rw [show ((kk : Int) + 1).toNat = kk + 1 from by omega]
  have hy := hin (rd (lv.getD (kk + 1) []) x1) (rd_mem h2 h3)
  apply ev_up
  simp only [laws_FnCrossings.l3]
  rw [hx, q0, q1, q2, w64 (n := (kk : Int) + 1) (by omega) (by omega), r0, r1, w64 (n := rd (lv.getD (kk + 1) []) x1 - (a : Int)) (by omega) (by omega), w64 (n := i + 1) (by omega) (by omega)]
  refine ev_p (by omega) (ev_p (by omega) (ev_p (by omega) (ev_p (by omega) (ev_p (by omega) (ev_p (by omega) (ev_p (by omega) (ev_p (by omega) (ev_p (by omega) (ev_p (by omega) (ev_p (by omega) (ev_p (by omega) (ev_p (by omega) (ev_p (by omega) (ev_p (by omega) ?_))))))))))))))
  by_cases c : rd (lv.getD kk []) x0 = (rd_T57 gs (rd (lv.getD (kk + 1) []) x1 - (a : Int))).f1
  ·exact ev_p c ih'
  ·exact ev_n c (ev_p (h4.resolve_left c) ih')
theorem fc_j4 (more : List Int) (hc : bytesOk more) : Ev (fun k => laws_FnCrossings.j4 k more) true := by
 obtain ⟨n, gs, os, kk, e, hn, hg, ho, hk⟩ := DrawLevelWires_ok hc
 apply ev_up
 simp only [laws_FnCrossings.j4]
 simp only [e, Option.bind_some]
 have hlen := lvWiresM_length n gs os kk
 refine Ev.bind (impl_LevelWires_ev n gs os kk ⟨by omega, by omega⟩ (by omega) (by omega)) (Ev.bind (spec_LevelWires_ev n gs os kk ⟨by omega, by omega⟩ ⟨by omega, by omega⟩ (by omega) (by omega)) ?_)
 refine ev_n (by simp) (Ev.bind (sameLists_self _ (by omega) (fun y hy => by have := hlen.2 y hy; omega)) (ev_p rfl ?_))
 by_cases h : (lvWiresM n gs os kk).2 = true
 ·refine ev_p h (Ev.bind (spec_LevelsOf_ev n gs os ⟨by omega, by omega⟩ (by omega) (by omega)) ?_)
  have hC : circuitM n gs os = true ∧ 0 ≤ kk ∧ kk ≤ ((levelsM n.toNat gs).length : Int) - 2 := by
   unfold lvWiresM at h
   split at h
   ·assumption
   ·simp at h
  have e1 : lvWiresM n gs os kk = (lwOut n.toNat gs ((levelsM n.toNat gs).getD kk.toNat []) ((levelsM n.toNat gs).getD (kk.toNat + 1) []) 0 [], true) := by
   unfold lvWiresM
   rw [if_pos hC]
  have e2 : levelsOfM n gs os = (levelsM n.toNat gs, true) := by
   unfold levelsOfM
   rw [if_pos hC.1]
  obtain ⟨a, rfl, ha, hg2, _⟩ := circuitM_of hC.1
  obtain ⟨q, rfl⟩ := Int.eq_ofNat_of_zero_le hC.2.1
  obtain ⟨hl1, hl2⟩ := levelsM_ok (a := a) (gs := gs) ha hg2
  simp only [Int.toNat_natCast] at e1 e2 hC
  rw [e1] at hlen
  have hl9 : (lwOut a gs ((levelsM a gs).getD q []) ((levelsM a gs).getD (q + 1) []) 0 []).length ≤ 400 := hlen.1
  rw [e1, e2]
  refine ev_p rfl ?_
  dsimp only
  rw [w64 (n := (q : Int) + 1) (by omega) (by omega)]
  refine ev_n (by omega) ?_
  exact fc_l3 a ha gs hg2 os q (by omega) (levelsM a gs) hl1 (by omega) (levelsM_in q) (lwOut a gs ((levelsM a gs).getD q []) ((levelsM a gs).getD (q + 1) []) 0 []) (by omega) (lwOut_good _ [] 0 [] rfl rfl (by simp)) _ [] 0 rfl rfl
 ·exact ev_n h (Ev.now _)
theorem fc_j2 (more : List Int) (hc : bytesOk more) : Ev (fun k => laws_FnCrossings.j2 k more) true := by
 obtain ⟨l, mm, o, e, hm, hl, hy, ho⟩ := DrawMovePoints_ok hc
 have h4 := fc_j4 more hc
 apply ev_up
 simp only [laws_FnCrossings.j2]
 simp only [e, Option.bind_some]
 have hlen := movePointsM_length l mm o
 refine Ev.bind (impl_MovePoints_ev l mm o (by omega) (by omega)) (Ev.bind (spec_MovePoints_ev l mm o ⟨by omega, by omega⟩ (by omega) (by omega)) ?_)
 refine ev_n (by simp) (Ev.bind (sameLists_self _ (by omega) (fun y hy => by have := hlen.2 y hy; omega)) (ev_p rfl ?_))
 by_cases h : (movePointsM l mm o).2 = true
 ·have hC : levelWiresM l mm = true ∧ (okO mm.toNat [] o && decide (o.length = mm.toNat)) = true := by
   unfold movePointsM at h
   split at h
   ·assumption
   ·simp at h
  have e1 : movePointsM l mm o = (l.map (moveP o), true) := by
   unfold movePointsM
   rw [if_pos hC]
  have h2 := hC.2
  rw [Bool.and_eq_true, decide_eq_true_eq] at h2
  have hE := impl_AreLevelWires_ev (l.map (moveP o)) mm (by rw [List.length_map]; omega)
  rw [move_good hC.1 h2.1 h2.2] at hE
  obtain ⟨g1, g2, g3, g4⟩ := levelWiresM_of hC.1
  refine ev_p h ?_
  rw [e1]
  have := fc_l2 more l mm.toNat g3 (fun w hw => by have := g4 w hw; rw [show ((mm.toNat : Nat) : Int) = mm from by omega]; exact this) o h2.2 (l.map (moveP o)) mm hE h4 l [] 0 rfl rfl
  rw [show (((l.map (moveP o)).length : Nat) : Int) = (l.length : Int) from by rw [List.length_map]]
  exact this
 ·exact ev_n h h4
theorem FnCrossings : laws_FnCrossings.Pure := by
 intro l0 l1 _ h1 h2 _ h3 h4
 apply ev_get
 have hc0 := bytes_of h1 h2
 have hc1 := bytes_of h3 h4
 unfold laws_FnCrossings.f
 obtain ⟨b, hb⟩ : ∃ b, laws_big.f l0 l1 = some b := by
  unfold laws_big.f
  split <;> exact ⟨_, rfl⟩
 simp only [hb, Option.bind_some]
 cases b with
 | true => exact ev_p rfl (Ev.now _)
 | false =>
  refine ev_n (by decide) ?_
  obtain ⟨l, mm, e, hm, hl, hy⟩ := DrawCrossingTable_ok hc0
  simp only [e, Option.bind_some]
  have hj2 := fc_j2 l1 hc1
  have hlen := crossingTableM_length l mm
  refine Ev.bind (impl_CrossingTable_ev l mm (by omega)) (Ev.bind (spec_CrossingTable_ev l mm ⟨by omega, by omega⟩ (by omega)) ?_)
  refine ev_n (by simp) (Ev.bind (sameLists_self _ (by omega) (fun y hy => by have := hlen.2 y hy; omega)) (ev_p rfl ?_))
  by_cases h : (crossingTableM l mm).2 = true
  ·have hC : levelWiresM l mm = true := by
    unfold crossingTableM at h
    split at h
    ·assumption
    ·simp at h
   have e1 : crossingTableM l mm = (tabM l mm.toNat, true) := by
    unfold crossingTableM
    rw [if_pos hC]
   have e2 : countM l mm = (((cntM [] l : Nat) : Int), true) := by
    unfold countM
    rw [if_pos hC]
   obtain ⟨n, rfl, hn1, hn2, hn3, hw⟩ := levelWires_nat hC
   refine ev_p h (Ev.bind (impl_CountCrossings_ev l (n : Int) (by omega)) (Ev.bind (spec_CountCrossings_ev l (n : Int) ⟨by omega, by omega⟩ (by omega)) ?_))
   rw [e1, e2, Int.toNat_natCast]
   show Ev (fun g => laws_FnCrossings.l0 g l1 (mkT n (tabP l l)) _ true _ true 0 ((mkT n (tabP l l)).length : Int) 0) true
   rw [mkT_length]
   exact fc_l0 l1 n hn2 (tabP l l) (tabP900 hn3) (tab_diag l l) _ hj2 n 0 0 (by omega) (by omega) (by rw [tri_cnt l hw, Nat.zero_add])
  ·exact ev_n h hj2
end Go.Proofs.Ytbkighlfgaifeaa.Pure
