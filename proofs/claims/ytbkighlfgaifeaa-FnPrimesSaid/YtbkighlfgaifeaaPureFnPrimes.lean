/- The pure part of the law FnPrimes: what the program and the reference compute is the same, for all arguments. Conditions: the numbers are of Go's int, the lengths of slices are. -/
import Derived.Test.YtbkighlfgaifeaaSFnPrimesx15
import Derived.Test.YtbkighlfgaifeaaVPrKit
set_option linter.unusedVariables false
set_option linter.unusedSimpArgs false
namespace Go.Proofs.Ytbkighlfgaifeaa.Pure
open Go.RowKit Go.Proofs.Ytbkighlfgaifeaa.QFnPrimes Go.Proofs.YtbkighlfgaifeaaW.PrintWords Go.Proofs.YtbkighlfgaifeaaW.PrintLast Go.Proofs.Ytbkighlfgaifeaa.Open Go.Proofs.Ytbkighlfgaifeaa.Kit
/-! #### rdMem -/
theorem rd_mem {ds : List Int} {i : Int} (h0 : 0 ≤ i) (h1 : i < ds.length) : rd ds i ∈ ds := by
 obtain ⟨n, rfl⟩ := nat_of h0
 have hn : n < ds.length := by omega
 rw [rdN hn]
 exact List.getElem_mem hn
/-! #### drawD -/
/-- What a cursor reads: bytes. -/
def bytesOk (code : List Int) : Prop := code.length ≤ 140737488355328 ∧ ∀ x ∈ code, 0 ≤ x ∧ x ≤ 255
theorem bits255 (y : Int) : 0 ≤ wrap64 (Go.bits .and .u64 y 255) ∧ wrap64 (Go.bits .and .u64 y 255) ≤ 255 := by
 show 0 ≤ wrap64 (IntKind.u64.wrap ((BitVec.ofInt 64 y &&& BitVec.ofInt 64 255).toNat : Int)) ∧ wrap64 (IntKind.u64.wrap ((BitVec.ofInt 64 y &&& BitVec.ofInt 64 255).toNat : Int)) ≤ 255
 have h : (BitVec.ofInt 64 y &&& BitVec.ofInt 64 255).toNat ≤ 255 := by
  rw [BitVec.toNat_and]
  exact Nat.le_trans Nat.and_le_right (by decide)
 generalize (BitVec.ofInt 64 y &&& BitVec.ofInt 64 255).toNat = m at h
 rw [u64w (by omega) (by omega), w64 (n := (m : Int)) (by omega) (by omega)]
 omega
theorem next_ok {code : List Int} (hc : bytesOk code) (at_ mix : Int) (h0 : 0 ≤ at_) (h1 : at_ ≤ 1000000000) : ∃ r m, spec_l1Cur_next.f code at_ mix = some (r, at_ + 1, m) ∧ 0 ≤ r ∧ r ≤ 255 := by
 unfold spec_l1Cur_next.f
 rw [w64 (n := at_ + 1) (by omega) (by omega)]
 by_cases c1 : at_ < (code.length : Int)
 ·have hm := hc.2 (rd code at_) (rd_mem h0 c1)
  rw [if_pos c1, if_pos h0, if_pos (by omega), w64 (n := rd code at_) (by omega) (by omega)]
  exact ⟨_, _, rfl, hm.1, hm.2⟩
 ·rw [if_neg c1, if_neg (by omega)]
  exact ⟨_, _, rfl, (bits255 _).1, (bits255 _).2⟩
theorem pick_ok {code : List Int} (hc : bytesOk code) (at_ mix n : Int) (h0 : 0 ≤ at_) (h1 : at_ ≤ 999999990) : ∃ r a m, spec_l1Cur_pick.f code at_ mix n = some (r, a, m) ∧ (at_ ≤ a ∧ a ≤ at_ + 2) ∧ 0 ≤ r ∧ (r = 0 ∨ r < n) := by
 unfold spec_l1Cur_pick.f
 by_cases c : n ≤ 1
 ·rw [if_pos c]
  exact ⟨0, at_, mix, rfl, by omega, by omega, .inl rfl⟩
 ·rw [if_neg c]
  obtain ⟨r, m, e, hr0, hr1⟩ := next_ok hc at_ mix h0 (by omega)
  rw [e, Option.bind_some]
  by_cases c2 : n > 200
  ·obtain ⟨r2, m2, e2, hs0, hs1⟩ := next_ok hc (at_ + 1) m (by omega) (by omega)
   rw [if_pos c2, e2, Option.bind_some, if_neg (by omega)]
   dsimp only
   rw [w64 (n := r * 256) (by omega) (by omega), w64 (n := r * 256 + r2) (by omega) (by omega)]
   exact ⟨_, _, _, rfl, by omega, Int.tmod_nonneg _ (by omega), .inr (Int.tmod_lt_of_pos _ (by omega))⟩
  ·rw [if_neg c2, if_neg (by omega)]
   dsimp only
   exact ⟨_, _, _, rfl, by omega, Int.tmod_nonneg _ (by omega), .inr (Int.tmod_lt_of_pos _ (by omega))⟩
theorem among_ok {code : List Int} (hc : bytesOk code) (at_ mix : Int) (l : List Int) (hl : 0 < l.length) (h0 : 0 ≤ at_) (h1 : at_ ≤ 999999990) : ∃ r a m, spec_l1Cur_among.f code at_ mix l = some (r, a, m) ∧ (at_ ≤ a ∧ a ≤ at_ + 2) ∧ r ∈ l := by
 unfold spec_l1Cur_among.f
 obtain ⟨r, a, m, e, ha, hr0, hr1⟩ := pick_ok hc at_ mix (l.length : Int) h0 h1
 have hr2 : r < (l.length : Int) := by omega
 rw [e, Option.bind_some]
 dsimp only
 rw [if_pos hr0, if_pos hr2]
 exact ⟨_, _, _, rfl, ha, rd_mem hr0 hr2⟩
theorem one_ok {code : List Int} (hc : bytesOk code) (at_ mix n : Int) (h0 : 0 ≤ at_) (h1 : at_ ≤ 999999990) : ∃ r a m, spec_l1Cur_one.f code at_ mix n = some (r, a, m) ∧ (at_ ≤ a ∧ a ≤ at_ + 2) := by
 unfold spec_l1Cur_one.f
 obtain ⟨r, a, m, e, ha, _⟩ := pick_ok hc at_ mix n h0 h1
 rw [e, Option.bind_some]
 exact ⟨_, _, _, rfl, ha⟩
theorem bytes_of {l : List Int} (h1 : l.length * 1 ≤ 140737488351232) (h2 : ∀ x ∈ l, (Lit.int .u8 x).wf = true) : bytesOk l := by
 refine ⟨by omega, fun x hx => ?_⟩
 have := h2 x hx
 simp [Lit.wf, IntKind.min, IntKind.max, IntKind.bits, IntKind.signed] at this
 omega
/-! #### bitN -/
theorem bit_and1 (a n : Nat) (ha : a < 2 ^ 62) (hn : n ≤ 62) : Go.bits .and .i64 (shr .i64 (a : Int) (n : Int)) 1 = (((a >>> n) % 2 : Nat) : Int) := by
 rw [shrN a n hn]
 have h : a >>> n ≤ a := Nat.shiftRight_le a n
 have := andN (a >>> n) 1 (by omega) (by omega)
 rw [Nat.and_one_is_mod] at this
 exact this
/-! #### spec_ttBit -/
theorem spec_ttBit_eq (a n : Nat) (ha : a < 2 ^ 62) (hn : n ≤ 62) : spec_ttBit.f (a : Int) (n : Int) = some (((a >>> n) % 2 : Nat) : Int) := by
 unfold spec_ttBit.f
 rw [u64w (by omega) (by omega), if_pos (by omega), bit_and1 a n ha hn]
/-! #### tabD -/
/-- The draws of tables and terms: each returns. -/
theorem tableOf_l1 (a i : Nat) (ha : a ≤ 4) (hi : i < 16) (c : List Int) (at_ m n : Int) (xs : List Int) (hx : xs.length ≤ 1000) (d : Nat) : ∀ (s j : Nat), j + d = a → s ≤ j →
  ∃ b : Int, ∀ v, Ev (fun k => spec_l1Cur_tableOf.l0 k a 8 (wrap64 ((i : Int) + 1)) c at_ m n (xs ++ [b])) v → Ev (fun k => spec_l1Cur_tableOf.l1 k a 8 i s j c at_ m n xs) v := by
 induction d with
 | zero =>
  intro s j hj hs
  refine ⟨Int.tmod (wrap64 (Int.tdiv (s : Int) 2)) 2, fun v hv => ?_⟩
  apply ev_up
  simp only [spec_l1Cur_tableOf.l1]
  exact ev_n (by omega) (ev_p (by omega) hv)
 | succ d ih =>
  intro s j hj hs
  obtain ⟨b, hb⟩ := ih (s + (i >>> j) % 2) (j + 1) (by omega) (by omega)
  refine ⟨b, fun v hv => ?_⟩
  apply ev_up
  simp only [spec_l1Cur_tableOf.l1]
  refine ev_p (by omega) ?_
  rw [spec_ttBit_eq i j (by omega) (by omega)]
  refine Ev.bind (ev_c rfl) ?_
  rw [wN (m := s + (i >>> j) % 2) (by push_cast; rfl) (by omega), wN (m := j + 1) (by push_cast; rfl) (by omega)]
  exact hb v hv
theorem tableOf_l0 {c : List Int} (hc : bytesOk c) (a : Nat) (ha : a ≤ 4) (x6 n : Int) (d : Nat) : ∀ (i : Nat) (at_ m : Int) (xs : List Int), i + d = 2 ^ a → 0 ≤ at_ → at_ + 2 * d ≤ 999000000 → xs.length = i →
  ∃ ys a' m', Ev (fun k => spec_l1Cur_tableOf.l0 k a x6 i c at_ m n xs) (n, ys, a', m') ∧ (at_ ≤ a' ∧ a' ≤ at_ + 2 * d) ∧ ys.length = 2 ^ a := by
 have h8 : 2 ^ a ≤ 2 ^ 4 := Nat.pow_le_pow_right (by decide) ha
 induction d with
 | zero =>
  intro i at_ m xs hi h0 h1 hx
  refine ⟨xs, at_, m, ?_, by omega, by omega⟩
  apply ev_up
  simp only [spec_l1Cur_tableOf.l0]
  rw [u64w (by omega) (by omega), shl1 a (by omega)]
  exact ev_p (by omega) (ev_n (by omega) (Ev.now _))
 | succ d ih =>
  intro i at_ m xs hi h0 h1 hx
  by_cases c8 : x6 = 8
  ·subst c8
   obtain ⟨b, hb⟩ := tableOf_l1 a i ha (by omega) c at_ m n xs (by omega) a 0 0 (by omega) (by omega)
   obtain ⟨ys, a', m', e, hr, hl⟩ := ih (i + 1) at_ m (xs ++ [b]) (by omega) h0 (by omega) (by simp; omega)
   refine ⟨ys, a', m', ?_, by omega, hl⟩
   apply ev_up
   simp only [spec_l1Cur_tableOf.l0]
   rw [u64w (by omega) (by omega), shl1 a (by omega)]
   refine ev_p (by omega) (ev_p (by omega) (ev_p (by trivial) (hb _ ?_)))
   rw [wN (m := i + 1) (by push_cast; rfl) (by omega)]
   exact e
  ·obtain ⟨b, a1, m1, e1, ha1⟩ := one_ok hc at_ m x6 h0 (by omega)
   cases b with
   | true =>
    obtain ⟨ys, a', m', e, hr, hl⟩ := ih (i + 1) a1 m1 (xs ++ [1]) (by omega) (by omega) (by omega) (by simp; omega)
    refine ⟨ys, a', m', ?_, by omega, hl⟩
    apply ev_up
    simp only [spec_l1Cur_tableOf.l0]
    rw [u64w (by omega) (by omega), shl1 a (by omega), e1, wN (m := i + 1) (by push_cast; rfl) (by omega)]
    exact ev_p (by omega) (ev_p (by omega) (ev_n c8 (Ev.bind (ev_c rfl) (ev_p rfl (ev_p (by omega) e)))))
   | false =>
    obtain ⟨ys, a', m', e, hr, hl⟩ := ih (i + 1) a1 m1 (xs ++ [0]) (by omega) (by omega) (by omega) (by simp; omega)
    refine ⟨ys, a', m', ?_, by omega, hl⟩
    apply ev_up
    simp only [spec_l1Cur_tableOf.l0]
    rw [u64w (by omega) (by omega), shl1 a (by omega), e1, wN (m := i + 1) (by push_cast; rfl) (by omega)]
    exact ev_p (by omega) (ev_p (by omega) (ev_n c8 (Ev.bind (ev_c rfl) (ev_n (by simp) (ev_p (by omega) e)))))
theorem tableOf_ok {c : List Int} (hc : bytesOk c) (a : Nat) (ha : a ≤ 4) (at_ m : Int) (h0 : 0 ≤ at_) (h1 : at_ ≤ 900000000) : ∃ ys a' m', Ev (fun k => spec_l1Cur_tableOf.f k c at_ m a) ((a : Int), ys, a', m') ∧ (at_ ≤ a' ∧ a' ≤ at_ + 40) ∧ ys.length = 2 ^ a := by
 have h8 : 2 ^ a ≤ 2 ^ 4 := Nat.pow_le_pow_right (by decide) ha
 obtain ⟨x6, a1, m1, e1, ha1, _⟩ := among_ok hc at_ m [2, 2, 4, 8] (by simp) h0 (by omega)
 obtain ⟨ys, a', m', e, hr, hl⟩ := tableOf_l0 hc a ha x6 a (2 ^ a) 0 a1 m1 [] (by omega) (by omega) (by omega) rfl
 refine ⟨ys, a', m', ?_, by omega, hl⟩
 unfold spec_l1Cur_tableOf.f
 rw [e1]
 exact Ev.bind (ev_c rfl) e
theorem table_ok {c : List Int} (hc : bytesOk c) (at_ m : Int) (h0 : 0 ≤ at_) (h1 : at_ ≤ 800000000) : ∃ (a : Nat) (ys : List Int) (a' m' : Int), Ev (fun k => spec_l1Cur_table.f k c at_ m) ((a : Int), ys, a', m') ∧ (at_ ≤ a' ∧ a' ≤ at_ + 50) ∧ ys.length = 2 ^ a ∧ a ≤ 4 := by
 obtain ⟨r, a1, m1, e1, ha1, hr⟩ := among_ok hc at_ m [0, 1, 2, 2, 3, 3, 4] (by simp) h0 (by omega)
 obtain ⟨a, rfl, ha⟩ : ∃ a : Nat, r = a ∧ a ≤ 4 := by
  have : 0 ≤ r ∧ r ≤ 4 := by simp at hr; omega
  exact ⟨r.toNat, by omega, by omega⟩
 obtain ⟨ys, a', m', e, hr2, hl⟩ := tableOf_ok hc a ha a1 m1 (by omega) (by omega)
 refine ⟨a, ys, a', m', ?_, by omega, hl, ha⟩
 unfold spec_l1Cur_table.f
 rw [e1]
 exact Ev.bind (ev_c rfl) (Ev.bind e (Ev.now _))
theorem anyTable_ok {c : List Int} (hc : bytesOk c) (at_ m : Int) (h0 : 0 ≤ at_) (h1 : at_ ≤ 700000000) : ∃ (n : Int) (ys : List Int) (a' m' : Int), Ev (fun k => spec_l1Cur_anyTable.f k c at_ m) (n, ys, a', m') ∧ (at_ ≤ a' ∧ a' ≤ at_ + 60) ∧ ys.length ≤ 32 ∧ -1 ≤ n ∧ n ≤ 5 := by
 obtain ⟨a, ys, a1, m1, e1, ha1, hl, ha⟩ := table_ok hc at_ m h0 (by omega)
 have h8 : 2 ^ a ≤ 2 ^ 4 := Nat.pow_le_pow_right (by decide) ha
 have h9 := Nat.two_pow_pos a
 obtain ⟨p, a2, m2, e2, ha2, _⟩ := pick_ok hc a1 m1 30 (by omega) (by omega)
 by_cases c0 : p = 0
 ·obtain ⟨q, a3, m3, e3, ha3, hq⟩ := among_ok hc a2 m2 [-1, wrap64 ((a : Int) + 1)] (by simp) (by omega) (by omega)
  have hq2 : -1 ≤ q ∧ q ≤ 5 := by
   rw [w64 (n := (a : Int) + 1) (by omega) (by omega)] at hq
   simp at hq
   omega
  refine ⟨q, ys, a3, m3, ?_, by omega, by omega, hq2.1, hq2.2⟩
  unfold spec_l1Cur_anyTable.f
  refine Ev.bind e1 ?_
  dsimp only
  rw [e2]
  refine Ev.bind (ev_c rfl) (ev_p c0 ?_)
  dsimp only
  rw [e3]
  exact Ev.bind (ev_c rfl) (Ev.now _)
 by_cases c1 : p = 1
 ·obtain ⟨i, a3, m3, e3, ha3, hi0, hi1⟩ := pick_ok hc a2 m2 (ys.length : Int) (by omega) (by omega)
  obtain ⟨q, a4, m4, e4, ha4, hq⟩ := among_ok hc a3 m3 [-1, 2] (by simp) (by omega) (by omega)
  refine ⟨a, ys.set i.toNat q, a4, m4, ?_, by omega, by rw [List.length_set]; omega, by omega, by omega⟩
  unfold spec_l1Cur_anyTable.f
  refine Ev.bind e1 ?_
  dsimp only
  rw [e2]
  refine Ev.bind (ev_c rfl) (ev_n c0 (ev_p c1 ?_))
  dsimp only
  rw [e3]
  refine Ev.bind (ev_c rfl) ?_
  dsimp only
  rw [e4]
  exact Ev.bind (ev_c rfl) (ev_p hi0 (ev_p (by omega) (Ev.now _)))
 by_cases c2 : p = 2
 ·refine ⟨a, ys.drop (1 : Int).toNat, a2, m2, ?_, by omega, by rw [List.length_drop]; omega, by omega, by omega⟩
  unfold spec_l1Cur_anyTable.f
  refine Ev.bind e1 ?_
  dsimp only
  rw [e2]
  exact Ev.bind (ev_c rfl) (ev_n c0 (ev_n c1 (ev_p c2 (ev_p (by omega) (Ev.now _)))))
 by_cases c3 : p = 3
 ·refine ⟨5, List.replicate 32 0, a2, m2, ?_, by omega, by rw [List.length_replicate]; omega, by omega, by omega⟩
  unfold spec_l1Cur_anyTable.f
  refine Ev.bind e1 ?_
  dsimp only
  rw [e2]
  exact Ev.bind (ev_c rfl) (ev_n c0 (ev_n c1 (ev_n c2 (ev_p c3 (ev_p (by omega) (Ev.now _))))))
 ·refine ⟨a, ys, a2, m2, ?_, by omega, by omega, by omega, by omega⟩
  unfold spec_l1Cur_anyTable.f
  refine Ev.bind e1 ?_
  dsimp only
  rw [e2]
  exact Ev.bind (ev_c rfl) (ev_n c0 (ev_n c1 (ev_n c2 (ev_n c3 (Ev.now _)))))
theorem DrawPrimeTerms_ok {c : List Int} (hc : bytesOk c) : ∃ (n : Int) (ys : List Int), Ev (fun k => spec_DrawPrimeTerms.f k c) (n, ys) ∧ ys.length ≤ 32 ∧ -1 ≤ n ∧ n ≤ 5 := by
 obtain ⟨n, ys, a', m', e, _, hl, hn⟩ := anyTable_ok hc 0 0 (by omega) (by omega)
 refine ⟨n, ys, ?_, hl, hn⟩
 unfold spec_DrawPrimeTerms.f
 exact Ev.bind e (Ev.now _)
/-! #### termD -/
theorem clamp_eq (n : Int) : ∃ t : Nat, t ≤ 4 ∧ ((spec_l1Least.f n 4).bind fun x => spec_l1Most.f 0 x) = some (t : Int) := by
 unfold spec_l1Least.f spec_l1Most.f
 by_cases c : n < 4
 ·rw [if_pos c, Option.bind_some]
  by_cases c2 : 0 > n
  ·rw [if_pos c2]
   exact ⟨0, by omega, rfl⟩
  ·rw [if_neg c2]
   exact ⟨n.toNat, by omega, by congr 1; omega⟩
 ·rw [if_neg c, Option.bind_some, if_neg (by omega)]
  exact ⟨4, by omega, rfl⟩
theorem termOf_ok {c : List Int} (hc : bytesOk c) (at_ m n : Int) (h0 : 0 ≤ at_) (h1 : at_ ≤ 900000000) : ∃ x y a' m', spec_l1Cur_termOf.f c at_ m n = some (x, y, a', m') ∧ (at_ ≤ a' ∧ a' ≤ at_ + 10) ∧ I64 x ∧ I64 y := by
 unfold spec_l1Cur_termOf.f
 obtain ⟨t, ht, e⟩ := clamp_eq n
 obtain ⟨u, hu⟩ : ∃ u, spec_l1Least.f n 4 = some u := by
  unfold spec_l1Least.f
  split <;> exact ⟨_, rfl⟩
 rw [hu, Option.bind_some] at e
 rw [hu, Option.bind_some, e, Option.bind_some, u64w (by omega) (by omega), if_pos (by omega), shl1 t (by omega)]
 have h8 : 2 ^ t ≤ 2 ^ 4 := Nat.pow_le_pow_right (by decide) ht
 have h9 := Nat.two_pow_pos t
 obtain ⟨b, a1, m1, e1, ha1, hb0, hb1⟩ := pick_ok hc at_ m ((2 ^ t : Nat) : Int) h0 (by omega)
 rw [e1, Option.bind_some]
 dsimp only
 obtain ⟨d, a2, m2, e2, ha2, hd0, hd1⟩ := pick_ok hc a1 m1 ((2 ^ t : Nat) : Int) (by omega) (by omega)
 rw [e2, Option.bind_some]
 dsimp only
 obtain ⟨s, a3, m3, e3, ha3, _⟩ := pick_ok hc a2 m2 24 (by omega) (by omega)
 rw [e3, Option.bind_some]
 dsimp only
 have hand : I64 (Go.bits .and .i64 b d) := by
  obtain ⟨b', rfl⟩ := nat_of hb0
  obtain ⟨d', rfl⟩ := nat_of hd0
  rw [andN b' d' (by omega) (by omega)]
  have : b' &&& d' ≤ b' := Nat.and_le_left
  unfold I64
  omega
 have hbI : I64 b := by unfold I64; omega
 by_cases c0 : s = 0
 ·rw [if_pos c0]
  obtain ⟨q, a4, m4, e4, ha4, hq⟩ := among_ok hc a3 m3 [-1, ((2 ^ t : Nat) : Int)] (by simp) (by omega) (by omega)
  rw [e4, Option.bind_some]
  refine ⟨_, _, _, _, rfl, by dsimp only; omega, ?_, hand⟩
  rw [List.mem_cons, List.mem_singleton] at hq
  unfold I64
  omega
 rw [if_neg c0]
 by_cases c1 : s = 1
 ·rw [if_pos c1]
  obtain ⟨q, a4, m4, e4, ha4, hq⟩ := among_ok hc a3 m3 [-1, wrap64 (b + 1), wrap64 (((2 ^ t : Nat) : Int) - 1)] (by simp) (by omega) (by omega)
  rw [e4, Option.bind_some]
  refine ⟨_, _, _, _, rfl, by dsimp only; omega, hbI, ?_⟩
  rw [w64 (n := b + 1) (by omega) (by omega), w64 (n := ((2 ^ t : Nat) : Int) - 1) (by omega) (by omega), List.mem_cons, List.mem_cons, List.mem_singleton] at hq
  unfold I64
  omega
 ·rw [if_neg c1]
  exact ⟨_, _, _, _, rfl, by omega, hbI, hand⟩
theorem DrawTermText_ok {c : List Int} (hc : bytesOk c) : ∃ n x y, spec_DrawTermText.f c = some (n, x, y) ∧ (-1 ≤ n ∧ n ≤ 5) ∧ I64 x ∧ I64 y := by
 unfold spec_DrawTermText.f spec_DrawIsTerm.f spec_l1Cur_inputCount.f
 obtain ⟨q, a1, m1, e1, ha1, hq⟩ := among_ok hc 0 0 [-1, 5] (by simp) (by omega) (by omega)
 rw [e1, Option.bind_some]
 dsimp only
 obtain ⟨n, a2, m2, e2, ha2, hn⟩ := among_ok hc a1 m1 [0, 1, 2, 3, 3, 4, 4, q] (by simp) (by omega) (by omega)
 rw [e2, Option.bind_some]
 rw [Option.bind_some]
 dsimp only
 obtain ⟨x, y, a3, m3, e3, ha3, hx, hy⟩ := termOf_ok hc a2 m2 n (by omega) (by omega)
 rw [e3]
 refine ⟨n, x, y, rfl, ?_, hx, hy⟩
 rw [List.mem_cons, List.mem_singleton] at hq
 simp only [List.mem_cons, List.not_mem_nil, or_false] at hn
 omega
/-! #### l1In -/
theorem l1In_eq (a b c : Int) : spec_l1In.f a b c = some (decide (b ≤ a ∧ a ≤ c)) := by
 unfold spec_l1In.f
 by_cases h : b ≤ a
 ·rw [if_pos h]; simp [h]
 ·rw [if_neg h]; simp [h]
/-! #### l1All -/
def inB (a b : Int) (x : Int) : Bool := decide (a ≤ x ∧ x ≤ b)
theorem l1All_l0 (l : List Int) (a b : Int) (hl : l.length ≤ 9223372036854775807) (r : List Int) : ∀ (p : List Int) (i : Int), i = p.length → l = p ++ r →
  Ev (fun k => spec_l1All.l0 k a b l l.length i) (r.all (inB a b)) := by
 induction r with
 | nil =>
  intro p i hi e
  have hlen : l.length = p.length := by rw [e]; simp
  apply ev_up
  simp only [spec_l1All.l0]
  exact ev_n (by omega) (Ev.now _)
 | cons x r ih =>
  intro p i hi e
  have hlen : l.length = p.length + r.length + 1 := by rw [e]; simp; omega
  have hx : rd l i = x := by rw [e]; exact rdA hi
  have ih' := ih (p ++ [x]) (i + 1) (by simp; omega) (by rw [e]; simp)
  apply ev_up
  simp only [spec_l1All.l0]
  refine ev_p (by omega) (ev_p (by omega) (ev_p (by omega) ?_))
  rw [hx, l1In_eq]
  refine Ev.bind (ev_c rfl) ?_
  refine ev_ite (fun h => ?_) (fun h => ?_)
  ·rw [w64 (by omega) (by omega)]
   refine ev_eq ih' ?_
   rw [List.all_cons, show inB a b x = true from h, Bool.true_and]
  ·refine ev_eq (Ev.now _) ?_
   rw [List.all_cons, show inB a b x = false from decide_eq_false (fun hh => h (decide_eq_true hh)), Bool.false_and]
theorem l1All_ev (l : List Int) (a b : Int) (hl : l.length ≤ 9223372036854775807) : Ev (fun k => spec_l1All.f k l a b) (l.all (inB a b)) := by
 unfold spec_l1All.f
 exact l1All_l0 l a b hl l [] 0 rfl rfl
/-! #### ttInputs -/
theorem ttInputs_eq (a : Int) : spec_ttInputs.f a = some (decide (0 ≤ a ∧ a ≤ 4)) := by
 unfold spec_ttInputs.f
 rw [l1In_eq, Option.bind_some]
/-! #### tableM -/
def tableM (n : Int) (l : List Int) : Bool := decide (0 ≤ n ∧ n ≤ 4 ∧ l.length = 2 ^ n.toNat) && l.all (inB 0 1)
theorem tableM_of {n : Int} {l : List Int} (h : tableM n l = true) : ∃ a : Nat, n = a ∧ a ≤ 4 ∧ l.length = 2 ^ a ∧ l.length ≤ 16 ∧ ∀ x ∈ l, 0 ≤ x ∧ x ≤ 1 := by
 unfold tableM at h
 rw [Bool.and_eq_true, List.all_eq_true] at h
 obtain ⟨h1, h2, h3⟩ := of_decide_eq_true h.1
 obtain ⟨a, rfl⟩ := nat_of h1
 simp only [Int.toNat_natCast] at h3
 have h8 : 2 ^ a ≤ 2 ^ 4 := Nat.pow_le_pow_right (by decide) (by omega)
 exact ⟨a, rfl, by omega, h3, by omega, fun x hx => of_decide_eq_true (h.2 x hx)⟩
/-! #### spec_ttGood -/
theorem spec_ttGood_ev (n : Int) (l : List Int) (hl : l.length ≤ 9223372036854775807) : Ev (fun k => spec_ttGood.f k n l) (tableM n l) := by
 unfold spec_ttGood.f tableM
 rw [ttInputs_eq]
 refine Ev.bind (ev_c rfl) (ev_ite (fun h => ?_) (fun h => ?_))
 ·have h' := of_decide_eq_true h
  obtain ⟨a, rfl⟩ := nat_of h'.1
  rw [u64w (by omega) (by omega), shl1 a (by omega)]
  refine ev_p (by omega) (ev_ite (fun h2 => ?_) (fun h2 => ?_))
  ·have h3 : l.length = 2 ^ a := by exact_mod_cast h2
   rw [decide_eq_true ⟨h'.1, h'.2, by simpa using h3⟩, Bool.true_and]
   exact Ev.bind (l1All_ev l 0 1 hl) (Ev.now _)
  ·rw [decide_eq_false (fun hh => h2 (by have := hh.2.2; simp only [Int.toNat_natCast] at this; exact_mod_cast this)), Bool.false_and]
   exact Ev.now _
 ·rw [decide_eq_false (fun hh => h (decide_eq_true ⟨hh.1, hh.2.1⟩)), Bool.false_and]
  exact Ev.now _
/-! #### idxN -/
/-- The indices that a term covers, from i on. -/
def idxM (N m v : Nat) : Nat → List Int
 | 0 => []
 | d + 1 => (if (N - (d + 1)) &&& m = v then [((N - (d + 1) : Nat) : Int)] else []) ++ idxM N m v d
theorem idxM_length (N m v d : Nat) : (idxM N m v d).length ≤ d := by
 induction d with
 | zero => simp [idxM]
 | succ d ih => unfold idxM; split <;> simp <;> omega
theorem idxM_mem {N m v d : Nat} {x : Int} (hd : d ≤ N) (h : x ∈ idxM N m v d) : ∃ j : Nat, x = j ∧ N - d ≤ j ∧ j < N ∧ j &&& m = v := by
 induction d with
 | zero => simp [idxM] at h
 | succ d ih =>
  unfold idxM at h
  rw [List.mem_append] at h
  rcases h with h | h
  ·split at h
   ·rename_i hc
    simp only [List.mem_singleton] at h
    exact ⟨N - (d + 1), h, by omega, by omega, hc⟩
   ·simp at h
  ·obtain ⟨j, h1, h2, h3, h4⟩ := ih (by omega) h
   exact ⟨j, h1, by omega, h3, h4⟩
theorem mem_idxM {N m v d j : Nat} (hd : d ≤ N) (h1 : N - d ≤ j) (h2 : j < N) (h3 : j &&& m = v) : (j : Int) ∈ idxM N m v d := by
 induction d with
 | zero => omega
 | succ d ih =>
  unfold idxM
  rw [List.mem_append]
  by_cases hj : j = N - (d + 1)
  ·left
   rw [← hj, if_pos h3]
   simp
  ·right
   exact ih (by omega) (by omega)
/-! #### impliesM -/
def nz (l : List Int) (j : Int) : Bool := decide (rd l j ≠ 0)
/-- Whether a term covers only indices with a value that is not 0. -/
def impliesM (l : List Int) (m v : Nat) : Bool := (idxM l.length m v l.length).all (nz l)
/-! #### termT -/
theorem rdTermA {p r : List S72} {x : S72} {i : Int} (hi : i = p.length) : rd_T72 (p ++ x :: r) i = x := getDA hi
/-! #### primesM -/
/-- The bit i taken away. -/
def clrB (m i : Nat) : Nat := m - (m &&& 2 ^ i)
theorem bits_d1 : ∀ m : Fin 16, ∀ i : Fin 4, (m.1 &&& 2 ^ i.1 ≠ 0 → (m.1 >>> i.1) % 2 = 1) ∧ ((m.1 >>> i.1) % 2 = 1 → ¬ m.1 &&& 2 ^ i.1 = 0) ∧ ((m.1 >>> i.1) % 2 = 1 → 2 ^ i.1 ≤ m.1 ∧ m.1 - 2 ^ i.1 = clrB m.1 i.1) ∧ clrB m.1 i.1 < 16 ∧ m.1 ^^^ (m.1 &&& 2 ^ i.1) = clrB m.1 i.1 ∧ (m.1 &&& 2 ^ i.1) ≤ m.1 := by decide
theorem bits_f (m v i : Nat) (hm : m < 16) (hv : v < 16) (hi : i < 4) : ((m &&& 2 ^ i ≠ 0 → (m >>> i) % 2 = 1) ∧ ((m >>> i) % 2 = 1 → ¬ m &&& 2 ^ i = 0)) ∧ ((m >>> i) % 2 = 1 → (2 ^ i ≤ m ∧ m - 2 ^ i = clrB m i) ∧ (clrB m i < 16 ∧ clrB v i < 16 ∧ (v &&& 2 ^ i) ≤ v) ∧ m ^^^ (m &&& 2 ^ i) = clrB m i ∧ v ^^^ (v &&& 2 ^ i) = clrB v i) := by
 have h := bits_d1 ⟨m, hm⟩ ⟨i, hi⟩
 have h' := bits_d1 ⟨v, hv⟩ ⟨i, hi⟩
 exact ⟨⟨h.1, h.2.1⟩, fun hh => ⟨h.2.2.1 hh, ⟨h.2.2.2.1, h'.2.2.2.1, h'.2.2.2.2.2⟩, h.2.2.2.2.1, h'.2.2.2.2.1⟩⟩
/-- No term with an input less, from input i on, implies the table. -/
def primeF (l : List Int) (m v : Nat) : Bool → Nat → Nat → Bool
 | fit, _, 0 => fit
 | fit, i, d + 1 => primeF l m v (if (m >>> i) % 2 = 1 ∧ impliesM l (clrB m i) (clrB v i) = true then false else fit) (i + 1) d
def valsM (l : List Int) (a m : Nat) : Nat → Nat → List S72
 | _, 0 => []
 | v, d + 1 => (if v &&& m = v ∧ impliesM l m v = true ∧ primeF l m v true 0 a = true then [⟨(m : Int), (v : Int)⟩] else []) ++ valsM l a m (v + 1) d
theorem valsM_length (l : List Int) (a m d : Nat) : ∀ v, (valsM l a m v d).length ≤ d := by
 induction d with
 | zero => intro v; simp [valsM]
 | succ d ih =>
  intro v
  have := ih (v + 1)
  rw [valsM]
  split <;> simp <;> omega
def masksM (l : List Int) (a : Nat) : Nat → Nat → List S72
 | _, 0 => []
 | m, d + 1 => valsM l a m 0 (m + 1) ++ masksM l a (m + 1) d
theorem masksM_length (l : List Int) (a : Nat) (N d : Nat) : ∀ m, m + d ≤ N → (masksM l a m d).length ≤ N * d := by
 induction d with
 | zero => intro m _; simp [masksM]
 | succ d ih =>
  intro m h
  have h1 := ih (m + 1) (by omega)
  have h2 := valsM_length l a m (m + 1) 0
  have h3 : N * (d + 1) = N * d + N := Nat.mul_succ N d
  rw [masksM, List.length_append]
  omega
/-! #### spec_nfIndices -/
theorem spec_nfIndices_l0 (a m v : Nat) (ha : a ≤ 4) (hm : m < 65536) (d : Nat) : ∀ (xs : List Int) (i : Nat), i + d = 2 ^ a → xs.length ≤ i →
  Ev (fun k => spec_nfIndices.l0 k a xs i m v) (xs ++ idxM (2 ^ a) m v d) := by
 have h8 : 2 ^ a ≤ 2 ^ 4 := Nat.pow_le_pow_right (by decide) ha
 induction d with
 | zero =>
  intro xs i hi hx
  apply ev_up
  simp only [spec_nfIndices.l0]
  rw [u64w (by omega) (by omega), shl1 a (by omega)]
  refine ev_p (by omega) (ev_n (by omega) ?_)
  simpa [idxM] using Ev.now xs
 | succ d ih =>
  intro xs i hi hx
  apply ev_up
  simp only [spec_nfIndices.l0]
  rw [u64w (by omega) (by omega), shl1 a (by omega)]
  refine ev_p (by omega) (ev_p (by omega) ?_)
  rw [andN i m (by omega) (by omega), wN (m := i + 1) (by omega) (by omega)]
  have e : 2 ^ a - (d + 1) = i := by omega
  refine ev_ite (fun h => ?_) (fun h => ?_)
  ·refine ev_p (by omega) ?_
   refine ev_eq (ih _ (i + 1) (by omega) (by simp; omega)) ?_
   have h' : i &&& m = v := by exact_mod_cast h
   simp [idxM, e, h']
  ·refine ev_eq (ih _ (i + 1) (by omega) (by omega)) ?_
   have h' : ¬ i &&& m = v := fun h2 => h (by exact_mod_cast h2)
   simp [idxM, e, h']
theorem spec_nfIndices_ev (a m v : Nat) (ha : a ≤ 4) (hm : m < 65536) : Ev (fun k => spec_nfIndices.f k a m v) (idxM (2 ^ a) m v (2 ^ a)) := by
 unfold spec_nfIndices.f
 exact spec_nfIndices_l0 a m v ha hm (2 ^ a) [] 0 (by omega) (by simp)
/-! #### spec_nfImplies -/
theorem spec_nfImplies_l0 (n : Int) (l ks : List Int) (hk : ∀ x ∈ ks, 0 ≤ x ∧ x < l.length) (hl : ks.length ≤ 1048576) (r : List Int) : ∀ (p : List Int) (i : Int), i = p.length → ks = p ++ r →
  Ev (fun k => spec_nfImplies.l0 k ks ks.length i n l) (r.all (nz l)) := by
 induction r with
 | nil =>
  intro p i hi e
  have hlen : ks.length = p.length := by rw [e]; simp
  apply ev_up
  simp only [spec_nfImplies.l0]
  exact ev_n (by omega) (Ev.now _)
 | cons x r ih =>
  intro p i hi e
  have hlen : ks.length = p.length + r.length + 1 := by rw [e]; simp; omega
  have hx : rd ks i = x := by rw [e]; exact rdA hi
  have hxb := hk x (by rw [e]; simp)
  have ih' := ih (p ++ [x]) (i + 1) (by simp; omega) (by rw [e]; simp)
  apply ev_up
  simp only [spec_nfImplies.l0]
  refine ev_p (by omega) (ev_p (by omega) (ev_p (by omega) ?_))
  rw [hx, w64 (n := i + 1) (by omega) (by omega)]
  refine ev_p (by omega) (ev_p (by omega) (ev_ite (fun h => ?_) (fun h => ?_)))
  ·rw [List.all_cons, show nz l x = false from decide_eq_false (fun hh => hh h), Bool.false_and]
   exact Ev.now _
  ·rw [List.all_cons, show nz l x = true from decide_eq_true h, Bool.true_and]
   exact ih'
theorem spec_nfImplies_ev (a m v : Nat) (l : List Int) (ha : a ≤ 4) (hl : l.length = 2 ^ a) (hm : m < 65536) : Ev (fun k => spec_nfImplies.f k a l m v) (impliesM l m v) := by
 unfold spec_nfImplies.f impliesM
 have h8 : 2 ^ a ≤ 2 ^ 4 := Nat.pow_le_pow_right (by decide) ha
 rw [hl]
 have hi := idxM_length (2 ^ a) m v (2 ^ a)
 refine Ev.bind (spec_nfIndices_ev a m v ha hm) (spec_nfImplies_l0 a l _ (fun x hx => ?_) (by omega) _ [] 0 rfl rfl)
 obtain ⟨j, rfl, _, h2, _⟩ := idxM_mem (Nat.le_refl _) hx
 omega
/-! #### spec_nfPrimes -/
theorem spec_nfPrimes_l2 (a : Nat) (l : List Int) (ha : a ≤ 4) (hla : l.length = 2 ^ a) (hl16 : l.length ≤ 16) (m v : Nat) (hm : m < 16) (hv : v < 16) (xs : List S72) (hx : xs.length ≤ 1000000) (R : List S72) (d : Nat) : ∀ (i : Nat) (fit : Bool), i + d = a →
  Ev (fun k => spec_nfPrimes.l1 k (xs ++ (if primeF l m v fit i d = true then [⟨(m : Int), (v : Int)⟩] else [])) m (wrap64 ((v : Int) + 1)) a l) R → Ev (fun k => spec_nfPrimes.l2 k xs m v fit i a l m v) R := by
 induction d with
 | zero =>
  intro i fit hi h
  apply ev_up
  simp only [spec_nfPrimes.l2]
  rw [primeF] at h
  refine ev_n (by omega) (ev_ite (fun c => ev_p (by omega) ?_) (fun c => ?_))
  ·rw [if_pos c] at h
   exact h
  ·rw [if_neg c, List.append_nil] at h
   exact h
 | succ d ih =>
  intro i fit hi h
  have hi4 : i < 4 := by omega
  have hbf := bits_f m v i hm hv hi4
  rw [primeF] at h
  apply ev_up
  simp only [spec_nfPrimes.l2]
  rw [wN (n := (i : Int) + 1) (m := i + 1) (by omega) (by omega)]
  have h2i : 2 ^ i ≤ 2 ^ 3 := Nat.pow_le_pow_right (by decide) (by omega)
  rw [u64w (by omega) (by omega), shl1 i (by omega), andN m (2 ^ i) (by omega) (by omega), andN v (2 ^ i) (by omega) (by omega)]
  refine ev_p (by omega) (ev_p (by omega) (ev_ite (fun c => ?_) (fun c => ?_)))
  ·have c' : ¬ (m >>> i) % 2 = 1 := fun hh => hbf.1.2 hh (by exact_mod_cast c)
   rw [show (if (m >>> i) % 2 = 1 ∧ impliesM l (clrB m i) (clrB v i) = true then false else fit) = fit from if_neg (fun hh => c' hh.1)] at h
   exact ih (i + 1) fit (by omega) h
  ·have c' : (m >>> i) % 2 = 1 := hbf.1.1 (fun hh => c (by rw [hh]; rfl))
   have hb := hbf.2 c'
   rw [wN (n := (m : Int) - ((2 ^ i : Nat) : Int)) (m := clrB m i) (by omega) (by omega), wN (n := (v : Int) - ((v &&& 2 ^ i : Nat) : Int)) (m := clrB v i) (by unfold clrB; omega) (by omega)]
   refine Ev.bind (spec_nfImplies_ev a (clrB m i) (clrB v i) l ha hla (by omega)) (ev_ite (fun c2 => ?_) (fun c2 => ?_))
   ·rw [show (if (m >>> i) % 2 = 1 ∧ impliesM l (clrB m i) (clrB v i) = true then false else fit) = false from if_pos ⟨c', c2⟩] at h
    exact ih (i + 1) false (by omega) h
   ·rw [show (if (m >>> i) % 2 = 1 ∧ impliesM l (clrB m i) (clrB v i) = true then false else fit) = fit from if_neg (fun hh => c2 hh.2)] at h
    exact ih (i + 1) fit (by omega) h
theorem spec_nfPrimes_l1 (a : Nat) (l : List Int) (ha : a ≤ 4) (hla : l.length = 2 ^ a) (hl16 : l.length ≤ 16) (m : Nat) (hm : m < 16) (R : List S72) (d : Nat) : ∀ (v : Nat) (xs : List S72), v + d = m + 1 → xs.length + d ≤ 1000000 →
  Ev (fun k => spec_nfPrimes.l0 k (xs ++ valsM l a m v d) (wrap64 ((m : Int) + 1)) a l) R → Ev (fun k => spec_nfPrimes.l1 k xs m v a l) R := by
 induction d with
 | zero =>
  intro v xs hv hx h
  apply ev_up
  simp only [spec_nfPrimes.l1]
  rw [valsM, List.append_nil] at h
  exact ev_n (by omega) h
 | succ d ih =>
  intro v xs hv hx h
  have hvm : v < 16 := by omega
  rw [valsM] at h
  have next : ∀ ys : List S72, ys.length ≤ 1 → Ev (fun k => spec_nfPrimes.l0 k (xs ++ (ys ++ valsM l a m (v + 1) d)) (wrap64 ((m : Int) + 1)) a l) R → Ev (fun k => spec_nfPrimes.l1 k (xs ++ ys) m (wrap64 ((v : Int) + 1)) a l) R := fun ys hys hh => by
   rw [wN (n := (v : Int) + 1) (m := v + 1) (by omega) (by omega)]
   refine ih (v + 1) _ (by omega) (by simp; omega) ?_
   rw [List.append_assoc]
   exact hh
  have skip : ¬ (v &&& m = v ∧ impliesM l m v = true) → Ev (fun k => spec_nfPrimes.l1 k xs m (wrap64 ((v : Int) + 1)) a l) R := fun c => by
   rw [if_neg (fun hh => c ⟨hh.1, hh.2.1⟩)] at h
   have := next [] (by simp) h
   rw [List.append_nil] at this
   exact this
  apply ev_up
  simp only [spec_nfPrimes.l1]
  rw [andN v m (by omega) (by omega)]
  refine ev_p (by omega) (ev_ite (fun c => Ev.bind (spec_nfImplies_ev a m v l ha hla (by omega)) (ev_up ?_)) (fun c => ev_up ?_))
  ·have c' : v &&& m = v := by exact_mod_cast c
   simp only [spec_nfPrimes.j2]
   by_cases c2 : impliesM l m v = true
   ·rw [c2]
    refine ev_n (by decide) (spec_nfPrimes_l2 a l ha hla hl16 m v hm hvm xs (by omega) R a 0 true (by omega) ?_)
    refine next _ (by split <;> simp) ?_
    have e : (if v &&& m = v ∧ impliesM l m v = true ∧ primeF l m v true 0 a = true then [(⟨(m : Int), (v : Int)⟩ : S72)] else []) = if primeF l m v true 0 a = true then [⟨(m : Int), (v : Int)⟩] else [] := by
     by_cases c3 : primeF l m v true 0 a = true
     ·rw [if_pos ⟨c', c2, c3⟩, if_pos c3]
     ·rw [if_neg (fun hh => c3 hh.2.2), if_neg c3]
    rw [e] at h
    exact h
   ·rw [show impliesM l m v = false by simpa using c2]
    exact ev_p (by trivial) (skip (fun hh => c2 hh.2))
  ·simp only [spec_nfPrimes.j2]
   refine ev_p (by trivial) (skip (fun hh => c ?_))
   exact_mod_cast hh.1
theorem spec_nfPrimes_l0 (a : Nat) (l : List Int) (ha : a ≤ 4) (hla : l.length = 2 ^ a) (hl16 : l.length ≤ 16) (d : Nat) : ∀ (m : Nat) (xs : List S72), m + d = 2 ^ a → xs.length ≤ 17 * m →
  Ev (fun k => spec_nfPrimes.l0 k xs m a l) (xs ++ masksM l a m d) := by
 induction d with
 | zero =>
  intro m xs hm hx
  apply ev_up
  simp only [spec_nfPrimes.l0]
  rw [u64w (by omega) (by omega), shl1 a (by omega)]
  refine ev_p (by omega) (ev_n (by omega) (ev_eq (Ev.now _) ?_))
  simp [masksM]
 | succ d ih =>
  intro m xs hm hx
  apply ev_up
  simp only [spec_nfPrimes.l0]
  have hvl := valsM_length l a m (m + 1) 0
  rw [u64w (by omega) (by omega), shl1 a (by omega)]
  refine ev_p (by omega) (ev_p (by omega) ?_)
  refine spec_nfPrimes_l1 a l ha hla hl16 m (by omega) _ (m + 1) 0 xs (by omega) (by omega) ?_
  rw [wN (n := (m : Int) + 1) (m := m + 1) (by omega) (by omega)]
  refine ev_eq (ih (m + 1) _ (by omega) (by simp; omega)) ?_
  simp [masksM]
theorem spec_nfPrimes_ev (a : Nat) (l : List Int) (ha : a ≤ 4) (hla : l.length = 2 ^ a) (hl16 : l.length ≤ 16) : Ev (fun k => spec_nfPrimes.f k a l) (masksM l a 0 (2 ^ a)) := by
 unfold spec_nfPrimes.f
 exact spec_nfPrimes_l0 a l ha hla hl16 (2 ^ a) 0 [] (by omega) (by simp)
/-! #### covE -/
def covE (p : S72) (x : Nat) : Bool := decide (x &&& p.f0.toNat = p.f1.toNat)
def goodP (l : List Int) (p : S72) : Prop := ∃ m v : Nat, m < 16 ∧ v < 16 ∧ p = ⟨(m : Int), (v : Int)⟩ ∧ impliesM l m v = true
theorem valsM_good (l : List Int) (a m : Nat) (hm : m < 16) (d : Nat) : ∀ v, v + d = m + 1 → ∀ p ∈ valsM l a m v d, goodP l p := by
 induction d with
 | zero => intro v _ p hp; simp [valsM] at hp
 | succ d ih =>
  intro v hv p hp
  rw [valsM, List.mem_append] at hp
  rcases hp with hp | hp
  ·split at hp
   ·rename_i h
    rw [List.mem_singleton] at hp
    exact ⟨m, v, hm, by omega, hp, h.2.1⟩
   ·simp at hp
  ·exact ih (v + 1) (by omega) p hp
theorem masksM_good (l : List Int) (a : Nat) (d : Nat) : ∀ m, m + d ≤ 16 → ∀ p ∈ masksM l a m d, goodP l p := by
 induction d with
 | zero => intro m _ p hp; simp [masksM] at hp
 | succ d ih =>
  intro m hm p hp
  rw [masksM, List.mem_append] at hp
  rcases hp with hp | hp
  ·exact valsM_good l a m (by omega) (m + 1) 0 (by omega) p hp
  ·exact ih (m + 1) (by omega) p hp
/-- Prime i alone covers x. -/
def aloneE (ps : List S72) (i x : Nat) : Prop := (∃ p, ps[i]? = some p ∧ covE p x = true) ∧ ∀ k q, k ≠ i → ps[k]? = some q → covE q x = false
/-- The primes that cover x. -/
def covL (x : Nat) : List S72 → Nat → List Int
 | [], _ => []
 | p :: r, j => (if covE p x = true then [(j : Int)] else []) ++ covL x r (j + 1)
theorem covL_length (x : Nat) (r : List S72) : ∀ j, (covL x r j).length ≤ r.length := by
 induction r with
 | nil => intro j; simp [covL]
 | cons p r ih =>
  intro j
  have := ih (j + 1)
  rw [covL]
  split <;> simp <;> omega
theorem covL_bound (x : Nat) (r : List S72) : ∀ j, ∀ y ∈ covL x r j, (j : Int) ≤ y ∧ y < j + r.length := by
 induction r with
 | nil => intro j y hy; simp [covL] at hy
 | cons p r ih =>
  intro j y hy
  rw [covL, List.mem_append] at hy
  simp only [List.length_cons]
  rcases hy with hy | hy
  ·split at hy
   ·rw [List.mem_singleton] at hy
    omega
   ·simp at hy
  ·have := ih (j + 1) y hy
   omega
theorem covL_nil (x : Nat) (r : List S72) : ∀ j, covL x r j = [] ↔ ∀ (k : Nat) (q : S72), r[k]? = some q → covE q x = false := by
 induction r with
 | nil => intro j; simp [covL]
 | cons p r ih =>
  intro j
  rw [covL, List.append_eq_nil_iff, ih (j + 1)]
  constructor
  ·rintro ⟨h1, h2⟩ k q hq
   cases k with
   | zero =>
    have hq' : p = q := by simpa using hq
    subst hq'
    by_cases c : covE p x = true
    ·rw [if_pos c] at h1; simp at h1
    ·simpa using c
   | succ k => exact h2 k q (by simpa using hq)
  ·intro h
   have h0 := h 0 p rfl
   refine ⟨by rw [h0]; rfl, fun k q hq => h (k + 1) q (by simpa using hq)⟩
theorem covL_one (x : Nat) (r : List S72) : ∀ j i : Nat, covL x r j = [(i : Int)] ↔ ∃ k, i = j + k ∧ aloneE r k x := by
 induction r with
 | nil =>
  intro j i
  rw [covL]
  constructor
  ·intro h; simp at h
  ·rintro ⟨k, _, ⟨p, hp, _⟩, _⟩
   simp at hp
 | cons p r ih =>
  intro j i
  rw [covL]
  by_cases c : covE p x = true
  ·rw [if_pos c]
   constructor
   ·intro h
    have h' : (j : Int) = i ∧ covL x r (j + 1) = [] := by simpa using h
    have hn := (covL_nil x r (j + 1)).1 h'.2
    refine ⟨0, by omega, ⟨p, rfl, c⟩, fun k q hk hq => ?_⟩
    cases k with
    | zero => exact absurd rfl hk
    | succ k => exact hn k q (by simpa using hq)
   ·rintro ⟨k, hk, ⟨q, hq, hc⟩, hall⟩
    cases k with
    | zero =>
     have : covL x r (j + 1) = [] := (covL_nil x r (j + 1)).2 (fun k q hq => hall (k + 1) q (by omega) (by simpa using hq))
     rw [this, List.append_nil, show i = j by omega]
    | succ k =>
     have := hall 0 p (by omega) rfl
     rw [this] at c
     exact absurd c (by decide)
  ·rw [if_neg c, List.nil_append, ih (j + 1) i]
   constructor
   ·rintro ⟨k, hk, ⟨q, hq, hc⟩, hall⟩
    refine ⟨k + 1, by omega, ⟨q, by simpa using hq, hc⟩, fun k' q' hk' hq' => ?_⟩
    cases k' with
    | zero =>
     have hq2 : p = q' := by simpa using hq'
     subst hq2
     simpa using c
    | succ k' => exact hall k' q' (by omega) (by simpa using hq')
   ·rintro ⟨k, hk, ⟨q, hq, hc⟩, hall⟩
    cases k with
    | zero =>
     have hq2 : p = q := by simpa using hq
     subst hq2
     exact absurd hc c
    | succ k => exact ⟨k, by omega, ⟨q, by simpa using hq, hc⟩, fun k' q' hk' hq' => hall (k' + 1) q' (by omega) (by simpa using hq')⟩
/-- The bits of the indices, put together. -/
def orIdx : Nat → List Int → Nat
 | acc, [] => acc
 | acc, y :: r => orIdx (acc ||| 2 ^ y.toNat) r
theorem orIdx_bit (x : Nat) (r : List Int) : ∀ acc, (orIdx acc r).testBit x = true ↔ acc.testBit x = true ∨ ∃ y ∈ r, y.toNat = x := by
 induction r with
 | nil => intro acc; simp [orIdx]
 | cons y r ih =>
  intro acc
  rw [orIdx, ih, Nat.testBit_or, Bool.or_eq_true, Nat.testBit_two_pow, decide_eq_true_eq]
  simp only [List.mem_cons, exists_eq_or_imp]
  exact or_assoc
theorem or_lt16 {a b : Nat} (ha : a < 65536) (hb : b < 65536) : a ||| b < 65536 := Nat.or_lt_two_pow (n := 16) ha hb
theorem pow_lt16 {y : Int} (h0 : 0 ≤ y) (h1 : y < 16) : 2 ^ y.toNat < 65536 := by
 have : 2 ^ y.toNat ≤ 2 ^ 15 := Nat.pow_le_pow_right (by decide) (by omega)
 omega
theorem orIdx_lt (r : List Int) (hr : ∀ y ∈ r, 0 ≤ y ∧ y < 16) : ∀ acc, acc < 65536 → orIdx acc r < 65536 := by
 induction r with
 | nil => intro acc h; exact h
 | cons y r ih =>
  intro acc h
  have hy := hr y (by simp)
  exact ih (fun z hz => hr z (by simp [hz])) _ (or_lt16 h (pow_lt16 hy.1 hy.2))
def covN (a : Nat) (p : S72) : Nat := orIdx 0 (idxM (2 ^ a) p.f0.toNat p.f1.toNat (2 ^ a))
theorem idx_bounds {a : Nat} (ha : a ≤ 4) (m v : Nat) : ∀ y ∈ idxM (2 ^ a) m v (2 ^ a), 0 ≤ y ∧ y < 16 := fun y hy => by
 have h8 : 2 ^ a ≤ 2 ^ 4 := Nat.pow_le_pow_right (by decide) ha
 obtain ⟨j, rfl, _, h2, _⟩ := idxM_mem (Nat.le_refl _) hy
 omega
theorem covN_lt {a : Nat} (ha : a ≤ 4) (p : S72) : covN a p < 65536 := orIdx_lt _ (idx_bounds ha _ _) 0 (by decide)
theorem covN_bit {a : Nat} (p : S72) (x : Nat) : (covN a p).testBit x = true ↔ x < 2 ^ a ∧ covE p x = true := by
 unfold covN covE
 rw [orIdx_bit, decide_eq_true_eq]
 constructor
 ·rintro (h | ⟨y, hy, hx⟩)
  ·simp at h
  ·obtain ⟨j, rfl, _, h2, h3⟩ := idxM_mem (Nat.le_refl _) hy
   rw [Int.toNat_natCast] at hx
   subst hx
   exact ⟨h2, h3⟩
 ·rintro ⟨h1, h2⟩
  exact Or.inr ⟨(x : Int), mem_idxM (Nat.le_refl _) (by omega) h1 h2, Int.toNat_natCast x⟩
/-- What the other primes cover. -/
def restR (a i : Nat) : List S72 → Nat → Nat → Nat
 | [], _, acc => acc
 | p :: r, j, acc => restR a i r (j + 1) (if j = i then acc else acc ||| covN a p)
theorem restR_lt {a : Nat} (ha : a ≤ 4) (i : Nat) (r : List S72) : ∀ j acc, acc < 65536 → restR a i r j acc < 65536 := by
 induction r with
 | nil => intro j acc h; exact h
 | cons p r ih =>
  intro j acc h
  rw [restR]
  refine ih (j + 1) _ ?_
  split
  ·exact h
  ·exact or_lt16 h (covN_lt ha p)
theorem restR_bit (a i x : Nat) (r : List S72) : ∀ j acc, (restR a i r j acc).testBit x = true ↔ acc.testBit x = true ∨ ∃ k q, j + k ≠ i ∧ r[k]? = some q ∧ (covN a q).testBit x = true := by
 induction r with
 | nil => intro j acc; simp [restR]
 | cons p r ih =>
  intro j acc
  rw [restR, ih]
  constructor
  ·rintro (h | ⟨k, q, hk, hq, hb⟩)
   ·by_cases c : j = i
    ·rw [if_pos c] at h
     exact Or.inl h
    ·rw [if_neg c, Nat.testBit_or, Bool.or_eq_true] at h
     rcases h with h | h
     ·exact Or.inl h
     ·exact Or.inr ⟨0, p, by omega, rfl, h⟩
   ·exact Or.inr ⟨k + 1, q, by omega, by simpa using hq, hb⟩
  ·rintro (h | ⟨k, q, hk, hq, hb⟩)
   ·left
    by_cases c : j = i
    ·rw [if_pos c]; exact h
    ·rw [if_neg c, Nat.testBit_or, h]; rfl
   ·cases k with
    | zero =>
     have hq2 : p = q := by simpa using hq
     subst hq2
     left
     rw [if_neg (by omega), Nat.testBit_or, hb, Bool.or_true]
    | succ k => exact Or.inr ⟨k, q, by omega, by simpa using hq, hb⟩
theorem andNot_zero (c b : Nat) : c ^^^ (c &&& b) = 0 ↔ ∀ x, c.testBit x = true → b.testBit x = true := by
 rw [xor_eq_zero]
 constructor
 ·intro h x hx
  rw [h, Nat.testBit_and, Bool.and_eq_true] at hx
  exact hx.2
 ·intro h
  apply Nat.eq_of_testBit_eq
  intro x
  rw [Nat.testBit_and]
  cases hc : c.testBit x with
  | false => rfl
  | true => rw [h x hc]; rfl
/-- Prime i is essential. -/
def essB (a : Nat) (ps : List S72) (i : Nat) (p : S72) : Bool := decide (¬ covN a p ^^^ (covN a p &&& restR a i ps 0 0) = 0)
theorem essB_iff {a : Nat} {ps : List S72} {i : Nat} {p : S72} (hp : ps[i]? = some p) : essB a ps i p = true ↔ ∃ x, x < 2 ^ a ∧ aloneE ps i x := by
 unfold essB
 rw [decide_eq_true_eq, andNot_zero]
 constructor
 ·intro h
  apply Classical.byContradiction
  intro hno
  apply h
  intro x hx
  have hx' := (covN_bit p x).1 hx
  rw [restR_bit]
  right
  apply Classical.byContradiction
  intro hno2
  refine hno ⟨x, hx'.1, ⟨p, hp, hx'.2⟩, fun k q hk hq => ?_⟩
  cases c : covE q x with
  | false => rfl
  | true => exact absurd ⟨k, q, by omega, hq, (covN_bit q x).2 ⟨hx'.1, c⟩⟩ hno2
 ·rintro ⟨x, hx, ⟨p', hp', hc⟩, hall⟩ h
  have : p = p' := Option.some.inj (hp.symm.trans hp')
  subst this
  have h1 := h x ((covN_bit p x).2 ⟨hx, hc⟩)
  rw [restR_bit] at h1
  rcases h1 with h1 | ⟨k, q, hk, hq, hb⟩
  ·simp at h1
  ·have h2 := hall k q (by omega) hq
   rw [((covN_bit q x).1 hb).2] at h2
   exact absurd h2 (by decide)
/-- Marked behind the indices below x. -/
def markB (l : List Int) (ps : List S72) : Nat → Nat → Bool
 | 0, _ => false
 | x + 1, j => if rd l (x : Int) = 1 ∧ covL x ps 0 = [(j : Int)] then true else markB l ps x j
theorem markB_iff (l : List Int) (ps : List S72) (j : Nat) (x : Nat) : markB l ps x j = true ↔ ∃ y, y < x ∧ rd l (y : Int) = 1 ∧ covL y ps 0 = [(j : Int)] := by
 induction x with
 | zero => simp [markB]
 | succ x ih =>
  rw [markB]
  by_cases c : rd l (x : Int) = 1 ∧ covL x ps 0 = [(j : Int)]
  ·rw [if_pos c]
   exact ⟨fun _ => ⟨x, by omega, c⟩, fun _ => rfl⟩
  ·rw [if_neg c, ih]
   constructor
   ·rintro ⟨y, hy, h⟩
    exact ⟨y, by omega, h⟩
   ·rintro ⟨y, hy, h⟩
    by_cases e : y = x
    ·subst e; exact absurd h c
    ·exact ⟨y, by omega, h⟩
theorem ess_mark {a : Nat} {l : List Int} {ps : List S72} {i : Nat} {p : S72} (hl : l.length = 2 ^ a) (hb : ∀ x ∈ l, 0 ≤ x ∧ x ≤ 1) (hg : ∀ p ∈ ps, goodP l p) (hp : ps[i]? = some p) : essB a ps i p = markB l ps (2 ^ a) i := by
 rw [Bool.eq_iff_iff, essB_iff hp, markB_iff]
 constructor
 ·rintro ⟨x, hx, hal⟩
  refine ⟨x, hx, ?_, (covL_one x ps 0 i).2 ⟨i, by omega, hal⟩⟩
  obtain ⟨⟨p', hp', hc⟩, _⟩ := hal
  have : p = p' := Option.some.inj (hp.symm.trans hp')
  subst this
  obtain ⟨m, v, _, _, rfl, himp⟩ := hg p (List.mem_of_getElem? hp)
  unfold impliesM at himp
  rw [List.all_eq_true] at himp
  have hcx : x &&& m = v := by simpa [covE] using hc
  have h1 := himp (x : Int) (mem_idxM (Nat.le_refl _) (by omega) (by omega) hcx)
  have h2 : rd l (x : Int) ≠ 0 := of_decide_eq_true h1
  have h3 : rd l (x : Int) = l[x]'(by omega) := getDN (by omega)
  have h4 := hb _ (List.getElem_mem (show x < l.length by omega))
  omega
 ·rintro ⟨y, hy, _, hc⟩
  obtain ⟨k, hk, hal⟩ := (covL_one y ps 0 i).1 hc
  rw [show i = k by omega]
  exact ⟨y, hy, hal⟩
/-- The essential ones of r, the first of number i. -/
def essL (a : Nat) (ps : List S72) : List S72 → Nat → List S72
 | [], _ => []
 | p :: r, i => (if essB a ps i p = true then [p] else []) ++ essL a ps r (i + 1)
theorem essL_length (a : Nat) (ps : List S72) (r : List S72) : ∀ i, (essL a ps r i).length ≤ r.length := by
 induction r with
 | nil => intro i; simp [essL]
 | cons p r ih =>
  intro i
  have := ih (i + 1)
  rw [essL]
  split <;> simp <;> omega
/-! #### essFacts -/
theorem primes_facts {a : Nat} (ha : a ≤ 4) (l : List Int) : (masksM l a 0 (2 ^ a)).length ≤ 256 ∧ ∀ p ∈ masksM l a 0 (2 ^ a), goodP l p := by
 have h8 : 2 ^ a ≤ 2 ^ 4 := Nat.pow_le_pow_right (by decide) ha
 have h1 := masksM_length l a 16 (2 ^ a) 0 (by omega)
 exact ⟨by omega, masksM_good l a (2 ^ a) 0 (by omega)⟩
/-! #### implD -/
theorem DrawIsImplicant_ok {c : List Int} (hc : bytesOk c) : ∃ (n : Int) (ys : List Int) (x y : Int), Ev (fun k => spec_DrawIsImplicant.f k c) (n, ys, x, y) ∧ ys.length ≤ 32 ∧ I64 y := by
 obtain ⟨n, ys, a1, m1, e1, ha1, hl, hn⟩ := anyTable_ok hc 0 0 (by omega) (by omega)
 obtain ⟨x, y, a2, m2, e2, ha2, hx, hy⟩ := termOf_ok hc a1 m1 n (by omega) (by omega)
 have base : ∀ a m, Ev (fun k => spec_DrawIsImplicant.j0 k false c a m n ys x y) (n, ys, x, y) := by
  intro a m
  apply ev_up
  simp only [spec_DrawIsImplicant.j0]
  exact ev_n (by simp) (Ev.now _)
 by_cases hg : tableM n ys = true
 ·obtain ⟨b, a3, m3, e3, ha3⟩ := one_ok hc a2 m2 2 (by omega) (by omega)
  have fin : ∃ (x' y' : Int), Ev (fun k => spec_DrawIsImplicant.j0 k b c a3 m3 n ys x y) (n, ys, x', y') ∧ I64 y' := by
   cases b with
   | false => exact ⟨x, y, base a3 m3, hy⟩
   | true =>
    obtain ⟨a, rfl, ha, hla, hl16, _⟩ := tableM_of hg
    have hp := spec_nfPrimes_ev a ys ha hla hl16
    obtain ⟨hpl, hpg⟩ := primes_facts ha ys
    generalize masksM ys a 0 (2 ^ a) = ps at hp hpl hpg
    cases ps with
    | nil =>
     refine ⟨x, y, ?_, hy⟩
     apply ev_up
     simp only [spec_DrawIsImplicant.j0]
     exact ev_p (by trivial) (Ev.bind hp (ev_n (by simp) (Ev.now _)))
    | cons p0 pr =>
     obtain ⟨i, a4, m4, e4, ha4, hi0, hi1⟩ := pick_ok hc a3 m3 ((p0 :: pr).length : Int) (by omega) (by omega)
     have hi2 : i.toNat < (p0 :: pr).length := by simp at hi1 ⊢; omega
     refine ⟨(rd_T72 (p0 :: pr) i).f0, (rd_T72 (p0 :: pr) i).f1, ?_, ?_⟩
     ·apply ev_up
      simp only [spec_DrawIsImplicant.j0]
      refine ev_p (by trivial) (Ev.bind hp (ev_p (by rw [List.length_cons]; omega) ?_))
      rw [e4]
      exact Ev.bind (ev_c rfl) (ev_p hi0 (ev_p (by simp at hi1 ⊢; omega) (Ev.now _)))
     ·have hm : rd_T72 (p0 :: pr) i ∈ p0 :: pr := by
       show (p0 :: pr).getD i.toNat _ ∈ _
       rw [List.getD_eq_getElem?_getD, List.getElem?_eq_getElem hi2]
       exact List.getElem_mem _
      obtain ⟨u, v, hu, hv, e, _⟩ := hpg _ hm
      rw [e]
      unfold I64
      dsimp only
      omega
  obtain ⟨x', y', ef, hf⟩ := fin
  refine ⟨n, ys, x', y', ?_, hl, hf⟩
  unfold spec_DrawIsImplicant.f
  refine Ev.bind e1 ?_
  dsimp only
  rw [e2]
  refine Ev.bind (ev_c rfl) (Ev.bind (spec_ttGood_ev n ys (by omega)) (ev_p hg ?_))
  dsimp only
  rw [e3]
  exact Ev.bind (ev_c rfl) ef
 ·refine ⟨n, ys, x, y, ?_, hl, hy⟩
  unfold spec_DrawIsImplicant.f
  refine Ev.bind e1 ?_
  dsimp only
  rw [e2]
  exact Ev.bind (ev_c rfl) (Ev.bind (spec_ttGood_ev n ys (by omega)) (ev_n hg (base _ _)))
/-! #### strNums -/
theorem strOfNums_one (n : Int) : (strOfNums [n]).size = 1 := rfl
theorem strOfNums_append (a b : List Int) : strOfNums (a ++ b) = strOfNums a ++ strOfNums b := by
 apply ByteArray.ext
 simp [strOfNums, ByteArray.data_append]
theorem strOfNums_size (a : List Int) : (strOfNums a).size = a.length := by
 simp [strOfNums, ByteArray.size]
/-! #### readD -/
theorem of_ok {c : List Int} (hc : bytesOk c) (at_ m : Int) (h0 : 0 ≤ at_) (h1 : at_ ≤ 999999990) : ∃ s a' m', spec_l1Cur_of.f c at_ m [(⟨#[48]⟩ : ByteArray), (⟨#[49]⟩ : ByteArray), (⟨#[45]⟩ : ByteArray)] = some (s, a', m') ∧ (at_ ≤ a' ∧ a' ≤ at_ + 2) ∧ s.size = 1 := by
 unfold spec_l1Cur_of.f
 obtain ⟨r, a, m1, e, ha, hr0, hr1⟩ := pick_ok hc at_ m (([(⟨#[48]⟩ : ByteArray), (⟨#[49]⟩ : ByteArray), (⟨#[45]⟩ : ByteArray)].length : Int)) h0 h1
 have hl : (([(⟨#[48]⟩ : ByteArray), (⟨#[49]⟩ : ByteArray), (⟨#[45]⟩ : ByteArray)].length : Int)) = 3 := rfl
 have hr2 : r < 3 := by omega
 rw [e, Option.bind_some]
 dsimp only
 rw [if_pos hr0, if_pos (by omega)]
 refine ⟨_, _, _, rfl, ha, ?_⟩
 obtain ⟨q, rfl⟩ := nat_of hr0
 have : q = 0 ∨ q = 1 ∨ q = 2 := by omega
 rcases this with rfl | rfl | rfl <;> rfl
theorem spoilt_l0 {c : List Int} (hc : bytesOk c) (y : ByteArray) (hy : 0 < y.size) (d : Nat) : ∀ (x : ByteArray) (at_ m : Int), x.size + d ≤ 1000 → 0 ≤ at_ → at_ + 10 * d ≤ 900000000 → ∃ s a' m', Ev (fun k => spec_l1Cur_spoilt.l0 k x y d c at_ m) (s, a', m') := by
 induction d with
 | zero =>
  intro x at_ m hx h0 h1
  refine ⟨x, at_, m, ?_⟩
  apply ev_up
  simp only [spec_l1Cur_spoilt.l0]
  refine ev_n (by omega) ?_
  apply ev_up
  simp only [spec_l1Cur_spoilt.j1]
  exact ev_n (by simp) (Ev.now _)
 | succ d ih =>
  intro x at_ m hx h0 h1
  by_cases cx : (x.size : Int) > 0
  ·obtain ⟨p, a1, m1, e1, ha1, hp0, hp1⟩ := pick_ok hc at_ m (x.size : Int) h0 (by omega)
   obtain ⟨q, a2, m2, e2, ha2, hq0, hq1⟩ := pick_ok hc a1 m1 (y.size : Int) (by omega) (by omega)
   obtain ⟨z, a3, m3, e3, ha3, _⟩ := pick_ok hc a2 m2 3 (by omega) (by omega)
   have hq2 : q < (y.size : Int) := by omega
   have hp2 : p < (x.size : Int) := by omega
   have s1 : (x.extract 0 p.toNat).size = p.toNat := by rw [ByteArray.size_extract]; omega
   have s2 : (x.extract p.toNat x.size).size = x.size - p.toNat := by rw [ByteArray.size_extract]; omega
   have s3 : (x.extract (p + 1).toNat x.size).size = x.size - (p.toNat + 1) := by rw [ByteArray.size_extract]; omega
   have s4 : (strOfNums [bt y q]).size = 1 := strOfNums_one _
   have fin : ∃ s a' m', Ev (fun k => if z = 0 then spec_l1Cur_spoilt.l0 k ((x.extract 0 p.toNat ++ strOfNums [bt y q]) ++ x.extract p.toNat x.size) y d c a3 m3 else if z = 1 then spec_l1Cur_spoilt.l0 k ((x.extract 0 p.toNat ++ strOfNums [bt y q]) ++ x.extract (p + 1).toNat x.size) y d c a3 m3 else spec_l1Cur_spoilt.l0 k (x.extract 0 p.toNat ++ x.extract (p + 1).toNat x.size) y d c a3 m3) (s, a', m') := by
    by_cases z0 : z = 0
    ·obtain ⟨s, a', m', e⟩ := ih ((x.extract 0 p.toNat ++ strOfNums [bt y q]) ++ x.extract p.toNat x.size) a3 m3 (by rw [ByteArray.size_append, ByteArray.size_append, s1, s2, s4]; omega) (by omega) (by omega)
     exact ⟨s, a', m', ev_p z0 e⟩
    by_cases z1 : z = 1
    ·obtain ⟨s, a', m', e⟩ := ih ((x.extract 0 p.toNat ++ strOfNums [bt y q]) ++ x.extract (p + 1).toNat x.size) a3 m3 (by rw [ByteArray.size_append, ByteArray.size_append, s1, s3, s4]; omega) (by omega) (by omega)
     exact ⟨s, a', m', ev_n z0 (ev_p z1 e)⟩
    ·obtain ⟨s, a', m', e⟩ := ih (x.extract 0 p.toNat ++ x.extract (p + 1).toNat x.size) a3 m3 (by rw [ByteArray.size_append, s1, s3]; omega) (by omega) (by omega)
     exact ⟨s, a', m', ev_n z0 (ev_n z1 e)⟩
   obtain ⟨s, a', m', e⟩ := fin
   refine ⟨s, a', m', ?_⟩
   apply ev_up
   simp only [spec_l1Cur_spoilt.l0]
   refine ev_p (by omega) ?_
   apply ev_up
   simp only [spec_l1Cur_spoilt.j1]
   refine ev_p (decide_eq_true cx) ?_
   rw [e1]
   refine Ev.bind (ev_c rfl) ?_
   dsimp only
   rw [e2]
   refine Ev.bind (ev_c rfl) (ev_p hq0 (ev_p hq2 (Ev.bind (ev_c rfl) ?_)))
   dsimp only
   rw [e3]
   refine Ev.bind (ev_c rfl) ?_
   dsimp only
   rw [w64 (n := p + 1) (by omega) (by omega), wN (n := ((d + 1 : Nat) : Int) - 1) (m := d) (by push_cast; omega) (by omega)]
   by_cases z0 : z = 0
   ·refine ev_p z0 (ev_p hp0 (ev_p (by omega) (ev_p (by rw [s1, s4]; omega) (ev_p (by rw [ByteArray.size_append, s1, s2, s4]; omega) ?_))))
    simpa only [if_pos z0] using e
   refine ev_n z0 ?_
   simp only [if_neg z0] at e
   by_cases z1 : z = 1
   ·refine ev_p z1 (ev_p hp0 (ev_p (by omega) (ev_p (by rw [s1, s4]; omega) (ev_p (by omega) (ev_p (by omega) (ev_p (by rw [ByteArray.size_append, s1, s3, s4]; omega) ?_))))))
    simpa only [if_pos z1] using e
   ·refine ev_n z1 (ev_p hp0 (ev_p (by omega) (ev_p (by omega) (ev_p (by omega) (ev_p (by rw [s1, s3]; omega) ?_)))))
    simpa only [if_neg z1] using e
  ·refine ⟨x, at_, m, ?_⟩
   apply ev_up
   simp only [spec_l1Cur_spoilt.l0]
   refine ev_p (by omega) ?_
   apply ev_up
   simp only [spec_l1Cur_spoilt.j1]
   exact ev_n (by simpa using cx) (Ev.now _)
theorem DrawReadTerm_l0 {c : List Int} (hc : bytesOk c) (w : Nat) (hw : w ≤ 5) (d : Nat) : ∀ (s : ByteArray) (at_ m : Int), s.size + d = w → 0 ≤ at_ → at_ + 10 * d ≤ 1000000 → ∃ r, Ev (fun k => spec_DrawReadTerm.l0 k w s c at_ m) r := by
 induction d with
 | zero =>
  intro s at_ m hs h0 h1
  obtain ⟨b, a1, m1, e1, ha1⟩ := one_ok hc at_ m 6 h0 (by omega)
  cases b with
  | false =>
   refine ⟨s, ?_⟩
   apply ev_up
   simp only [spec_DrawReadTerm.l0]
   refine ev_n (by omega) ?_
   rw [e1]
   exact Ev.bind (ev_c rfl) (ev_n (by simp) (Ev.now _))
  | true =>
   obtain ⟨q, a2, m2, e2, ha2, hq0, hq1⟩ := pick_ok hc a1 m1 2 (by omega) (by omega)
   obtain ⟨Q, rfl⟩ := nat_of hq0
   obtain ⟨r, a3, m3, e3⟩ := spoilt_l0 hc (⟨#[48, 49, 45, 50, 32]⟩ : ByteArray) (by decide) (1 + Q) s a2 m2 (by omega) (by omega) (by omega)
   have es : Ev (fun k => spec_l1Cur_spoilt.f k c a1 m1 s (⟨#[48, 49, 45, 50, 32]⟩ : ByteArray)) (r, a3, m3) := by
    unfold spec_l1Cur_spoilt.f
    rw [e2]
    refine Ev.bind (ev_c rfl) ?_
    dsimp only
    rw [wN (n := 1 + (Q : Int)) (m := 1 + Q) (by push_cast; rfl) (by omega)]
    exact e3
   refine ⟨r, ?_⟩
   apply ev_up
   simp only [spec_DrawReadTerm.l0]
   refine ev_n (by omega) ?_
   rw [e1]
   exact Ev.bind (ev_c rfl) (ev_p rfl (Ev.bind es (Ev.now _)))
 | succ d ih =>
  intro s at_ m hs h0 h1
  obtain ⟨x, a1, m1, e1, ha1, hx⟩ := of_ok hc at_ m h0 (by omega)
  obtain ⟨r, e⟩ := ih (s ++ x) a1 m1 (by rw [ByteArray.size_append, hx]; omega) (by omega) (by omega)
  refine ⟨r, ?_⟩
  apply ev_up
  simp only [spec_DrawReadTerm.l0]
  refine ev_p (by omega) ?_
  rw [e1]
  exact Ev.bind (ev_c rfl) (ev_p (by dsimp only; rw [hx]; omega) e)
theorem DrawReadTerm_ok {c : List Int} (hc : bytesOk c) : ∃ s, Ev (fun k => spec_DrawReadTerm.f k c) s := by
 obtain ⟨n, a1, m1, e1, ha1, hn⟩ := among_ok hc 0 0 [0, 1, 2, 3, 4, 4, 5] (by simp) (by omega) (by omega)
 obtain ⟨w, rfl, hw⟩ : ∃ w : Nat, n = w ∧ w ≤ 5 := by
  have : 0 ≤ n ∧ n ≤ 5 := by simp at hn; omega
  exact ⟨n.toNat, by omega, by omega⟩
 obtain ⟨r, e⟩ := DrawReadTerm_l0 hc w hw w (⟨#[]⟩ : ByteArray) a1 m1 (by show 0 + w = w; omega) (by omega) (by omega)
 refine ⟨r, ?_⟩
 unfold spec_DrawReadTerm.f
 rw [e1]
 exact Ev.bind (ev_c rfl) e
/-! #### qTerms -/
theorem qTerms_l0 (l : List S72) (hl : l.length ≤ 9223372036854775806) (r : List S72) : ∀ (p : List S72) (i : Int), i = p.length → l = p ++ r → Ev (fun k => laws_qTerms.l0 k l l l.length i) true := by
 induction r with
 | nil =>
  intro p i hi e
  have hlen : l.length = p.length := by rw [e]; simp
  apply ev_up
  simp only [laws_qTerms.l0]
  exact ev_n (by omega) (Ev.now _)
 | cons x r ih =>
  intro p i hi e
  have hlen : l.length = p.length + r.length + 1 := by rw [e]; simp; omega
  have ih' := ih (p ++ [x]) (i + 1) (by simp; omega) (by rw [e]; simp)
  apply ev_up
  simp only [laws_qTerms.l0]
  refine ev_p (by omega) (ev_p (by omega) (ev_p (by omega) (ev_p (by omega) (ev_n (by simp) ?_))))
  rw [w64 (n := i + 1) (by omega) (by omega)]
  exact ih'
theorem qTerms_self (l : List S72) (hl : l.length ≤ 9223372036854775806) : Ev (fun k => laws_qTerms.f k l l) true := by
 unfold laws_qTerms.f
 exact ev_p rfl (qTerms_l0 l hl l [] 0 rfl rfl)
/-! #### qInts -/
theorem qInts_l0 (l : List Int) (hl : l.length ≤ 9223372036854775806) (r : List Int) : ∀ (p : List Int) (i : Int), i = p.length → l = p ++ r → Ev (fun k => laws_qInts.l0 k l l l.length i) true := by
 induction r with
 | nil =>
  intro p i hi e
  have hlen : l.length = p.length := by rw [e]; simp
  apply ev_up
  simp only [laws_qInts.l0]
  exact ev_n (by omega) (Ev.now _)
 | cons x r ih =>
  intro p i hi e
  have hlen : l.length = p.length + r.length + 1 := by rw [e]; simp; omega
  have ih' := ih (p ++ [x]) (i + 1) (by simp; omega) (by rw [e]; simp)
  apply ev_up
  simp only [laws_qInts.l0]
  refine ev_p (by omega) (ev_p (by omega) (ev_p (by omega) (ev_p (by omega) (ev_p (by trivial) ?_))))
  rw [w64 (n := i + 1) (by omega) (by omega)]
  exact ih'
theorem qInts_self (l : List Int) (hl : l.length ≤ 9223372036854775806) : Ev (fun k => laws_qInts.f k l l) true := by
 unfold laws_qInts.f
 exact ev_p rfl (qInts_l0 l hl l [] 0 rfl rfl)
/-! #### primeOver -/
/-- The pairs that a mask allows. -/
def cntV (m : Nat) : Nat → Nat → Nat
 | _, 0 => 0
 | v, d + 1 => (if v &&& m = v then 1 else 0) + cntV m (v + 1) d
def cntM : Nat → Nat → Nat
 | _, 0 => 0
 | m, d + 1 => cntV m 0 (m + 1) + cntM (m + 1) d
theorem valsM_cnt (l : List Int) (a m : Nat) (d : Nat) : ∀ v, (valsM l a m v d).length ≤ cntV m v d := by
 induction d with
 | zero => intro v; simp [valsM]
 | succ d ih =>
  intro v
  have := ih (v + 1)
  rw [valsM, cntV, List.length_append]
  by_cases c : v &&& m = v
  ·rw [if_pos c]
   split <;> simp <;> omega
  ·rw [if_neg c, if_neg (fun hh => c hh.1)]
   simpa using this
theorem masksM_cnt (l : List Int) (a : Nat) (d : Nat) : ∀ m, (masksM l a m d).length ≤ cntM m d := by
 induction d with
 | zero => intro m; simp [masksM]
 | succ d ih =>
  intro m
  have h1 := ih (m + 1)
  have h2 := valsM_cnt l a m (m + 1) 0
  rw [masksM, cntM, List.length_append]
  omega
theorem primes_81 {a : Nat} (ha : a ≤ 4) (l : List Int) : (masksM l a 0 (2 ^ a)).length ≤ 81 := by
 refine Nat.le_trans (masksM_cnt l a (2 ^ a) 0) ?_
 have : ∀ a : Fin 5, cntM 0 (2 ^ a.1) ≤ 81 := by decide +kernel
 exact this ⟨a, by omega⟩
theorem primeF_false (l : List Int) (m v : Nat) (d : Nat) : ∀ (fit : Bool) (i : Nat), primeF l m v fit i d = false → fit = false ∨ ∃ j, i ≤ j ∧ j < i + d ∧ (m >>> j) % 2 = 1 ∧ impliesM l (clrB m j) (clrB v j) = true := by
 induction d with
 | zero => intro fit i h; exact Or.inl h
 | succ d ih =>
  intro fit i h
  rw [primeF] at h
  by_cases c : (m >>> i) % 2 = 1 ∧ impliesM l (clrB m i) (clrB v i) = true
  ·exact Or.inr ⟨i, Nat.le_refl _, by omega, c.1, c.2⟩
  ·rw [if_neg c] at h
   rcases ih fit (i + 1) h with h | ⟨j, h1, h2, h3⟩
   ·exact Or.inl h
   ·exact Or.inr ⟨j, by omega, by omega, h3⟩
theorem mem_valsM (l : List Int) (a m v : Nat) (h : v &&& m = v ∧ impliesM l m v = true ∧ primeF l m v true 0 a = true) (d : Nat) : ∀ v0, v0 ≤ v → v < v0 + d → (⟨(m : Int), (v : Int)⟩ : S72) ∈ valsM l a m v0 d := by
 induction d with
 | zero => intro v0 h1 h2; omega
 | succ d ih =>
  intro v0 h1 h2
  rw [valsM, List.mem_append]
  by_cases c : v = v0
  ·subst c
   left
   rw [if_pos h]
   simp
  ·exact Or.inr (ih (v0 + 1) (by omega) (by omega))
theorem mem_masksM (l : List Int) (a m : Nat) (p : S72) (h : p ∈ valsM l a m 0 (m + 1)) (d : Nat) : ∀ m0, m0 ≤ m → m < m0 + d → p ∈ masksM l a m0 d := by
 induction d with
 | zero => intro m0 h1 h2; omega
 | succ d ih =>
  intro m0 h1 h2
  rw [masksM, List.mem_append]
  by_cases c : m = m0
  ·subst c
   exact Or.inl h
  ·exact Or.inr (ih (m0 + 1) (by omega) (by omega))
/-- Above each term that implies the table stands a prime one, over the same index. -/
theorem prime_over (l : List Int) (a : Nat) (ha : a ≤ 4) (x : Nat) (hx : x < 2 ^ a) (N : Nat) : ∀ m, m ≤ N → m < 2 ^ a → impliesM l m (x &&& m) = true → ∃ p ∈ masksM l a 0 (2 ^ a), covE p x = true := by
 have h8 : 2 ^ a ≤ 2 ^ 4 := Nat.pow_le_pow_right (by decide) ha
 induction N with
 | zero =>
  intro m hm hma hi
  obtain rfl : m = 0 := by omega
  have hp : primeF l 0 (x &&& 0) true 0 a = true := by
   cases c : primeF l 0 (x &&& 0) true 0 a with
   | true => rfl
   | false =>
    rcases primeF_false l 0 (x &&& 0) a true 0 c with h | ⟨j, _, _, h, _⟩
    ·cases h
    ·simp at h
  refine ⟨_, mem_masksM l a 0 _ (mem_valsM l a 0 (x &&& 0) ⟨by simp, hi, hp⟩ 1 0 (by omega) (by simp)) (2 ^ a) 0 (by omega) (by omega), ?_⟩
  unfold covE
  simp
 | succ N ih =>
  intro m hm hma hi
  cases c : primeF l m (x &&& m) true 0 a with
  | true =>
   have hle : x &&& m ≤ m := Nat.and_le_right
   have hvm : (x &&& m) &&& m = x &&& m := by rw [Nat.and_assoc, Nat.and_self]
   refine ⟨_, mem_masksM l a m _ (mem_valsM l a m (x &&& m) ⟨hvm, hi, c⟩ (m + 1) 0 (by omega) (by omega)) (2 ^ a) 0 (by omega) (by omega), ?_⟩
   unfold covE
   simp
  | false =>
   rcases primeF_false l m (x &&& m) a true 0 c with h | ⟨j, _, hj, h, hi2⟩
   ·cases h
   ·have hle : x &&& m ≤ m := Nat.and_le_right
    have hb := (bits_f m (x &&& m) j (by omega) (by omega) (by omega)).2 h
    have e : clrB (x &&& m) j = x &&& clrB m j := by
     rw [← hb.2.2.2, ← hb.2.2.1]
     apply Nat.eq_of_testBit_eq
     intro y
     simp only [Nat.testBit_xor, Nat.testBit_and]
     cases x.testBit y <;> cases m.testBit y <;> cases (2 ^ j).testBit y <;> rfl
    rw [e] at hi2
    have hpos : 0 < 2 ^ j := Nat.two_pow_pos j
    exact ih (clrB m j) (by omega) (by omega) hi2
theorem cover_all (l : List Int) (a : Nat) (ha : a ≤ 4) (hl : l.length = 2 ^ a) (x : Nat) (hx : x < 2 ^ a) (h1 : rd l (x : Int) ≠ 0) : ∃ p ∈ masksM l a 0 (2 ^ a), covE p x = true := by
 refine prime_over l a ha x hx (2 ^ a) (2 ^ a - 1) (by omega) (by have := Nat.two_pow_pos a; omega) ?_
 unfold impliesM
 rw [List.all_eq_true]
 intro y hy
 rw [hl] at hy
 obtain ⟨j, rfl, _, hj, h2⟩ := idxM_mem (Nat.le_refl _) hy
 have e : j = x := by
  rw [Nat.and_two_pow_sub_one_eq_mod, Nat.and_two_pow_sub_one_eq_mod, Nat.mod_eq_of_lt hj, Nat.mod_eq_of_lt hx] at h2
  exact h2
 subst e
 unfold nz
 exact decide_eq_true h1
/-! #### primeFacts -/
def ltT (p q : S72) : Prop := p.f0 < q.f0 ∨ (p.f0 = q.f0 ∧ p.f1 < q.f1)
theorem valsM_mem (l : List Int) (a m : Nat) (d : Nat) : ∀ v, ∀ p ∈ valsM l a m v d, ∃ y : Nat, v ≤ y ∧ y < v + d ∧ p = ⟨(m : Int), (y : Int)⟩ ∧ y &&& m = y ∧ impliesM l m y = true ∧ primeF l m y true 0 a = true := by
 induction d with
 | zero => intro v p hp; simp [valsM] at hp
 | succ d ih =>
  intro v p hp
  rw [valsM, List.mem_append] at hp
  rcases hp with hp | hp
  ·split at hp
   ·rename_i h
    rw [List.mem_singleton] at hp
    exact ⟨v, by omega, by omega, hp, h⟩
   ·simp at hp
  ·obtain ⟨y, h1, h2, h3⟩ := ih (v + 1) p hp
   exact ⟨y, by omega, by omega, h3⟩
theorem masksM_mem (l : List Int) (a : Nat) (d : Nat) : ∀ m, ∀ p ∈ masksM l a m d, ∃ x y : Nat, m ≤ x ∧ x < m + d ∧ y ≤ x ∧ p = ⟨(x : Int), (y : Int)⟩ ∧ y &&& x = y ∧ impliesM l x y = true ∧ primeF l x y true 0 a = true := by
 induction d with
 | zero => intro m p hp; simp [masksM] at hp
 | succ d ih =>
  intro m p hp
  rw [masksM, List.mem_append] at hp
  rcases hp with hp | hp
  ·obtain ⟨y, h1, h2, h3⟩ := valsM_mem l a m (m + 1) 0 p hp
   exact ⟨m, y, by omega, by omega, by omega, h3⟩
  ·obtain ⟨x, y, h1, h2, h3⟩ := ih (m + 1) p hp
   exact ⟨x, y, by omega, by omega, h3⟩
theorem valsM_sorted (l : List Int) (a m : Nat) (d : Nat) : ∀ v, (valsM l a m v d).Pairwise ltT := by
 induction d with
 | zero => intro v; simp [valsM]
 | succ d ih =>
  intro v
  rw [valsM, List.pairwise_append]
  refine ⟨by split <;> simp, ih (v + 1), fun p hp q hq => ?_⟩
  split at hp
  ·rw [List.mem_singleton] at hp
   obtain ⟨y, h1, _, h3, _⟩ := valsM_mem l a m d (v + 1) q hq
   subst hp h3
   exact Or.inr ⟨rfl, by dsimp only; omega⟩
  ·simp at hp
theorem masksM_sorted (l : List Int) (a : Nat) (d : Nat) : ∀ m, (masksM l a m d).Pairwise ltT := by
 induction d with
 | zero => intro m; simp [masksM]
 | succ d ih =>
  intro m
  rw [masksM, List.pairwise_append]
  refine ⟨valsM_sorted l a m _ 0, ih (m + 1), fun p hp q hq => ?_⟩
  obtain ⟨y, _, _, h3, _⟩ := valsM_mem l a m (m + 1) 0 p hp
  obtain ⟨x, z, h4, _, _, h5, _⟩ := masksM_mem l a d (m + 1) q hq
  subst h3 h5
  exact Or.inl (by dsimp only; omega)
theorem primeF_no (l : List Int) (m v : Nat) (d : Nat) : ∀ i, primeF l m v false i d = false := by
 induction d with
 | zero => intro i; rfl
 | succ d ih =>
  intro i
  rw [primeF]
  split <;> exact ih _
theorem primeF_all (l : List Int) (m v : Nat) (d : Nat) : ∀ i, primeF l m v true i d = true → ∀ j, i ≤ j → j < i + d → (m >>> j) % 2 = 1 → impliesM l (clrB m j) (clrB v j) = false := by
 induction d with
 | zero => intro i _ j h1 h2; omega
 | succ d ih =>
  intro i h j h1 h2 hb
  rw [primeF] at h
  by_cases c : (m >>> i) % 2 = 1 ∧ impliesM l (clrB m i) (clrB v i) = true
  ·rw [if_pos c, primeF_no] at h
   simp at h
  ·rw [if_neg c] at h
   by_cases e : j = i
   ·subst e
    cases hi : impliesM l (clrB m j) (clrB v j) with
    | false => rfl
    | true => exact absurd ⟨hb, hi⟩ c
   ·exact ih (i + 1) h j (by omega) (by omega) hb
theorem ltT_get {ps : List S72} (h : ps.Pairwise ltT) {i j : Nat} {p q : S72} (hp : ps[i]? = some p) (hq : ps[j]? = some q) (hij : i < j) : ltT p q := by
 rw [List.pairwise_iff_getElem] at h
 obtain ⟨h1, rfl⟩ := List.getElem?_eq_some_iff.1 hp
 obtain ⟨h2, rfl⟩ := List.getElem?_eq_some_iff.1 hq
 exact h i j h1 h2 hij
theorem at_once {ps : List S72} (h : ps.Pairwise ltT) {i j : Nat} {p : S72} (hp : ps[i]? = some p) (hq : ps[j]? = some p) : i = j := by
 have no : ¬ ltT p p := fun c => by unfold ltT at c; omega
 rcases Nat.lt_trichotomy i j with c | c | c
 ·exact absurd (ltT_get h hp hq c) no
 ·exact c
 ·exact absurd (ltT_get h hq hp c) no
theorem cov_zero (x : Nat) (r : List S72) : r.countP (fun p => covE p x) = 0 ↔ ∀ (k : Nat) (q : S72), r[k]? = some q → covE q x = false := by
 rw [List.countP_eq_zero]
 constructor
 ·intro h k q hq
  simpa using h q (List.mem_of_getElem? hq)
 ·intro h p hp
  obtain ⟨k, hk⟩ := List.mem_iff_getElem?.1 hp
  simp [h k p hk]
theorem cov_one (x : Nat) (r : List S72) : ∀ (i : Nat) (p : S72), r[i]? = some p → covE p x = true → (r.countP (fun p => covE p x) = 1 ↔ ∀ (k : Nat) (q : S72), k ≠ i → r[k]? = some q → covE q x = false) := by
 induction r with
 | nil => intro i p h; simp at h
 | cons s r ih =>
  intro i p hp hc
  rw [List.countP_cons]
  cases i with
  | zero =>
   have : s = p := by simpa using hp
   subst this
   rw [if_pos hc]
   have h0 := cov_zero x r
   constructor
   ·intro h k q hk hq
    cases k with
    | zero => exact absurd rfl hk
    | succ k => exact h0.1 (by omega) k q (by simpa using hq)
   ·intro h
    have := h0.2 (fun k q hq => h (k + 1) q (by omega) (by simpa using hq))
    omega
  | succ i =>
   have hp' : r[i]? = some p := by simpa using hp
   have h1 := ih i p hp' hc
   have hpos : 0 < r.countP (fun p => covE p x) := List.countP_pos_iff.2 ⟨p, List.mem_of_getElem? hp', hc⟩
   by_cases cs : covE s x = true
   ·rw [if_pos cs]
    constructor
    ·intro h; omega
    ·intro h
     have := h 0 s (by omega) (by simp)
     rw [cs] at this
     simp at this
   ·rw [if_neg cs, Nat.add_zero, h1]
    constructor
    ·intro h k q hk hq
     cases k with
     | zero =>
      have : s = q := by simpa using hq
      subst this
      simpa using cs
     | succ k => exact h k q (by omega) (by simpa using hq)
    ·intro h k q hk hq
     exact h (k + 1) q (by omega) (by simpa using hq)
theorem essL_mem (a : Nat) (ps : List S72) (q : S72) (r : List S72) : ∀ i, q ∈ essL a ps r i ↔ ∃ j, r[j]? = some q ∧ essB a ps (i + j) q = true := by
 induction r with
 | nil => intro i; simp [essL]
 | cons s r ih =>
  intro i
  rw [essL, List.mem_append, ih (i + 1)]
  constructor
  ·rintro (h | ⟨j, hj, he⟩)
   ·split at h
    ·rename_i hs
     rw [List.mem_singleton] at h
     subst h
     exact ⟨0, by simp, hs⟩
    ·simp at h
   ·exact ⟨j + 1, by simpa using hj, by rw [show i + (j + 1) = i + 1 + j by omega]; exact he⟩
  ·rintro ⟨j, hj, he⟩
   cases j with
   | zero =>
    have : s = q := by simpa using hj
    subst this
    left
    rw [Nat.add_zero] at he
    rw [if_pos he]
    simp
   | succ j => exact Or.inr ⟨j, by simpa using hj, by rw [show i + 1 + j = i + (j + 1) by omega]; exact he⟩
/-- An essential term is one that covers an index alone. -/
theorem ess_alone {a : Nat} {ps : List S72} (hs : ps.Pairwise ltT) {i : Nat} {x : S72} (hx : ps[i]? = some x) : x ∈ essL a ps ps 0 ↔ ∃ y, y < 2 ^ a ∧ covE x y = true ∧ ps.countP (fun p => covE p y) = 1 := by
 rw [essL_mem]
 constructor
 ·rintro ⟨j, hj, he⟩
  rw [Nat.zero_add] at he
  obtain ⟨y, hy, ⟨p, hp, hc⟩, ho⟩ := (essB_iff hj).1 he
  have : p = x := by rw [hj] at hp; exact (Option.some.inj hp).symm
  subst this
  exact ⟨y, hy, hc, (cov_one y ps j p hj hc).2 ho⟩
 ·rintro ⟨y, hy, hc, h1⟩
  exact ⟨i, hx, by rw [Nat.zero_add]; exact (essB_iff hx).2 ⟨y, hy, ⟨x, hx, hc⟩, (cov_one y ps i x hx hc).1 h1⟩⟩
theorem idx_count (N m v : Nat) (y : Nat) (d : Nat) (hd : d ≤ N) : (idxM N m v d).count (y : Int) = if N - d ≤ y ∧ y < N ∧ y &&& m = v then 1 else 0 := by
 induction d with
 | zero =>
  rw [if_neg (by omega)]
  simp [idxM]
 | succ d ih =>
  rw [idxM, List.count_append, ih (by omega)]
  by_cases c : y = N - (d + 1)
  ·subst c
   rw [if_neg (show ¬ (N - d ≤ N - (d + 1) ∧ _) by omega)]
   by_cases c2 : N - (d + 1) &&& m = v
   ·rw [if_pos c2, if_pos ⟨by omega, by omega, c2⟩]
    simp
   ·rw [if_neg c2, if_neg (fun h => c2 h.2.2)]
    simp
  ·have h0 : (if N - (d + 1) &&& m = v then [((N - (d + 1) : Nat) : Int)] else []).count (y : Int) = 0 := by
    split
    ·rw [List.count_eq_zero]
     intro h
     rw [List.mem_singleton] at h
     omega
    ·simp
   rw [h0, Nat.zero_add]
   by_cases c2 : N - d ≤ y ∧ y < N ∧ y &&& m = v
   ·rw [if_pos c2, if_pos ⟨by omega, c2.2⟩]
   ·rw [if_neg c2, if_neg (fun h => c2 ⟨by omega, h.2⟩)]
/-! #### readTerm -/
theorem or_two_pow (m i : Nat) (h : m < 2 ^ i) : m ||| 2 ^ i = m + 2 ^ i := by
 have := Nat.two_pow_add_eq_or_of_lt h 1
 rw [Nat.mul_one] at this
 rw [Nat.or_comm, ← this, Nat.add_comm]
def readM (f : Int → Int) (i m v : Nat) : Nat → Int × Int × Bool
 | 0 => (m, v, true)
 | d + 1 => if f i = 49 then readM f (i + 1) (m + 2 ^ i) (v + 2 ^ i) d else if f i = 48 then readM f (i + 1) (m + 2 ^ i) v d else if f i = 45 then readM f (i + 1) m v d else (0, 0, false)
theorem spec_ReadTerm_l0 (s : ByteArray) (hs : s.size ≤ 4) (d : Nat) : ∀ (i m v : Nat), i + d = s.size → m < 2 ^ i → v < 2 ^ i →
  Ev (fun k => spec_ReadTerm.l0 k s i m v) (readM (bt s) i m v d) := by
 induction d with
 | zero =>
  intro i m v hi hm hv
  apply ev_up
  simp only [spec_ReadTerm.l0]
  exact ev_n (by omega) (Ev.now _)
 | succ d ih =>
  intro i m v hi hm hv
  have h8 : 2 ^ i ≤ 2 ^ 4 := Nat.pow_le_pow_right (by decide) (by omega)
  have h9 : 2 ^ (i + 1) = 2 * 2 ^ i := by rw [Nat.pow_succ]; omega
  apply ev_up
  simp only [spec_ReadTerm.l0]
  rw [u64w (by omega) (by omega), shl1 i (by omega), wN (n := (m : Int) + ((2 ^ i : Nat) : Int)) (m := m + 2 ^ i) (by omega) (by omega), wN (n := (v : Int) + ((2 ^ i : Nat) : Int)) (m := v + 2 ^ i) (by omega) (by omega), wN (n := (i : Int) + 1) (m := i + 1) (by omega) (by omega)]
  refine ev_p (by omega) (ev_p (by omega) (ev_p (by omega) ?_))
  simp only [readM]
  refine ev_ite (fun h => ?_) (fun h => ?_)
  ·rw [if_pos h]
   exact ih (i + 1) _ _ (by omega) (by omega) (by omega)
  ·rw [if_neg h]
   refine ev_ite (fun h => ?_) (fun h => ?_)
   ·rw [if_pos h]
    exact ih (i + 1) _ _ (by omega) (by omega) (by omega)
   ·rw [if_neg h]
    refine ev_ite (fun h => ?_) (fun h => ?_)
    ·rw [if_pos h]
     exact ih (i + 1) _ _ (by omega) (by omega) (by omega)
    ·rw [if_neg h]
     exact Ev.now _
theorem impl_ReadTerm_l0 (s : ByteArray) (hs : s.size ≤ 4) (d : Nat) : ∀ (i m v : Nat), i + d = s.size → m < 2 ^ i → v < 2 ^ i →
  Ev (fun k => impl_ReadTerm.l0 k s i m v) (readM (bt s) i m v d) := by
 induction d with
 | zero =>
  intro i m v hi hm hv
  apply ev_up
  simp only [impl_ReadTerm.l0]
  exact ev_n (by omega) (Ev.now _)
 | succ d ih =>
  intro i m v hi hm hv
  have h8 : 2 ^ i ≤ 2 ^ 4 := Nat.pow_le_pow_right (by decide) (by omega)
  have h9 : 2 ^ (i + 1) = 2 * 2 ^ i := by rw [Nat.pow_succ]; omega
  apply ev_up
  simp only [impl_ReadTerm.l0]
  rw [shl1 i (by omega), orN m (2 ^ i) (by omega) (by omega), orN v (2 ^ i) (by omega) (by omega), or_two_pow m i hm, or_two_pow v i hv, wN (n := (i : Int) + 1) (m := i + 1) (by omega) (by omega)]
  refine ev_p (by omega) (ev_p (by omega) ?_)
  simp only [readM]
  refine ev_ite (fun h => ?_) (fun h => ?_)
  ·rw [if_pos h]
   exact ih (i + 1) _ _ (by omega) (by omega) (by omega)
  ·rw [if_neg h]
   refine ev_ite (fun h => ?_) (fun h => ?_)
   ·rw [if_pos h]
    exact ih (i + 1) _ _ (by omega) (by omega) (by omega)
   ·rw [if_neg h]
    refine ev_ite (fun h => ?_) (fun h => ?_)
    ·rw [if_pos h]
     exact ih (i + 1) _ _ (by omega) (by omega) (by omega)
    ·rw [if_neg h]
     exact Ev.now _
def readTermM (s : ByteArray) : Int × Int × Bool := if s.size ≤ 4 then readM (bt s) 0 0 0 s.size else (0, 0, false)
theorem spec_ReadTerm_ev (s : ByteArray) : Ev (fun k => spec_ReadTerm.f k s) (readTermM s) := by
 unfold spec_ReadTerm.f readTermM
 rw [ttInputs_eq]
 refine Ev.bind (ev_c rfl) ?_
 refine ev_ite (fun h => ?_) (fun h => ?_)
 ·have h' := of_decide_eq_true h
  rw [if_pos (by omega)]
  exact spec_ReadTerm_l0 s (by omega) s.size 0 0 0 (by omega) (by omega) (by omega)
 ·rw [if_neg (fun h2 => h (decide_eq_true (by omega)))]
  exact Ev.now _
theorem impl_ReadTerm_ev (s : ByteArray) : Ev (fun k => impl_ReadTerm.f k s) (readTermM s) := by
 unfold impl_ReadTerm.f readTermM
 refine ev_ite (fun h => ?_) (fun h => ?_)
 ·rw [if_neg (by omega)]
  exact Ev.now _
 ·rw [if_pos (by omega)]
  exact impl_ReadTerm_l0 s (by omega) s.size 0 0 0 (by omega) (by omega) (by omega)
/-! #### isTermM -/
/-- What both call a valid term. -/
def isTermM (n m v : Int) : Bool := decide (0 ≤ n ∧ n ≤ 4 ∧ 0 ≤ m ∧ m < 2 ^ n.toNat ∧ 0 ≤ v ∧ v.toNat &&& m.toNat = v.toNat)
theorem isTermM_nat {n m v : Int} (h : isTermM n m v = true) : ∃ a b c : Nat, n = a ∧ m = b ∧ v = c ∧ a ≤ 4 ∧ b < 2 ^ a ∧ c &&& b = c ∧ c ≤ b ∧ b < 16 := by
 unfold isTermM at h
 simp only [decide_eq_true_eq] at h
 obtain ⟨h1, h2, h3, h4, h5, h6⟩ := h
 obtain ⟨a, rfl⟩ := nat_of h1
 obtain ⟨b, rfl⟩ := nat_of h3
 obtain ⟨c, rfl⟩ := nat_of h5
 simp only [Int.toNat_natCast] at h4 h6
 have h7 : b < 2 ^ a := by exact_mod_cast h4
 have h8 : 2 ^ a ≤ 2 ^ 4 := Nat.pow_le_pow_right (by decide) (by omega)
 refine ⟨a, b, c, rfl, rfl, rfl, by omega, h7, h6, ?_, by omega⟩
 rw [← h6]
 exact Nat.and_le_right
/-! #### impl_IsTerm -/
theorem impl_IsTerm_eq (n m v : Int) (hv : I64 v) : impl_IsTerm.f n m v = some (isTermM n m v) := by
 unfold impl_IsTerm.f
 unfold I64 at hv
 by_cases h1 : n ≥ 0
 ·rw [if_pos h1]
  by_cases h2 : n ≤ 4
  ·rw [if_pos h2]
   by_cases h3 : m ≥ 0
   ·rw [if_pos h3, if_pos h1]
    obtain ⟨a, rfl⟩ := nat_of h1
    obtain ⟨b, rfl⟩ := nat_of h3
    rw [shl1 a (by omega)]
    have h8 : 2 ^ a ≤ 2 ^ 4 := Nat.pow_le_pow_right (by decide) (by omega : a ≤ 4)
    by_cases h4 : (b : Int) < ((2 ^ a : Nat) : Int)
    ·rw [if_pos h4]
     by_cases h5 : v ≥ 0
     ·rw [if_pos h5]
      obtain ⟨c, rfl⟩ := nat_of h5
      rw [andNotN c b (by omega) (by omega)]
      congr 1
      unfold isTermM
      rw [Bool.eq_iff_iff]
      simp only [Int.toNat_natCast, beq_iff_eq, decide_eq_true_eq]
      constructor
      ·intro e
       have e2 : c ^^^ (c &&& b) = 0 := by exact_mod_cast e
       refine ⟨by omega, by omega, by omega, by exact_mod_cast h4, by omega, ((xor_eq_zero _ _).1 e2).symm⟩
      ·rintro ⟨_, _, _, _, _, e⟩
       rw [e]
       simp
     ·rw [if_neg h5]
      congr 1; symm; unfold isTermM
      exact decide_eq_false (fun h => h5 h.2.2.2.2.1)
    ·rw [if_neg h4]
     congr 1; symm; unfold isTermM
     exact decide_eq_false (fun h => h4 (by have := h.2.2.2.1; simpa using this))
   ·rw [if_neg h3]
    congr 1; symm; unfold isTermM
    exact decide_eq_false (fun h => h3 h.2.2.1)
  ·rw [if_neg h2]
   congr 1; symm; unfold isTermM
   exact decide_eq_false (fun h => h2 h.2.1)
 ·rw [if_neg h1]
  congr 1; symm; unfold isTermM
  exact decide_eq_false (fun h => h1 h.1)
/-! #### spec_nfTerm -/
theorem spec_nfTerm_eq (n m v : Int) (hv : I64 v) : spec_nfTerm.f n m v = some (isTermM n m v) := by
 unfold spec_nfTerm.f
 rw [ttInputs_eq, Option.bind_some]
 by_cases h : 0 ≤ n ∧ n ≤ 4
 ·rw [decide_eq_true h, if_pos rfl]
  obtain ⟨a, rfl⟩ := nat_of h.1
  have ha : a ≤ 4 := by omega
  rw [u64w (by omega) (by omega), if_pos (by omega), shl1 a (by omega)]
  have h8 : 2 ^ a ≤ 2 ^ 4 := Nat.pow_le_pow_right (by decide) ha
  have h9 : 0 < 2 ^ a := Nat.two_pow_pos a
  rw [w64 (by omega) (by omega), l1In_eq, Option.bind_some]
  by_cases hm : 0 ≤ m ∧ m ≤ ((2 ^ a : Nat) : Int) - 1
  ·rw [decide_eq_true hm, if_pos rfl, l1In_eq, Option.bind_some]
   obtain ⟨b, rfl⟩ := nat_of hm.1
   by_cases hc : 0 ≤ v ∧ v ≤ (b : Int)
   ·rw [decide_eq_true hc, if_pos rfl]
    obtain ⟨c, rfl⟩ := nat_of hc.1
    rw [andN c b (by omega) (by omega)]
    unfold isTermM
    simp only [Int.toNat_natCast]
    congr 1
    rw [Bool.eq_iff_iff]
    simp only [beq_iff_eq, decide_eq_true_eq]
    constructor
    ·intro e
     refine ⟨by omega, by omega, by omega, ?_, by omega, by omega⟩
     have : b < 2 ^ a := by omega
     exact_mod_cast this
    ·rintro ⟨_, _, _, _, _, e⟩
     omega
   ·rw [decide_eq_false hc, if_neg (by decide)]
    congr 1
    symm
    unfold isTermM
    apply decide_eq_false
    rintro ⟨_, _, _, _, h5, h6⟩
    obtain ⟨c, rfl⟩ := nat_of h5
    simp only [Int.toNat_natCast] at h6
    have : c &&& b ≤ b := Nat.and_le_right
    omega
  ·rw [decide_eq_false hm, if_neg (by decide)]
   congr 1
   symm
   unfold isTermM
   apply decide_eq_false
   rintro ⟨_, _, h3, h4, _, _⟩
   obtain ⟨b, rfl⟩ := nat_of h3
   simp only [Int.toNat_natCast] at h4
   have : b < 2 ^ a := by exact_mod_cast h4
   omega
 ·rw [decide_eq_false h, if_neg (by decide)]
  congr 1
  symm
  unfold isTermM
  apply decide_eq_false
  rintro ⟨h1, h2, _⟩
  exact h ⟨h1, h2⟩
/-! #### l1NumD -/
/-- A digit alone. -/
theorem spec_l1Num_digit (n : Nat) (hn : n < 10) : Ev (fun k => spec_l1Num.f k (n : Int)) (strOfNums [((48 + n : Nat) : Int)]) := by
 apply ev_up
 simp only [spec_l1Num.f]
 refine ev_p (by omega) ?_
 rw [w64 (by omega) (by omega)]
 refine ev_eq (Ev.now _) ?_
 congr 2
 omega
/-! #### termText -/
/-- The characters of a term, from input i on. -/
def txtM (m v : Nat) (i : Nat) : Nat → List Int
 | 0 => []
 | d + 1 => (if (m >>> i) % 2 = 0 then 45 else ((48 + (v >>> i) % 2 : Nat) : Int)) :: txtM m v (i + 1) d
theorem spec_nfText_l0 (a m v : Nat) (ha : a ≤ 4) (hm : m < 16) (hv : v < 16) (d : Nat) : ∀ (xs : List Int) (i : Nat), i + d = a → xs.length ≤ i →
  Ev (fun k => spec_nfText.l0 k a (strOfNums xs) i m v) (strOfNums (xs ++ txtM m v i d)) := by
 induction d with
 | zero =>
  intro xs i hi hx
  apply ev_up
  simp only [spec_nfText.l0]
  refine ev_n (by omega) ?_
  simpa [txtM] using Ev.now (strOfNums xs)
 | succ d ih =>
  intro xs i hi hx
  apply ev_up
  simp only [spec_nfText.l0]
  refine ev_p (by omega) ?_
  rw [spec_ttBit_eq m i (by omega) (by omega), wN (m := i + 1) (by omega) (by omega)]
  refine Ev.bind (ev_c rfl) ?_
  refine ev_ite (fun h => ?_) (fun h => ?_)
  ·refine ev_p (by rw [strOfNums_size]; omega) ?_
   have h' : (m >>> i) % 2 = 0 := by exact_mod_cast h
   rw [show (⟨#[45]⟩ : ByteArray) = strOfNums [45] from rfl, ← strOfNums_append]
   refine ev_eq (ih _ (i + 1) (by omega) (by simp; omega)) ?_
   simp [txtM, h']
  ·have h' : ¬ (m >>> i) % 2 = 0 := fun e => h (by exact_mod_cast e)
   rw [spec_ttBit_eq v i (by omega) (by omega)]
   refine Ev.bind (ev_c rfl) (Ev.bind (spec_l1Num_digit _ (by omega)) (ev_p (by rw [strOfNums_size, strOfNums_size]; simp; omega) ?_))
   rw [← strOfNums_append]
   refine ev_eq (ih _ (i + 1) (by omega) (by simp; omega)) ?_
   simp [txtM, h']
theorem impl_TermText_l0 (a m v : Nat) (ha : a ≤ 4) (hm : m < 16) (hv : v < 16) (d : Nat) : ∀ (xs : List Int) (i : Nat), i + d = a → xs.length ≤ i →
  Ev (fun k => impl_TermText.l0 k a xs i m v) (strOfNums (xs ++ txtM m v i d), true) := by
 induction d with
 | zero =>
  intro xs i hi hx
  apply ev_up
  simp only [impl_TermText.l0]
  refine ev_n (by omega) ?_
  simpa [txtM] using Ev.now (strOfNums xs, true)
 | succ d ih =>
  intro xs i hi hx
  apply ev_up
  simp only [impl_TermText.l0]
  refine ev_p (by omega) (ev_p (by omega) ?_)
  rw [bit_and1 m i (by omega) (by omega), bit_and1 v i (by omega) (by omega), wN (m := i + 1) (by omega) (by omega)]
  refine ev_ite (fun h => ?_) (fun h => ?_)
  ·refine ev_p (by omega) ?_
   have h' : (m >>> i) % 2 = 0 := by exact_mod_cast h
   refine ev_eq (ih _ (i + 1) (by omega) (by simp; omega)) ?_
   simp [txtM, h']
  ·have h' : ¬ (m >>> i) % 2 = 0 := fun e => h (by exact_mod_cast e)
   refine ev_p (by omega) ?_
   rw [w64 (by omega) (by omega), show (48 + (((v >>> i) % 2 : Nat) : Int)) % 256 = ((48 + (v >>> i) % 2 : Nat) : Int) by omega]
   refine ev_eq (ih _ (i + 1) (by omega) (by simp; omega)) ?_
   simp [txtM, h']
def termTextM (n m v : Int) : ByteArray × Bool := if isTermM n m v then (strOfNums (txtM m.toNat v.toNat 0 n.toNat), true) else (⟨#[]⟩, false)
theorem spec_TermText_ev (n m v : Int) (hv : I64 v) : Ev (fun k => spec_TermText.f k n m v) (termTextM n m v) := by
 unfold spec_TermText.f
 rw [spec_nfTerm_eq n m v hv]
 refine Ev.bind (ev_c rfl) ?_
 refine ev_ite (fun h => ?_) (fun h => ?_)
 ·unfold termTextM
  rw [if_pos h]
  obtain ⟨a, b, c, rfl, rfl, rfl, ha, hb, _, _, hb16⟩ := isTermM_nat h
  refine Ev.bind (a := strOfNums (txtM b c 0 a)) ?_ (Ev.now _)
  unfold spec_nfText.f
  exact spec_nfText_l0 a b c ha hb16 (by omega) a [] 0 (by omega) (by simp)
 ·unfold termTextM
  rw [if_neg h]
  exact Ev.now _
theorem impl_TermText_ev (n m v : Int) (hv : I64 v) : Ev (fun k => impl_TermText.f k n m v) (termTextM n m v) := by
 unfold impl_TermText.f
 rw [impl_IsTerm_eq n m v hv]
 refine Ev.bind (ev_c rfl) ?_
 refine ev_ite (fun h => ?_) (fun h => ?_)
 ·unfold termTextM
  rw [if_pos h]
  obtain ⟨a, b, c, rfl, rfl, rfl, ha, hb, _, _, hb16⟩ := isTermM_nat h
  exact impl_TermText_l0 a b c ha hb16 (by omega) a [] 0 (by omega) (by simp)
 ·unfold termTextM
  rw [if_neg h]
  exact Ev.now _
/-! #### btStr -/
theorem bt_str {p r : List Int} {x i : Int} (hi : i = p.length) (hx : 0 ≤ x ∧ x ≤ 255) : bt (strOfNums (p ++ x :: r)) i = x := by
 subst hi
 have hs : ((p.length : Int)).toNat < (strOfNums (p ++ x :: r)).size := by
  rw [strOfNums_size]
  simp
 unfold bt
 rw [dif_pos hs]
 have e : (strOfNums (p ++ x :: r))[((p.length : Int)).toNat]'hs = UInt8.ofNat x.toNat := by
  simp [strOfNums, ByteArray.getElem_eq_getElem_data]
 rw [e]
 have h2 : x.toNat < 256 := by omega
 simp [Nat.mod_eq_of_lt h2]
 omega
/-! #### readText -/
theorem txtM_length (m v : Nat) (d : Nat) : ∀ i, (txtM m v i d).length = d := by
 induction d with
 | zero => intro i; rfl
 | succ d ih => intro i; rw [txtM, List.length_cons, ih]
theorem txtM_byte (m v : Nat) (d : Nat) : ∀ i, ∀ x ∈ txtM m v i d, 0 ≤ x ∧ x ≤ 255 := by
 induction d with
 | zero => intro i x hx; simp [txtM] at hx
 | succ d ih =>
  intro i x hx
  rw [txtM, List.mem_cons] at hx
  rcases hx with rfl | hx
  ·split <;> omega
  ·exact ih _ x hx
theorem readM_congr (f g : Int → Int) (d : Nat) : ∀ (i m v : Nat), (∀ j : Nat, i ≤ j → j < i + d → f j = g j) → readM f i m v d = readM g i m v d := by
 induction d with
 | zero => intro i m v h; rfl
 | succ d ih =>
  intro i m v h
  have h0 := h i (by omega) (by omega)
  have h1 : ∀ m v, readM f (i + 1) m v d = readM g (i + 1) m v d := fun m v => ih (i + 1) m v (fun j h2 h3 => h j (by omega) (by omega))
  rw [readM, readM, h0, h1, h1, h1]
theorem read_fin : ∀ a : Fin 5, ∀ m v : Fin 16, m.1 < 2 ^ a.1 → v.1 &&& m.1 = v.1 → readM (rd (txtM m.1 v.1 0 a.1)) 0 0 0 a.1 = ((m.1 : Int), (v.1 : Int), true) := by decide +kernel
theorem read_text (a m v : Nat) (ha : a ≤ 4) (hm : m < 2 ^ a) (hv : v &&& m = v) : readTermM (strOfNums (txtM m v 0 a)) = ((m : Int), (v : Int), true) := by
 have h8 : 2 ^ a ≤ 2 ^ 4 := Nat.pow_le_pow_right (by decide) ha
 have hvm : v ≤ m := by rw [← hv]; exact Nat.and_le_right
 unfold readTermM
 rw [strOfNums_size, txtM_length, if_pos ha]
 rw [readM_congr _ (rd (txtM m v 0 a)) a 0 0 0 (fun j _ hj => ?_)]
 ·exact read_fin ⟨a, by omega⟩ ⟨m, by omega⟩ ⟨v, by omega⟩ hm hv
 ·have hj2 : j < (txtM m v 0 a).length := by rw [txtM_length]; omega
  have e : txtM m v 0 a = (txtM m v 0 a).take j ++ (txtM m v 0 a)[j] :: (txtM m v 0 a).drop (j + 1) := by
   rw [← List.drop_eq_getElem_cons hj2, List.take_append_drop]
  rw [rdN hj2]
  generalize (txtM m v 0 a)[j] = c at e
  have hc : 0 ≤ c ∧ c ≤ 255 := txtM_byte m v a 0 c (by rw [e]; simp)
  rw [e]
  exact bt_str (by rw [List.length_take]; omega) hc
/-! #### impl_implies -/
theorem impl_implies_l0 (l : List Int) (m v : Nat) (hm : m < 65536) (hl : l.length ≤ 1048576) (d : Nat) : ∀ (i : Nat), i + d = l.length →
  Ev (fun k => impl_implies.l0 k l l.length i m v) ((idxM l.length m v d).all (nz l)) := by
 induction d with
 | zero =>
  intro i hi
  apply ev_up
  simp only [impl_implies.l0]
  exact ev_n (by omega) (Ev.now _)
 | succ d ih =>
  intro i hi
  have e : l.length - (d + 1) = i := by omega
  have ih' := ih (i + 1) (by omega)
  apply ev_up
  simp only [impl_implies.l0]
  refine ev_p (by omega) (ev_p (by omega) (ev_p (by omega) ?_))
  rw [andN i m (by omega) (by omega), wN (m := i + 1) (by omega) (by omega)]
  unfold idxM
  rw [e, List.all_append]
  refine ev_ite (fun h => ev_ite (fun h2 => ?_) (fun h2 => ?_)) (fun h => ?_)
  ·have h' : i &&& m = v := by exact_mod_cast h2
   rw [if_pos h', List.all_cons, show nz l (i : Int) = false from decide_eq_false (fun hh => hh h), Bool.false_and, Bool.false_and]
   exact Ev.now _
  ·have h' : ¬ i &&& m = v := fun h3 => h2 (by exact_mod_cast h3)
   rw [if_neg h', List.all_nil, Bool.true_and]
   exact ih'
  ·have e2 : (if i &&& m = v then [(i : Int)] else []).all (nz l) = true := by
    split
    ·simp [nz, h]
    ·rfl
   rw [e2, Bool.true_and]
   exact ih'
theorem impl_implies_ev (n : Int) (l : List Int) (m v : Nat) (hm : m < 65536) (hl : l.length ≤ 1048576) : Ev (fun k => impl_implies.f k n l m v) (impliesM l m v) := by
 unfold impl_implies.f impliesM
 exact impl_implies_l0 l m v hm hl l.length 0 (by omega)
/-! #### impl_primesOf -/
theorem impl_primesOf_l2 (a : Nat) (l : List Int) (ha : a ≤ 4) (hla : l.length = 2 ^ a) (hl16 : l.length ≤ 16) (m v : Nat) (hm : m < 16) (hv : v < 16) (xs : List S72) (hx : xs.length ≤ 1000000) (R : List S72) (d : Nat) : ∀ (i : Nat) (fit : Bool), i + d = a →
  Ev (fun k => impl_primesOf.l1 k (xs ++ (if primeF l m v fit i d = true then [⟨(m : Int), (v : Int)⟩] else [])) m (wrap64 ((v : Int) + 1)) a l) R → Ev (fun k => impl_primesOf.l2 k xs m v fit i a l m v) R := by
 induction d with
 | zero =>
  intro i fit hi h
  apply ev_up
  simp only [impl_primesOf.l2]
  rw [primeF] at h
  refine ev_n (by omega) (ev_ite (fun c => ev_p (by omega) ?_) (fun c => ?_))
  ·rw [if_pos c] at h
   exact h
  ·rw [if_neg c, List.append_nil] at h
   exact h
 | succ d ih =>
  intro i fit hi h
  have hi4 : i < 4 := by omega
  have hbf := bits_f m v i hm hv hi4
  rw [primeF] at h
  apply ev_up
  simp only [impl_primesOf.l2]
  rw [wN (n := (i : Int) + 1) (m := i + 1) (by omega) (by omega)]
  have h2i : 2 ^ i ≤ 2 ^ 3 := Nat.pow_le_pow_right (by decide) (by omega)
  rw [bit_and1 m i (by omega) (by omega), shl1 i (by omega), andNotN m (2 ^ i) (by omega) (by omega), andNotN v (2 ^ i) (by omega) (by omega)]
  refine ev_p (by omega) (ev_p (by omega) (ev_ite (fun c => ?_) (fun c => ?_)))
  ·have c' : (m >>> i) % 2 = 1 := by exact_mod_cast c
   have hb := hbf.2 c'
   rw [hb.2.2.1, hb.2.2.2]
   refine Ev.bind (impl_implies_ev a l (clrB m i) (clrB v i) (by omega) (by omega)) (ev_ite (fun c2 => ?_) (fun c2 => ?_))
   ·rw [show (if (m >>> i) % 2 = 1 ∧ impliesM l (clrB m i) (clrB v i) = true then false else fit) = false from if_pos ⟨c', c2⟩] at h
    exact ih (i + 1) false (by omega) h
   ·rw [show (if (m >>> i) % 2 = 1 ∧ impliesM l (clrB m i) (clrB v i) = true then false else fit) = fit from if_neg (fun hh => c2 hh.2)] at h
    exact ih (i + 1) fit (by omega) h
  ·have c' : ¬ (m >>> i) % 2 = 1 := fun hh => c (by exact_mod_cast hh)
   rw [show (if (m >>> i) % 2 = 1 ∧ impliesM l (clrB m i) (clrB v i) = true then false else fit) = fit from if_neg (fun hh => c' hh.1)] at h
   exact ih (i + 1) fit (by omega) h
theorem impl_primesOf_l1 (a : Nat) (l : List Int) (ha : a ≤ 4) (hla : l.length = 2 ^ a) (hl16 : l.length ≤ 16) (m : Nat) (hm : m < 16) (R : List S72) (d : Nat) : ∀ (v : Nat) (xs : List S72), v + d = m + 1 → xs.length + d ≤ 1000000 →
  Ev (fun k => impl_primesOf.l0 k (xs ++ valsM l a m v d) (wrap64 ((m : Int) + 1)) a l) R → Ev (fun k => impl_primesOf.l1 k xs m v a l) R := by
 induction d with
 | zero =>
  intro v xs hv hx h
  apply ev_up
  simp only [impl_primesOf.l1]
  rw [valsM, List.append_nil] at h
  exact ev_n (by omega) h
 | succ d ih =>
  intro v xs hv hx h
  have hvm : v < 16 := by omega
  rw [valsM] at h
  have next : ∀ ys : List S72, ys.length ≤ 1 → Ev (fun k => impl_primesOf.l0 k (xs ++ (ys ++ valsM l a m (v + 1) d)) (wrap64 ((m : Int) + 1)) a l) R → Ev (fun k => impl_primesOf.l1 k (xs ++ ys) m (wrap64 ((v : Int) + 1)) a l) R := fun ys hys hh => by
   rw [wN (n := (v : Int) + 1) (m := v + 1) (by omega) (by omega)]
   refine ih (v + 1) _ (by omega) (by simp; omega) ?_
   rw [List.append_assoc]
   exact hh
  have skip : ¬ (v &&& m = v ∧ impliesM l m v = true) → Ev (fun k => impl_primesOf.l1 k xs m (wrap64 ((v : Int) + 1)) a l) R := fun c => by
   rw [if_neg (fun hh => c ⟨hh.1, hh.2.1⟩)] at h
   have := next [] (by simp) h
   rw [List.append_nil] at this
   exact this
  apply ev_up
  simp only [impl_primesOf.l1]
  rw [andNotN v m (by omega) (by omega)]
  refine ev_p (by omega) (ev_ite (fun c => Ev.bind (impl_implies_ev a l m v (by omega) (by omega)) (ev_up ?_)) (fun c => ev_up ?_))
  ·have c' : v &&& m = v := ((xor_eq_zero v (v &&& m)).1 (by exact_mod_cast c)).symm
   simp only [impl_primesOf.j2]
   by_cases c2 : impliesM l m v = true
   ·rw [c2]
    refine ev_n (by decide) (impl_primesOf_l2 a l ha hla hl16 m v hm hvm xs (by omega) R a 0 true (by omega) ?_)
    refine next _ (by split <;> simp) ?_
    have e : (if v &&& m = v ∧ impliesM l m v = true ∧ primeF l m v true 0 a = true then [(⟨(m : Int), (v : Int)⟩ : S72)] else []) = if primeF l m v true 0 a = true then [⟨(m : Int), (v : Int)⟩] else [] := by
     by_cases c3 : primeF l m v true 0 a = true
     ·rw [if_pos ⟨c', c2, c3⟩, if_pos c3]
     ·rw [if_neg (fun hh => c3 hh.2.2), if_neg c3]
    rw [e] at h
    exact h
   ·rw [show impliesM l m v = false by simpa using c2]
    exact ev_p (by trivial) (skip (fun hh => c2 hh.2))
  ·simp only [impl_primesOf.j2]
   refine ev_p (by trivial) (skip (fun hh => c ?_))
   have e := (xor_eq_zero v (v &&& m)).2 hh.1.symm; exact_mod_cast e
theorem impl_primesOf_l0 (a : Nat) (l : List Int) (ha : a ≤ 4) (hla : l.length = 2 ^ a) (hl16 : l.length ≤ 16) (d : Nat) : ∀ (m : Nat) (xs : List S72), m + d = 2 ^ a → xs.length ≤ 17 * m →
  Ev (fun k => impl_primesOf.l0 k xs m a l) (xs ++ masksM l a m d) := by
 induction d with
 | zero =>
  intro m xs hm hx
  apply ev_up
  simp only [impl_primesOf.l0]
  refine (ev_n (by omega) (ev_eq (Ev.now _) ?_))
  simp [masksM]
 | succ d ih =>
  intro m xs hm hx
  apply ev_up
  simp only [impl_primesOf.l0]
  have hvl := valsM_length l a m (m + 1) 0
  refine (ev_p (by omega) ?_)
  refine impl_primesOf_l1 a l ha hla hl16 m (by omega) _ (m + 1) 0 xs (by omega) (by omega) ?_
  rw [wN (n := (m : Int) + 1) (m := m + 1) (by omega) (by omega)]
  refine ev_eq (ih (m + 1) _ (by omega) (by simp; omega)) ?_
  simp [masksM]
theorem impl_primesOf_ev (a : Nat) (l : List Int) (ha : a ≤ 4) (hla : l.length = 2 ^ a) (hl16 : l.length ≤ 16) : Ev (fun k => impl_primesOf.f k a l) (masksM l a 0 (2 ^ a)) := by
 unfold impl_primesOf.f
 exact impl_primesOf_l0 a l ha hla hl16 (2 ^ a) 0 [] (by omega) (by simp)
/-! #### impl_areBits -/
theorem impl_areBits_l0 (l : List Int) (hl : l.length ≤ 9223372036854775807) (r : List Int) : ∀ (p : List Int) (i : Int), i = p.length → l = p ++ r →
  Ev (fun k => impl_areBits.l0 k l l.length i) (r.all (inB 0 1)) := by
 induction r with
 | nil =>
  intro p i hi e
  have hlen : l.length = p.length := by rw [e]; simp
  apply ev_up
  simp only [impl_areBits.l0]
  exact ev_n (by omega) (Ev.now _)
 | cons x r ih =>
  intro p i hi e
  have hlen : l.length = p.length + r.length + 1 := by rw [e]; simp; omega
  have hx : rd l i = x := by rw [e]; exact rdA hi
  have ih' := ih (p ++ [x]) (i + 1) (by simp; omega) (by rw [e]; simp)
  apply ev_up
  simp only [impl_areBits.l0]
  refine ev_p (by omega) (ev_p (by omega) (ev_p (by omega) ?_))
  rw [hx, w64 (n := i + 1) (by omega) (by omega)]
  refine ev_ite (fun h => ?_) (fun h => ev_ite (fun h2 => ?_) (fun h2 => ?_))
  ·rw [List.all_cons, show inB 0 1 x = true from decide_eq_true (by omega), Bool.true_and]
   exact ih'
  ·rw [List.all_cons, show inB 0 1 x = true from decide_eq_true (by omega), Bool.true_and]
   exact ih'
  ·rw [List.all_cons, show inB 0 1 x = false from decide_eq_false (by omega), Bool.false_and]
   exact Ev.now _
theorem impl_areBits_ev (l : List Int) (hl : l.length ≤ 9223372036854775807) : Ev (fun k => impl_areBits.f k l) (l.all (inB 0 1)) := by
 unfold impl_areBits.f
 exact impl_areBits_l0 l hl l [] 0 rfl rfl
/-! #### impl_IsTable -/
theorem impl_IsTable_ev (n : Int) (l : List Int) (hl : l.length ≤ 9223372036854775807) : Ev (fun k => impl_IsTable.f k n l) (tableM n l) := by
 unfold impl_IsTable.f tableM
 refine ev_ite (fun h1 => ev_ite (fun h2 => ?_) (fun h2 => ?_)) (fun h1 => ?_)
 ·obtain ⟨a, rfl⟩ := nat_of h1
  rw [shl1 a (by omega)]
  refine ev_p (by omega) (ev_ite (fun h3 => ?_) (fun h3 => ?_))
  ·have h4 : l.length = 2 ^ a := by exact_mod_cast h3
   rw [decide_eq_true ⟨h1, h2, by simpa using h4⟩, Bool.true_and]
   exact Ev.bind (impl_areBits_ev l hl) (Ev.now _)
  ·rw [decide_eq_false (fun hh => h3 (by have := hh.2.2; simp only [Int.toNat_natCast] at this; exact_mod_cast this)), Bool.false_and]
   exact Ev.now _
 ·rw [decide_eq_false (fun hh => h2 hh.2.1), Bool.false_and]
  exact Ev.now _
 ·rw [decide_eq_false (fun hh => h1 hh.1), Bool.false_and]
  exact Ev.now _
/-! #### primeTerms -/
def primeTermsM (n : Int) (l : List Int) : List S72 × Bool := if tableM n l = true then (masksM l n.toNat 0 (2 ^ n.toNat), true) else ([], false)
theorem primeTermsM_length (n : Int) (l : List Int) : (primeTermsM n l).1.length ≤ 256 := by
 unfold primeTermsM
 split
 ·rename_i h
  obtain ⟨a, rfl, ha, hla, hl16, _⟩ := tableM_of h
  rw [hla] at hl16
  have h1 := masksM_length l a 16 (2 ^ a) 0 (by omega)
  simp only [Int.toNat_natCast]
  omega
 ·simp
theorem spec_PrimeTerms_ev (n : Int) (l : List Int) (hl : l.length ≤ 9223372036854775807) : Ev (fun k => spec_PrimeTerms.f k n l) (primeTermsM n l) := by
 unfold spec_PrimeTerms.f primeTermsM
 refine Ev.bind (spec_ttGood_ev n l hl) (ev_ite (fun h => ?_) (fun h => ?_))
 ·rw [if_pos h]
  obtain ⟨a, rfl, ha, hla, hl16, _⟩ := tableM_of h
  exact Ev.bind (spec_nfPrimes_ev a l ha hla hl16) (Ev.now _)
 ·rw [if_neg h]
  exact Ev.now _
theorem impl_PrimeTerms_ev (n : Int) (l : List Int) (hl : l.length ≤ 9223372036854775807) : Ev (fun k => impl_PrimeTerms.f k n l) (primeTermsM n l) := by
 unfold impl_PrimeTerms.f primeTermsM
 refine Ev.bind (impl_IsTable_ev n l hl) (ev_ite (fun h => ?_) (fun h => ?_))
 ·rw [if_pos h]
  obtain ⟨a, rfl, ha, hla, hl16, _⟩ := tableM_of h
  exact Ev.bind (impl_primesOf_ev a l ha hla hl16) (Ev.now _)
 ·rw [if_neg h]
  exact Ev.now _
/-! #### spec_nfCovers -/
theorem spec_nfCovers_l1 (a : Nat) (l : List Int) (xs : List Int) (ps : List S72) (i : Int) (t : List Int) (ht : ∀ y ∈ t, 0 ≤ y ∧ y < 16) (htl : t.length ≤ 1048576) (R : List Int) (hx : xs.length ≤ 1048576) (r : List Int) : ∀ (p : List Int) (j : Int) (acc : Nat), j = p.length → t = p ++ r → acc < 65536 →
  Ev (fun k => spec_nfCovers.l0 k (xs ++ [(orIdx acc r : Int)]) ps ps.length (wrap64 (i + 1)) a l) R → Ev (fun k => spec_nfCovers.l1 k xs acc ps ps.length i t t.length j a l) R := by
 induction r with
 | nil =>
  intro p j acc hj e ha h
  have hlen : t.length = p.length := by rw [e]; simp
  apply ev_up
  simp only [spec_nfCovers.l1]
  exact ev_n (by omega) (ev_p (by omega) h)
 | cons y r ih =>
  intro p j acc hj e ha h
  have hlen : t.length = p.length + r.length + 1 := by rw [e]; simp; omega
  have hxx : rd t j = y := by rw [e]; exact rdA hj
  have hy := ht y (by rw [e]; simp)
  have hp := pow_lt16 hy.1 hy.2
  obtain ⟨b, rfl⟩ := nat_of hy.1
  rw [Int.toNat_natCast] at hp
  apply ev_up
  simp only [spec_nfCovers.l1]
  refine ev_p (by omega) (ev_p (by omega) (ev_p (by omega) ?_))
  rw [hxx, w64 (n := j + 1) (by omega) (by omega), u64w (by omega) (by omega), shl1 b (by omega), orN acc (2 ^ b) (by omega) (by omega)]
  rw [orIdx, Int.toNat_natCast] at h
  exact ev_p (by omega) (ih (p ++ [(b : Int)]) (j + 1) _ (by simp; omega) (by rw [e]; simp) (or_lt16 ha hp) h)
theorem spec_nfCovers_l0 (a : Nat) (ha : a ≤ 4) (l : List Int) (ps : List S72) (hpl : ps.length ≤ 1048576) (hg : ∀ p ∈ ps, goodP l p) (r : List S72) : ∀ (p : List S72) (i : Int), i = p.length → ps = p ++ r →
  Ev (fun k => spec_nfCovers.l0 k (p.map (fun q => (covN a q : Int))) ps ps.length i a l) (ps.map (fun q => (covN a q : Int))) := by
 induction r with
 | nil =>
  intro p i hi e
  have hlen : ps.length = p.length := by rw [e]; simp
  have e' : ps = p := by rw [e]; simp
  apply ev_up
  simp only [spec_nfCovers.l0]
  rw [e'] at hlen ⊢
  exact ev_n (by omega) (Ev.now _)
 | cons q r ih =>
  intro p i hi e
  have hlen : ps.length = p.length + r.length + 1 := by rw [e]; simp; omega
  have hxx : rd_T72 ps i = q := by rw [e]; exact rdTermA hi
  obtain ⟨m, v, hm, hv, hq, _⟩ := hg q (by rw [e]; simp)
  have hil := idxM_length (2 ^ a) m v (2 ^ a)
  have h8 : 2 ^ a ≤ 2 ^ 4 := Nat.pow_le_pow_right (by decide) ha
  apply ev_up
  simp only [spec_nfCovers.l0]
  refine ev_p (by omega) (ev_p (by omega) (ev_p (by omega) ?_))
  rw [hxx, hq]
  refine Ev.bind (spec_nfIndices_ev a m v ha (by omega)) ?_
  refine spec_nfCovers_l1 a l _ ps i _ (idx_bounds ha m v) (by omega) _ (by simp; omega) _ [] 0 0 rfl rfl (by decide) ?_
  rw [w64 (n := i + 1) (by omega) (by omega)]
  have := ih (p ++ [q]) (i + 1) (by simp; omega) (by rw [e]; simp)
  have e2 : (p ++ [q]).map (fun q => (covN a q : Int)) = p.map (fun q => (covN a q : Int)) ++ [(orIdx 0 (idxM (2 ^ a) m v (2 ^ a)) : Int)] := by
   rw [List.map_append, List.map_cons, List.map_nil, hq]
   rfl
  rw [e2] at this
  exact this
/-! #### spec_EssentialTerms -/
theorem spec_EssentialTerms_l1 (a : Nat) (ha : a ≤ 4) (ps : List S72) (hpl : ps.length ≤ 1048576) (i : Nat) (w : S72) (hw : ps[i]? = some w) (xs : List S72) (hx : xs.length ≤ 1048576) (R : List S72 × Bool) (r : List S72) : ∀ (p : List S72) (j acc : Nat), j = p.length → ps = p ++ r → acc < 65536 →
  Ev (fun k => spec_EssentialTerms.l0 k (ps.map (fun q => (covN a q : Int))) (xs ++ (if ¬ covN a w ^^^ (covN a w &&& restR a i r j acc) = 0 then [w] else [])) ps ps.length (wrap64 ((i : Int) + 1))) R →
  Ev (fun k => spec_EssentialTerms.l1 k (ps.map (fun q => (covN a q : Int))) xs i acc ps ps.length i (ps.map (fun q => (covN a q : Int))) (ps.map (fun q => (covN a q : Int))).length j w.f0 w.f1) R := by
 have hil : i < ps.length := by
  have := List.getElem?_eq_some_iff.1 hw
  exact this.1
 have hci : rd (ps.map (fun q => (covN a q : Int))) (i : Int) = covN a w := by
  have h1 : i < (ps.map (fun q => (covN a q : Int))).length := by simpa using hil
  have h2 : rd (ps.map (fun q => (covN a q : Int))) (i : Int) = (ps.map (fun q => (covN a q : Int)))[i] := getDN h1
  obtain ⟨h3, h4⟩ := List.getElem?_eq_some_iff.1 hw
  rw [h2, List.getElem_map, h4]
 induction r with
 | nil =>
  intro p j acc hj e hacc h
  have hlen : ps.length = p.length := by rw [e]; simp
  have hcl := covN_lt ha w
  apply ev_up
  simp only [spec_EssentialTerms.l1]
  rw [restR] at h
  rw [hci, andNotN (covN a w) acc (by omega) (by omega)]
  refine ev_n (by simp; omega) (ev_p (by omega) (ev_p (by simp; omega) (ev_ite (fun c => ?_) (fun c => ?_))))
  ·have c' : covN a w ^^^ (covN a w &&& acc) = 0 := by exact_mod_cast c
   rw [if_neg (fun hh => hh c'), List.append_nil] at h
   exact h
  ·have c' : ¬ covN a w ^^^ (covN a w &&& acc) = 0 := fun hh => c (by rw [hh]; rfl)
   rw [if_pos c'] at h
   exact ev_p (by omega) h
 | cons q r ih =>
  intro p j acc hj e hacc h
  have hlen : ps.length = p.length + r.length + 1 := by rw [e]; simp; omega
  have hxx : rd (ps.map (fun q => (covN a q : Int))) (j : Int) = covN a q := by
   rw [e, List.map_append, List.map_cons]
   exact rdA (by simp; omega)
  have hcl := covN_lt ha q
  rw [restR] at h
  apply ev_up
  simp only [spec_EssentialTerms.l1]
  rw [wN (n := (j : Int) + 1) (m := j + 1) (by omega) (by omega)]
  refine ev_p (by simp; omega) (ev_p (by omega) (ev_p (by simp; omega) (ev_ite (fun c => ?_) (fun c => ?_))))
  ·rw [if_pos (show j = i by omega)] at h
   exact ih (p ++ [q]) (j + 1) acc (by simp; omega) (by rw [e]; simp) hacc h
  ·rw [if_neg (show ¬ j = i by omega)] at h
   rw [hxx, orN acc (covN a q) (by omega) (by omega)]
   exact ih (p ++ [q]) (j + 1) _ (by simp; omega) (by rw [e]; simp) (or_lt16 hacc hcl) h
theorem spec_EssentialTerms_l0 (a : Nat) (ha : a ≤ 4) (ps : List S72) (hpl : ps.length ≤ 1000) (r : List S72) : ∀ (p : List S72) (i : Nat) (xs : List S72), i = p.length → ps = p ++ r → xs.length ≤ i →
  Ev (fun k => spec_EssentialTerms.l0 k (ps.map (fun q => (covN a q : Int))) xs ps ps.length i) (xs ++ essL a ps r i, true) := by
 induction r with
 | nil =>
  intro p i xs hi e hx
  have hlen : ps.length = p.length := by rw [e]; simp
  apply ev_up
  simp only [spec_EssentialTerms.l0]
  rw [essL, List.append_nil]
  exact ev_n (by omega) (Ev.now _)
 | cons q r ih =>
  intro p i xs hi e hx
  have hlen : ps.length = p.length + r.length + 1 := by rw [e]; simp; omega
  have hxx : rd_T72 ps (i : Int) = q := by rw [e]; exact rdTermA (by omega)
  have hw : ps[i]? = some q := by rw [e, hi]; simp
  apply ev_up
  simp only [spec_EssentialTerms.l0]
  refine ev_p (by omega) (ev_p (by omega) (ev_p (by omega) ?_))
  rw [hxx]
  refine spec_EssentialTerms_l1 a ha ps (by omega) i q hw xs (by omega) _ ps [] 0 0 rfl rfl (by decide) ?_
  rw [wN (n := (i : Int) + 1) (m := i + 1) (by omega) (by omega)]
  have e2 : (if ¬ covN a q ^^^ (covN a q &&& restR a i ps 0 0) = 0 then [q] else []) = if essB a ps i q = true then [q] else [] := by
   unfold essB
   by_cases c : ¬ covN a q ^^^ (covN a q &&& restR a i ps 0 0) = 0
   ·rw [if_pos c, decide_eq_true c, if_pos rfl]
   ·rw [if_neg c, decide_eq_false c, if_neg (by decide)]
  rw [e2]
  refine ev_eq (ih (p ++ [q]) (i + 1) _ (by simp; omega) (by rw [e]; simp) (by split <;> simp <;> omega)) ?_
  rw [essL, List.append_assoc]
/-! #### impl_EssentialTerms -/
theorem impl_EssentialTerms_l2 (a : Nat) (l : List Int) (hl : l.length = 2 ^ a) (hb : ∀ x ∈ l, 0 ≤ x ∧ x ≤ 1) (ps : List S72) (hpl : ps.length ≤ 1000) (hg : ∀ p ∈ ps, goodP l p) (r : List S72) : ∀ (p : List S72) (i : Nat) (xs : List S72), i = p.length → ps = p ++ r → xs.length ≤ i →
  Ev (fun k => impl_EssentialTerms.l2 k (rmap ps.length (markB l ps (2 ^ a))) xs ps ps.length i) (xs ++ essL a ps r i, true) := by
 induction r with
 | nil =>
  intro p i xs hi e hx
  have hlen : ps.length = p.length := by rw [e]; simp
  apply ev_up
  simp only [impl_EssentialTerms.l2]
  rw [essL, List.append_nil]
  exact ev_n (by omega) (Ev.now _)
 | cons q r ih =>
  intro p i xs hi e hx
  have hlen : ps.length = p.length + r.length + 1 := by rw [e]; simp; omega
  have hxx : rd_T72 ps (i : Int) = q := by rw [e]; exact rdTermA (by omega)
  have hw : ps[i]? = some q := by rw [e, hi]; simp
  have hm : rdOf false (rmap ps.length (markB l ps (2 ^ a))) (i : Int) = markB l ps (2 ^ a) i := rmap_get (by omega) _
  apply ev_up
  simp only [impl_EssentialTerms.l2]
  rw [hm, ← ess_mark hl hb hg hw, hxx, wN (n := (i : Int) + 1) (m := i + 1) (by omega) (by omega), essL]
  refine ev_p (by omega) (ev_p (by omega) (ev_p (by omega) (ev_p (by rw [rmap_length]; omega) (ev_ite (fun c => ev_p (by omega) ?_) (fun c => ?_)))))
  ·rw [if_pos c]
   refine ev_eq (ih (p ++ [q]) (i + 1) _ (by simp; omega) (by rw [e]; simp) (by simp; omega)) ?_
   rw [List.append_assoc]
  ·rw [if_neg c]
   exact ih (p ++ [q]) (i + 1) xs (by simp; omega) (by rw [e]; simp) (by omega)
def setOne : List Int → List Bool → List Bool
 | [y], bs => bs.set y.toNat true
 | _, bs => bs
theorem impl_EssentialTerms_l1 (l : List Int) (ps : List S72) (hpl : ps.length ≤ 1000) (hg : ∀ p ∈ ps, goodP l p) (bs : List Bool) (hbs : bs.length = ps.length) (x : Nat) (hx : x < 65536) (R : List S72 × Bool) (r : List S72) : ∀ (p : List S72) (j : Nat) (xs : List Int), j = p.length → ps = p ++ r → xs.length ≤ j → (∀ y ∈ xs, 0 ≤ y ∧ y < ps.length) →
  (∀ ys, ys = xs ++ (if rd l (x : Int) = 1 then covL x r j else []) → Ev (fun k => impl_EssentialTerms.l0 k ps (setOne ys bs) l l.length (wrap64 ((x : Int) + 1))) R) →
  Ev (fun k => impl_EssentialTerms.l1 k ps bs x (rd l (x : Int)) xs l l.length x ps ps.length j) R := by
 induction r with
 | nil =>
  intro p j xs hj e hxl hxb h
  have hlen : ps.length = p.length := by rw [e]; simp
  have h' := h xs (by rw [covL]; simp)
  apply ev_up
  simp only [impl_EssentialTerms.l1]
  refine ev_n (by omega) (ev_ite (fun c => ?_) (fun c => ?_))
  ·match xs, c, hxb, h' with
   | [y], c, hxb, h' =>
    have hyb := hxb y (by simp)
    have e0 : rd [y] 0 = y := rfl
    rw [e0]
    exact ev_p (by omega) (ev_p hyb.1 (ev_p (by omega) h'))
   | [], c, _, _ => simp at c
   | _ :: _ :: _, c, _, _ => simp at c; omega
  ·match xs, c, h' with
   | [y], c, _ => simp at c
   | [], _, h' => exact h'
   | _ :: _ :: _, _, h' => exact h'
 | cons q r ih =>
  intro p j xs hj e hxl hxb h
  have hlen : ps.length = p.length + r.length + 1 := by rw [e]; simp; omega
  have hxx : rd_T72 ps (j : Int) = q := by rw [e]; exact rdTermA (by omega)
  obtain ⟨m, v, hm, hv, hq, _⟩ := hg q (by rw [e]; simp)
  have ih' := fun xs h1 h2 => ih (p ++ [q]) (j + 1) xs (by simp; omega) (by rw [e]; simp) h1 h2
  rw [covL] at h
  apply ev_up
  simp only [impl_EssentialTerms.l1]
  rw [hxx, wN (n := (j : Int) + 1) (m := j + 1) (by omega) (by omega)]
  refine ev_p (by omega) (ev_p (by omega) (ev_p (by omega) (ev_ite (fun c => ?_) (fun c => ?_))))
  ·rw [if_pos c] at h
   have hqe : covE q x = decide (x &&& m = v) := by rw [hq]; rfl
   have ef0 : q.f0 = (m : Int) := by rw [hq]
   have ef1 : q.f1 = (v : Int) := by rw [hq]
   rw [ef0, ef1, andN x m (by omega) (by omega)]
   refine ev_ite (fun c2 => ev_p (by omega) ?_) (fun c2 => ?_)
   ·have c2' : x &&& m = v := by exact_mod_cast c2
    rw [hqe, decide_eq_true c2', if_pos rfl] at h
    refine ih' _ (by simp; omega) (fun y hy => ?_) (fun ys hys => h ys ?_)
    ·rw [List.mem_append, List.mem_singleton] at hy
     rcases hy with hy | hy
     ·exact hxb y hy
     ·omega
    ·rw [hys, if_pos c, List.append_assoc]
   ·have c2' : ¬ x &&& m = v := fun hh => c2 (by exact_mod_cast hh)
    rw [hqe, decide_eq_false c2', if_neg (by decide), List.nil_append] at h
    refine ih' _ (by omega) hxb (fun ys hys => h ys ?_)
    rw [hys, if_pos c]
  ·rw [if_neg c] at h
   refine ih' _ (by omega) hxb (fun ys hys => h ys ?_)
   rw [hys, if_neg c]
theorem impl_EssentialTerms_l0 (a : Nat) (ha : a ≤ 4) (l : List Int) (hl : l.length = 2 ^ a) (hb : ∀ x ∈ l, 0 ≤ x ∧ x ≤ 1) (ps : List S72) (hpl : ps.length ≤ 1000) (hg : ∀ p ∈ ps, goodP l p) (d : Nat) : ∀ (x : Nat), x + d = 2 ^ a →
  Ev (fun k => impl_EssentialTerms.l0 k ps (rmap ps.length (markB l ps x)) l l.length x) (essL a ps ps 0, true) := by
 have h8 : 2 ^ a ≤ 2 ^ 4 := Nat.pow_le_pow_right (by decide) ha
 induction d with
 | zero =>
  intro x hx
  have e : x = 2 ^ a := by omega
  apply ev_up
  simp only [impl_EssentialTerms.l0]
  rw [e]
  have := impl_EssentialTerms_l2 a l hl hb ps hpl hg ps [] 0 [] rfl rfl (by simp)
  rw [List.nil_append] at this
  exact ev_n (by omega) this
 | succ d ih =>
  intro x hx
  apply ev_up
  simp only [impl_EssentialTerms.l0]
  refine ev_p (by omega) (ev_p (by omega) (ev_p (by omega) ?_))
  refine impl_EssentialTerms_l1 l ps hpl hg _ (rmap_length _ _) x (by omega) _ ps [] 0 [] rfl rfl (by simp) (by simp) (fun ys hys => ?_)
  rw [wN (n := (x : Int) + 1) (m := x + 1) (by omega) (by omega)]
  rw [List.nil_append] at hys
  have e2 : setOne ys (rmap ps.length (markB l ps x)) = rmap ps.length (markB l ps (x + 1)) := by
   have other : (∀ j : Nat, ¬ (rd l (x : Int) = 1 ∧ covL x ps 0 = [(j : Int)])) → rmap ps.length (markB l ps x) = rmap ps.length (markB l ps (x + 1)) := fun hno => by
    apply rmap_congr
    intro j _
    rw [markB, if_neg (hno j)]
   match ys, hys with
   | [y], hys =>
    by_cases c : rd l (x : Int) = 1
    ·rw [if_pos c] at hys
     have hyb := covL_bound x ps 0 y (by rw [← hys]; simp)
     obtain ⟨b, rfl⟩ := nat_of (show 0 ≤ y by omega)
     have hbp : b < ps.length := by omega
     show (rmap ps.length (markB l ps x)).set ((b : Int)).toNat true = _
     rw [Int.toNat_natCast, rmap_set hbp]
     apply rmap_congr
     intro j _
     rw [markB, ← hys]
     by_cases c2 : j = b
     ·rw [if_pos c2, if_pos ⟨c, by rw [c2]⟩]
     ·rw [if_neg c2, if_neg (fun hh => c2 (by have := hh.2; simp at this; omega))]
    ·rw [if_neg c] at hys
     simp at hys
   | [], hys =>
    refine other (fun j hj => ?_)
    rw [if_pos hj.1, hj.2] at hys
    simp at hys
   | _ :: _ :: _, hys =>
    refine other (fun j hj => ?_)
    rw [if_pos hj.1, hj.2] at hys
    simp at hys
  rw [e2]
  exact ih (x + 1) (by omega)
/-! #### essentialTerms -/
noncomputable def essentialTermsM (n : Int) (l : List Int) : List S72 × Bool := if tableM n l = true then (essL n.toNat (masksM l n.toNat 0 (2 ^ n.toNat)) (masksM l n.toNat 0 (2 ^ n.toNat)) 0, true) else ([], false)
theorem essentialTermsM_length (n : Int) (l : List Int) : (essentialTermsM n l).1.length ≤ 256 := by
 unfold essentialTermsM
 split
 ·rename_i h
  obtain ⟨a, rfl, ha, _⟩ := tableM_of h
  have h1 := (primes_facts ha l).1
  have h2 := essL_length a (masksM l a 0 (2 ^ a)) (masksM l a 0 (2 ^ a)) 0
  simp only [Int.toNat_natCast]
  omega
 ·simp
theorem spec_EssentialTerms_ev (n : Int) (l : List Int) (hl : l.length ≤ 9223372036854775807) : Ev (fun k => spec_EssentialTerms.f k n l) (essentialTermsM n l) := by
 unfold spec_EssentialTerms.f essentialTermsM
 refine Ev.bind (spec_ttGood_ev n l hl) (ev_ite (fun h => ?_) (fun h => ?_))
 ·rw [if_pos h]
  obtain ⟨a, rfl, ha, hla, hl16, _⟩ := tableM_of h
  rw [Int.toNat_natCast]
  obtain ⟨h1, h2⟩ := primes_facts ha l
  refine Ev.bind (spec_nfPrimes_ev a l ha hla hl16) ?_
  have hc : Ev (fun k => spec_nfCovers.f k a l (masksM l a 0 (2 ^ a))) ((masksM l a 0 (2 ^ a)).map (fun q => (covN a q : Int))) := by
   unfold spec_nfCovers.f
   exact spec_nfCovers_l0 a ha l _ (by omega) h2 _ [] 0 rfl rfl
  refine Ev.bind hc ?_
  have := spec_EssentialTerms_l0 a ha (masksM l a 0 (2 ^ a)) (by omega) _ [] 0 [] rfl rfl (by simp)
  rw [List.nil_append] at this
  exact this
 ·rw [if_neg h]
  exact Ev.now _
theorem impl_EssentialTerms_ev (n : Int) (l : List Int) (hl : l.length ≤ 9223372036854775807) : Ev (fun k => impl_EssentialTerms.f k n l) (essentialTermsM n l) := by
 unfold impl_EssentialTerms.f essentialTermsM
 refine Ev.bind (impl_IsTable_ev n l hl) (ev_ite (fun h => ?_) (fun h => ?_))
 ·rw [if_pos h]
  obtain ⟨a, rfl, ha, hla, hl16, hbits⟩ := tableM_of h
  rw [Int.toNat_natCast]
  obtain ⟨h1, h2⟩ := primes_facts ha l
  refine Ev.bind (impl_primesOf_ev a l ha hla hl16) (ev_p (by omega) (ev_p (by omega) ?_))
  rw [Int.toNat_natCast]
  have := impl_EssentialTerms_l0 a ha l hla hbits (masksM l a 0 (2 ^ a)) (by omega) h2 (2 ^ a) 0 (by omega)
  have e : rmap (masksM l a 0 (2 ^ a)).length (markB l (masksM l a 0 (2 ^ a)) 0) = List.replicate (masksM l a 0 (2 ^ a)).length false := by
   rw [rmap_const]
   exact rmap_congr (fun k _ => rfl)
  rw [e] at this
  exact this
 ·rw [if_neg h]
  exact Ev.now _
/-! #### termIndices -/
theorem impl_TermIndices_l0 (a m v : Nat) (ha : a ≤ 4) (hm : m < 16) (d : Nat) : ∀ (xs : List Int) (i : Nat), i + d = 2 ^ a → xs.length ≤ i →
  Ev (fun k => impl_TermIndices.l0 k a xs i m v) (xs ++ idxM (2 ^ a) m v d, true) := by
 have h8 : 2 ^ a ≤ 2 ^ 4 := Nat.pow_le_pow_right (by decide) ha
 induction d with
 | zero =>
  intro xs i hi hx
  apply ev_up
  simp only [impl_TermIndices.l0]
  rw [shl1 a (by omega)]
  refine ev_p (by omega) (ev_n (by omega) ?_)
  simpa [idxM] using Ev.now (xs, true)
 | succ d ih =>
  intro xs i hi hx
  apply ev_up
  simp only [impl_TermIndices.l0]
  rw [shl1 a (by omega)]
  refine ev_p (by omega) (ev_p (by omega) ?_)
  rw [andN i m (by omega) (by omega), wN (m := i + 1) (by omega) (by omega)]
  have e : 2 ^ a - (d + 1) = i := by omega
  refine ev_ite (fun h => ?_) (fun h => ?_)
  ·refine ev_p (by omega) ?_
   refine ev_eq (ih _ (i + 1) (by omega) (by simp; omega)) ?_
   have h' : i &&& m = v := by exact_mod_cast h
   simp [idxM, e, h']
  ·refine ev_eq (ih _ (i + 1) (by omega) (by omega)) ?_
   have h' : ¬ i &&& m = v := fun h2 => h (by exact_mod_cast h2)
   simp [idxM, e, h']
/-- What both give for TermIndices. -/
def termIndicesM (n m v : Int) : List Int × Bool := if isTermM n m v then (idxM (2 ^ n.toNat) m.toNat v.toNat (2 ^ n.toNat), true) else ([], false)
theorem termIndicesM_length (n m v : Int) : (termIndicesM n m v).1.length ≤ 16 := by
 unfold termIndicesM
 by_cases h : isTermM n m v = true
 ·rw [if_pos h]
  obtain ⟨a, b, c, rfl, rfl, rfl, ha, hb, _⟩ := isTermM_nat h
  have h8 : 2 ^ a ≤ 2 ^ 4 := Nat.pow_le_pow_right (by decide) ha
  have := idxM_length (2 ^ a) b c (2 ^ a)
  simp only [Int.toNat_natCast]
  omega
 ·rw [if_neg h]
  simp
theorem spec_TermIndices_ev (n m v : Int) (hv : I64 v) : Ev (fun k => spec_TermIndices.f k n m v) (termIndicesM n m v) := by
 unfold spec_TermIndices.f
 rw [spec_nfTerm_eq n m v hv]
 refine Ev.bind (ev_c rfl) ?_
 refine ev_ite (fun h => ?_) (fun h => ?_)
 ·unfold termIndicesM
  rw [if_pos h]
  obtain ⟨a, b, c, rfl, rfl, rfl, ha, hb, _, _, hb16⟩ := isTermM_nat h
  refine Ev.bind (a := idxM (2 ^ a) b c (2 ^ a)) ?_ (Ev.now _)
  unfold spec_nfIndices.f
  exact spec_nfIndices_l0 a b c ha (by omega) (2 ^ a) [] 0 (by omega) (by simp)
 ·unfold termIndicesM
  rw [if_neg h]
  exact Ev.now _
theorem impl_TermIndices_ev (n m v : Int) (hv : I64 v) : Ev (fun k => impl_TermIndices.f k n m v) (termIndicesM n m v) := by
 unfold impl_TermIndices.f
 rw [impl_IsTerm_eq n m v hv]
 refine Ev.bind (ev_c rfl) ?_
 refine ev_ite (fun h => ?_) (fun h => ?_)
 ·unfold termIndicesM
  rw [if_pos h]
  obtain ⟨a, b, c, rfl, rfl, rfl, ha, hb, _, _, hb16⟩ := isTermM_nat h
  exact impl_TermIndices_l0 a b c ha hb16 (2 ^ a) [] 0 (by omega) (by simp)
 ·unfold termIndicesM
  rw [if_neg h]
  exact Ev.now _
/-! #### isImplicant -/
def isImplicantM (n : Int) (l : List Int) (m v : Int) : Bool × Bool := if tableM n l = true ∧ isTermM n m v = true then (impliesM l m.toNat v.toNat, true) else (false, false)
theorem spec_IsImplicant_ev (n : Int) (l : List Int) (m v : Int) (hv : I64 v) (hl : l.length ≤ 9223372036854775807) : Ev (fun k => spec_IsImplicant.f k n l m v) (isImplicantM n l m v) := by
 unfold spec_IsImplicant.f isImplicantM
 refine Ev.bind (spec_ttGood_ev n l hl) (ev_ite (fun h1 => ?_) (fun h1 => ?_))
 ·rw [spec_nfTerm_eq n m v hv]
  refine Ev.bind (ev_c rfl) (ev_ite (fun h2 => ?_) (fun h2 => ?_))
  ·rw [if_pos ⟨h1, h2⟩]
   obtain ⟨a, rfl, ha, hla, _⟩ := tableM_of h1
   obtain ⟨_, b, c, _, rfl, rfl, _, _, _, _, hb⟩ := isTermM_nat h2
   exact Ev.bind (spec_nfImplies_ev a b c l ha hla (by omega)) (Ev.now _)
  ·rw [if_neg (fun h => h2 h.2)]
   exact Ev.now _
 ·rw [if_neg (fun h => h1 h.1)]
  exact Ev.now _
theorem impl_IsImplicant_ev (n : Int) (l : List Int) (m v : Int) (hv : I64 v) (hl : l.length ≤ 9223372036854775807) : Ev (fun k => impl_IsImplicant.f k n l m v) (isImplicantM n l m v) := by
 unfold impl_IsImplicant.f isImplicantM
 refine Ev.bind (impl_IsTable_ev n l hl) (ev_ite (fun h1 => ?_) (fun h1 => ?_))
 ·rw [impl_IsTerm_eq n m v hv]
  refine Ev.bind (ev_c rfl) (ev_ite (fun h2 => ?_) (fun h2 => ?_))
  ·rw [if_pos ⟨h1, h2⟩]
   obtain ⟨a, rfl, ha, hla, hl16, _⟩ := tableM_of h1
   obtain ⟨_, b, c, _, rfl, rfl, _, _, _, _, hb⟩ := isTermM_nat h2
   exact Ev.bind (impl_implies_ev a l b c (by omega) (by omega)) (Ev.now _)
  ·rw [if_neg (fun h => h2 h.2)]
   exact Ev.now _
 ·rw [if_neg (fun h => h1 h.1)]
  exact Ev.now _
/-! #### sumM -/
def nRow (m : Nat) (f : Nat → Nat) : List Int := (List.range m).map (fun k => ((f k : Nat) : Int))
theorem nRow_length (m : Nat) (f : Nat → Nat) : (nRow m f).length = m := by simp [nRow]
theorem nRow_set {m : Nat} {f : Nat → Nat} {k v : Nat} (h : k < m) : (nRow m f).set k (v : Int) = nRow m (fun j => if j = k then v else f j) := by
 apply List.ext_getElem
 ·simp [nRow]
 ·intro n h1 h2
  rw [List.getElem_set]
  simp only [nRow, List.getElem_map, List.getElem_range]
  by_cases e : n = k
  ·rw [if_pos e.symm, if_pos e]
  ·rw [if_neg (fun h => e h.symm), if_neg e]
theorem nRow_congr {m : Nat} {f g : Nat → Nat} (h : ∀ k, k < m → f k = g k) : nRow m f = nRow m g := by
 unfold nRow
 apply List.map_congr_left
 intro k hk
 rw [h k (by simpa using hk)]
theorem nRow_zero (m : Nat) : List.replicate m (0 : Int) = nRow m (fun _ => 0) := by
 have e1 : nRow m (fun _ => 0) = (List.range m).map (fun _ => (0 : Int)) := rfl
 rw [e1, List.map_const', List.length_range]
/-- A term covers an index. -/
def covB (x : S72) (j : Nat) : Bool := decide (j &&& x.f0.toNat = x.f1.toNat)
def sumF (p : List S72) (j : Nat) : Nat := if p.any (fun x => covB x j) then 1 else 0
def okTerm (n : Int) (x : S72) : Bool := isTermM n x.f0 x.f1
def sumTableM (n : Int) (l : List S72) : Int × List Int × Bool := if 0 ≤ n ∧ n ≤ 4 ∧ l.length ≤ 16 ∧ l.all (okTerm n) = true then (n, nRow (2 ^ n.toNat) (sumF l), true) else (0, [], false)
theorem sumTableM_length (n : Int) (l : List S72) : (sumTableM n l).2.1.length ≤ 16 := by
 unfold sumTableM
 split
 ·rename_i h
  obtain ⟨a, rfl⟩ := nat_of h.1
  have h8 : 2 ^ a ≤ 2 ^ 4 := Nat.pow_le_pow_right (by decide) (by omega)
  simp only [nRow_length, Int.toNat_natCast]
  omega
 ·simp
/-! #### FnPrimes -/
noncomputable instance : DecidableEq S72 := fun _ _ => Classical.propDecidable _
theorem rd_nRow {N y : Nat} (F : Nat → Nat) (h : y < N) : rd (nRow N F) (y : Int) = (F y : Int) := by
 rw [rdN (by rw [nRow_length]; exact h)]
 simp [nRow]
theorem clr_fin : ∀ m v : Fin 16, ∀ i : Fin 4, v.1 &&& m.1 = v.1 → clrB v.1 i.1 &&& clrB m.1 i.1 = clrB v.1 i.1 := by decide +kernel
theorem clr_term {a m v i : Nat} (ha : a ≤ 4) (hm : m < 2 ^ a) (hv : v &&& m = v) (hi : i < 4) : isTermM (a : Int) ((clrB m i : Nat) : Int) ((clrB v i : Nat) : Int) = true := by
 have h8 : 2 ^ a ≤ 2 ^ 4 := Nat.pow_le_pow_right (by decide) ha
 have hvm : v ≤ m := by rw [← hv]; exact Nat.and_le_right
 have h1 := clr_fin ⟨m, by omega⟩ ⟨v, by omega⟩ ⟨i, hi⟩ hv
 have h2 : clrB m i ≤ m := Nat.sub_le _ _
 unfold isTermM
 rw [decide_eq_true_eq]
 simp only [Int.toNat_natCast]
 have h3 : ((2 : Int) ^ a) = ((2 ^ a : Nat) : Int) := by push_cast; rfl
 refine ⟨by omega, by omega, by omega, by rw [h3]; omega, by omega, h1⟩
theorem nat_term {a m v : Nat} (ha : a ≤ 4) (hm : m < 2 ^ a) (hv : v &&& m = v) : isTermM (a : Int) (m : Int) (v : Int) = true := by
 unfold isTermM
 rw [decide_eq_true_eq]
 simp only [Int.toNat_natCast]
 have h3 : ((2 : Int) ^ a) = ((2 ^ a : Nat) : Int) := by push_cast; rfl
 refine ⟨by omega, by omega, by omega, by rw [h3]; omega, by omega, hv⟩
section
variable (a : Nat) (ha : a ≤ 4) (l : List Int) (hla : l.length = 2 ^ a)
theorem fnPrimes_l7 (cov : List Int) (ps es : List S72) (hes : es.length ≤ 1000) (alone : Bool) (i n : Int) (x : S72) (L : List Int) (len : Int) (hn : Ev (fun k => laws_FnPrimes.l5 k es cov ps len (wrap64 (i + 1)) n L) true)
  (r : List S72) : ∀ (p : List S72) (j : Int) (found : Bool), j = p.length → es = p ++ r → (found || decide (x ∈ r)) = alone →
  Ev (fun k => laws_FnPrimes.l7 k es cov true alone found ps len i es es.length j n L x.f0 x.f1) true := by
 induction r with
 | nil =>
  intro p j found hj e h
  have hlen : es.length = p.length := by rw [e]; simp
  apply ev_up
  simp only [laws_FnPrimes.l7]
  have : found = alone := by simpa using h
  subst this
  exact ev_n (by omega) (ev_p (by trivial) (ev_n (by simp) hn))
 | cons y r ih =>
  intro p j found hj e h
  have hlen : es.length = p.length + r.length + 1 := by rw [e]; simp; omega
  have hy : rd_T72 es j = y := by rw [e]; exact rdTermA hj
  have ih' := fun f hf => ih (p ++ [y]) (j + 1) f (by simp; omega) (by rw [e]; simp) hf
  apply ev_up
  simp only [laws_FnPrimes.l7]
  rw [w64 (n := j + 1) (by omega) (by omega), hy]
  refine ev_p (by omega) (ev_p (by omega) (ev_p (by omega) (ev_ite (fun hf => ?_) (fun hf => ?_))))
  ·exact ih' true (by rw [hf] at h; simpa using h)
  ·have hff : found = false := by simpa using hf
   refine ih' _ ?_
   rw [hff, Bool.false_or] at h
   rw [← h]
   have : (y.f0 == x.f0 && (y.f1 == x.f1)) = decide (x = y) := by
    cases x with
    | mk x0 x1 =>
    cases y with
    | mk y0 y1 =>
    rw [Bool.eq_iff_iff, Bool.and_eq_true, beq_iff_eq, beq_iff_eq, decide_eq_true_eq]
    dsimp only
    constructor
    ·rintro ⟨rfl, rfl⟩; rfl
    ·intro h; cases h; exact ⟨rfl, rfl⟩
   rw [this, Bool.eq_iff_iff]
   simp
theorem fnPrimes_l6 (cov : List Int) (ps es : List S72) (hes : es.length ≤ 1000) (i n : Int) (x : S72) (L : List Int) (len : Int) (idx : List Int) (hil : idx.length ≤ 1000) (hidx : ∀ y ∈ idx, 0 ≤ y ∧ y < cov.length) (hn : Ev (fun k => laws_FnPrimes.l5 k es cov ps len (wrap64 (i + 1)) n L) true)
  (r : List Int) : ∀ (p : List Int) (j : Int) (alone : Bool), j = p.length → idx = p ++ r → (alone || r.any (fun y => rd cov y == 1)) = decide (x ∈ es) →
  Ev (fun k => laws_FnPrimes.l6 k es cov true alone ps len i idx idx.length j n L x.f0 x.f1) true := by
 induction r with
 | nil =>
  intro p j alone hj e h
  have hlen : idx.length = p.length := by rw [e]; simp
  apply ev_up
  simp only [laws_FnPrimes.l6]
  refine ev_n (by omega) (fnPrimes_l7 cov ps es hes alone i n x L len hn es [] 0 false rfl rfl ?_)
  simpa using h.symm
 | cons y r ih =>
  intro p j alone hj e h
  have hlen : idx.length = p.length + r.length + 1 := by rw [e]; simp; omega
  have hy : rd idx j = y := by rw [e]; exact rdA hj
  have hb := hidx y (by rw [e]; simp)
  have ih' := fun f hf => ih (p ++ [y]) (j + 1) f (by simp; omega) (by rw [e]; simp) hf
  apply ev_up
  simp only [laws_FnPrimes.l6]
  rw [w64 (n := j + 1) (by omega) (by omega), hy]
  refine ev_p (by omega) (ev_p (by omega) (ev_p (by omega) (ev_ite (fun hf => ?_) (fun hf => ?_))))
  ·exact ih' true (by rw [hf] at h; simpa using h)
  ·have hff : alone = false := by simpa using hf
   refine ev_p hb.1 (ev_p hb.2 (ih' _ ?_))
   rw [hff, Bool.false_or, List.any_cons] at h
   exact h
include ha in
theorem fnPrimes_l5 (cov : List Int) (ps es : List S72) (hps : ps.length ≤ 1000) (hes : es.length ≤ 1000) (hg : ∀ p ∈ ps, ∃ m v : Nat, m < 2 ^ a ∧ v &&& m = v ∧ p = ⟨(m : Int), (v : Int)⟩ ∧ ((idxM (2 ^ a) m v (2 ^ a)).any (fun y => rd cov y == 1)) = decide (p ∈ es)) (hcov : cov.length = 2 ^ a)
  (r : List S72) : ∀ (p : List S72) (i : Int), i = p.length → ps = p ++ r → Ev (fun k => laws_FnPrimes.l5 k es cov ps ps.length i (a : Int) l) true := by
 have h8 : 2 ^ a ≤ 2 ^ 4 := Nat.pow_le_pow_right (by decide) ha
 induction r with
 | nil =>
  intro p i hi e
  have hlen : ps.length = p.length := by rw [e]; simp
  apply ev_up
  simp only [laws_FnPrimes.l5]
  exact ev_n (by omega) (Ev.now _)
 | cons x r ih =>
  intro p i hi e
  have hlen : ps.length = p.length + r.length + 1 := by rw [e]; simp; omega
  have hx : rd_T72 ps i = x := by rw [e]; exact rdTermA hi
  obtain ⟨m, v, hm, hv, hxe, hal⟩ := hg x (by rw [e]; simp)
  have ih' := ih (p ++ [x]) (i + 1) (by simp; omega) (by rw [e]; simp)
  have hvm : v ≤ m := by rw [← hv]; exact Nat.and_le_right
  have ht : termIndicesM (a : Int) (m : Int) (v : Int) = (idxM (2 ^ a) m v (2 ^ a), true) := by
   unfold termIndicesM
   rw [if_pos (nat_term ha hm hv)]
   simp only [Int.toNat_natCast]
  have hs := spec_TermIndices_ev (a : Int) (m : Int) (v : Int) (by unfold I64; omega)
  rw [ht] at hs
  apply ev_up
  simp only [laws_FnPrimes.l5]
  rw [hx]
  refine ev_p (by omega) (ev_p (by omega) (ev_p (by omega) ?_))
  rw [hxe]
  refine Ev.bind hs ?_
  dsimp only
  have h6 := fnPrimes_l6 cov ps es hes i (a : Int) x l ps.length (idxM (2 ^ a) m v (2 ^ a)) (by have := idxM_length (2 ^ a) m v (2 ^ a); omega)
   (fun y hy => by obtain ⟨j, rfl, _, hj, _⟩ := idxM_mem (Nat.le_refl _) hy; omega) (by rw [w64 (n := i + 1) (by omega) (by omega)]; exact ih') (idxM (2 ^ a) m v (2 ^ a)) [] 0 false rfl rfl (by rw [Bool.false_or]; exact hal)
  rw [hxe] at h6
  exact h6
theorem fnPrimes_l4 (cov : List Int) (ps es : List S72) (hcov : cov.length = l.length) (hl16 : l.length ≤ 16) (hc : ∀ y : Nat, y < l.length → (rd l (y : Int) == 1) = decide (rd cov (y : Int) > 0)) (hn : Ev (fun k => laws_FnPrimes.l5 k es cov ps ps.length 0 (a : Int) l) true) (d : Nat) : ∀ i : Nat, i + d = l.length →
  Ev (fun k => laws_FnPrimes.l4 k ps es cov l l.length i (a : Int) l) true := by
 induction d with
 | zero =>
  intro i hi
  apply ev_up
  simp only [laws_FnPrimes.l4]
  exact ev_n (by omega) hn
 | succ d ih =>
  intro i hi
  have := hc i (by omega)
  apply ev_up
  simp only [laws_FnPrimes.l4]
  rw [wN (m := i + 1) (by push_cast; rfl) (by omega), this]
  exact ev_p (by omega) (ev_p (by omega) (ev_p (by omega) (ev_p (by omega) (ev_n (by simp) (ih (i + 1) (by omega))))))
include ha in
theorem fnPrimes_l3 (cov : List Int) (ps es : List S72) (i : Int) (len : Int) (m v : Nat) (hm : m < 2 ^ a) (hv : v &&& m = v) (hg : tableM (a : Int) l = true) (hp : primeF l m v true 0 a = true) (hl16 : l.length ≤ 16)
  (hn : Ev (fun k => laws_FnPrimes.l1 k ps es cov ps len (wrap64 (i + 1)) (a : Int) l) true) (d : Nat) : ∀ j : Nat, j + d = a →
  Ev (fun k => laws_FnPrimes.l3 k ps es cov j ps len i (a : Int) l (m : Int) (v : Int)) true := by
 have h8 : 2 ^ a ≤ 2 ^ 4 := Nat.pow_le_pow_right (by decide) ha
 have hvm : v ≤ m := by rw [← hv]; exact Nat.and_le_right
 induction d with
 | zero =>
  intro j hj
  apply ev_up
  simp only [laws_FnPrimes.l3]
  exact ev_n (by omega) hn
 | succ d ih =>
  intro j hj
  have ih' := ih (j + 1) (by omega)
  have hj8 : 2 ^ j ≤ 2 ^ 3 := Nat.pow_le_pow_right (by decide) (by omega)
  obtain ⟨⟨b1, b2⟩, b3⟩ := bits_f m v j (by omega) (by omega) (by omega)
  apply ev_up
  simp only [laws_FnPrimes.l3]
  rw [u64w (by omega) (by omega), shl1 j (by omega), andN m (2 ^ j) (by omega) (by omega), wN (n := (j : Int) + 1) (m := j + 1) (by push_cast; rfl) (by omega)]
  refine ev_p (by omega) (ev_p (by omega) (ev_ite (fun h => ih') (fun h => ?_)))
  have hb : (m >>> j) % 2 = 1 := b1 (by omega)
  obtain ⟨⟨c1, c2⟩, ⟨c3, c4, c5⟩, c6, c7⟩ := b3 hb
  have hf := primeF_all l m v a 0 hp j (by omega) (by omega) hb
  have hi := impl_IsImplicant_ev (a : Int) l ((clrB m j : Nat) : Int) ((clrB v j : Nat) : Int) (by unfold I64; omega) (by omega)
  have he : isImplicantM (a : Int) l ((clrB m j : Nat) : Int) ((clrB v j : Nat) : Int) = (false, true) := by
   unfold isImplicantM
   rw [if_pos ⟨hg, clr_term ha hm hv (by omega)⟩]
   simp only [Int.toNat_natCast]
   rw [hf]
  rw [he] at hi
  rw [wN (n := (m : Int) - ((2 ^ j : Nat) : Int)) (m := clrB m j) (by omega) (by omega), andNotN v (2 ^ j) (by omega) (by omega), c7]
  exact Ev.bind hi (ev_p rfl (ev_n (by simp) ih'))
theorem fnPrimes_l2 (ps es : List S72) (i : Int) (len : Int) (m v : Int) (N : Nat) (idx : List Int) (hil : idx.length ≤ 1000) (hidx : ∀ y ∈ idx, 0 ≤ y ∧ y < (N : Int)) (G : Nat → Nat) (n : Int) (hn : Ev (fun k => laws_FnPrimes.l3 k ps es (nRow N G) 0 ps len i n l m v) true)
  (r : List Int) : ∀ (p : List Int) (j : Int) (F : Nat → Nat), j = p.length → idx = p ++ r → (∀ y, y < N → F y + r.count (y : Int) = G y) → (∀ y, G y ≤ 1000000) →
  Ev (fun k => laws_FnPrimes.l2 k ps es (nRow N F) ps len i idx idx.length j n l m v) true := by
 induction r with
 | nil =>
  intro p j F hj e h hG
  have hlen : idx.length = p.length := by rw [e]; simp
  apply ev_up
  simp only [laws_FnPrimes.l2]
  have : nRow N F = nRow N G := nRow_congr (fun k hk => by simpa using h k hk)
  rw [this]
  exact ev_n (by omega) hn
 | cons x r ih =>
  intro p j F hj e h hG
  have hlen : idx.length = p.length + r.length + 1 := by rw [e]; simp; omega
  have hx : rd idx j = x := by rw [e]; exact rdA hj
  obtain ⟨h0, h1⟩ := hidx x (by rw [e]; simp)
  obtain ⟨y, rfl⟩ := nat_of h0
  have hy : y < N := by omega
  have hGy := hG y
  have hFy := h y hy
  rw [List.count_cons_self] at hFy
  have ih' := ih (p ++ [(y : Int)]) (j + 1) (fun k => if k = y then F y + 1 else F k) (by simp; omega) (by rw [e]; simp) (fun z hzN => by
   have hz := h z hzN
   rw [List.count_cons] at hz
   by_cases c : z = y
   ·subst c
    rw [if_pos rfl]
    rw [if_pos (by simp)] at hz
    omega
   ·rw [if_neg c]
    rw [if_neg (by simp; omega)] at hz
    omega) hG
  apply ev_up
  simp only [laws_FnPrimes.l2]
  rw [hx, w64 (n := j + 1) (by omega) (by omega), rd_nRow F hy, wN (n := (F y : Int) + 1) (m := F y + 1) (by push_cast; rfl) (by omega), Int.toNat_natCast, nRow_set hy]
  exact ev_p (by omega) (ev_p (by omega) (ev_p (by omega) (ev_p (by omega) (ev_p (by rw [nRow_length]; omega) ih'))))
def cnt (ps : List S72) (y : Nat) : Nat := ps.countP (fun p => covE p y)
include ha in
theorem fnPrimes_l1 (ps es : List S72) (hps : ps.length ≤ 1000) (hg : tableM (a : Int) l = true) (hl16 : l.length ≤ 16) (hso : ps.Pairwise ltT) (hm : ∀ p ∈ ps, ∃ m v : Nat, m < 2 ^ a ∧ p = ⟨(m : Int), (v : Int)⟩ ∧ v &&& m = v ∧ impliesM l m v = true ∧ primeF l m v true 0 a = true)
  (hn : Ev (fun k => laws_FnPrimes.l4 k ps es (nRow (2 ^ a) (cnt ps)) l l.length 0 (a : Int) l) true) (r : List S72) : ∀ (p : List S72) (i : Int), i = p.length → ps = p ++ r →
  Ev (fun k => laws_FnPrimes.l1 k ps es (nRow (2 ^ a) (cnt p)) ps ps.length i (a : Int) l) true := by
 have h8 : 2 ^ a ≤ 2 ^ 4 := Nat.pow_le_pow_right (by decide) ha
 induction r with
 | nil =>
  intro p i hi e
  have hlen : ps.length = p.length := by rw [e]; simp
  have hpp : p = ps := by rw [e]; simp
  apply ev_up
  simp only [laws_FnPrimes.l1]
  rw [hpp]
  exact ev_n (by omega) hn
 | cons x r ih =>
  intro p i hi e
  have hlen : ps.length = p.length + r.length + 1 := by rw [e]; simp; omega
  have hx : rd_T72 ps i = x := by rw [e]; exact rdTermA hi
  have ih' := ih (p ++ [x]) (i + 1) (by simp; omega) (by rw [e]; simp)
  obtain ⟨m, v, hma, hxe, hv, himp, hpr⟩ := hm x (by rw [e]; simp)
  have hvm : v ≤ m := by rw [← hv]; exact Nat.and_le_right
  have hcx : ∀ y, cnt (p ++ [x]) y = cnt p y + if covE x y = true then 1 else 0 := fun y => by
   unfold cnt
   rw [List.countP_append, List.countP_cons, List.countP_nil]
   simp
  have hle : ∀ y, cnt (p ++ [x]) y ≤ 1000000 := fun y => by
   have : cnt (p ++ [x]) y ≤ (p ++ [x]).length := List.countP_le_length
   rw [List.length_append, List.length_singleton] at this
   omega
  have ht : termIndicesM (a : Int) (m : Int) (v : Int) = (idxM (2 ^ a) m v (2 ^ a), true) := by
   unfold termIndicesM
   rw [if_pos (nat_term ha hma hv)]
   simp only [Int.toNat_natCast]
  have hs := spec_TermIndices_ev (a : Int) (m : Int) (v : Int) (by unfold I64; omega)
  have hi2 := impl_TermIndices_ev (a : Int) (m : Int) (v : Int) (by unfold I64; omega)
  rw [ht] at hs hi2
  have him := impl_IsImplicant_ev (a : Int) l (m : Int) (v : Int) (by unfold I64; omega) (by omega)
  have he : isImplicantM (a : Int) l (m : Int) (v : Int) = (true, true) := by
   unfold isImplicantM
   rw [if_pos ⟨hg, nat_term ha hma hv⟩]
   simp only [Int.toNat_natCast]
   rw [himp]
  rw [he] at him
  have hil : (idxM (2 ^ a) m v (2 ^ a)).length ≤ 16 := by have := idxM_length (2 ^ a) m v (2 ^ a); omega
  have h3 : Ev (fun k => laws_FnPrimes.j3 k ps es (nRow (2 ^ a) (cnt p)) (idxM (2 ^ a) m v (2 ^ a)) ps ps.length i false (a : Int) l (m : Int) (v : Int)) true := by
   apply ev_up
   simp only [laws_FnPrimes.j3]
   refine ev_n (by simp) (fnPrimes_l2 l ps es i ps.length m v (2 ^ a) _ (by omega) (fun y hy => by obtain ⟨j, rfl, _, hj, _⟩ := idxM_mem (Nat.le_refl _) hy; omega) (cnt (p ++ [x])) (a : Int) ?_ _ [] 0 (cnt p) rfl rfl (fun y hy => ?_) hle)
   ·exact fnPrimes_l3 a ha l _ ps es i ps.length m v hma hv hg hpr hl16 (by rw [w64 (n := i + 1) (by omega) (by omega)]; exact ih') a 0 (by omega)
   ·rw [hcx y, idx_count (2 ^ a) m v y (2 ^ a) (Nat.le_refl _)]
    congr 1
    have : (covE x y = true) ↔ (y &&& m = v) := by
     rw [hxe]
     unfold covE
     rw [decide_eq_true_eq]
     simp only [Int.toNat_natCast]
    by_cases c : y &&& m = v
    ·rw [if_pos (this.2 c), if_pos ⟨by omega, hy, c⟩]
    ·rw [if_neg (fun h => c (this.1 h)), if_neg (fun h => c h.2.2)]
  apply ev_up
  simp only [laws_FnPrimes.l1]
  rw [hx]
  refine ev_p (by omega) (ev_p (by omega) (ev_p (by omega) ?_))
  rw [hxe]
  dsimp only
  refine Ev.bind him (Ev.bind hi2 (Ev.bind hs (ev_p rfl (ev_p rfl (ev_p rfl (ev_p rfl (Ev.bind (qInts_self _ (by dsimp only; omega)) (ev_p rfl ?_))))))))
  dsimp only
  refine ev_ite (fun h0 => ?_) (fun _ => h3)
  rw [w64 (n := i - 1) (by omega) (by omega)]
  have hlt : ltT (rd_T72 ps (i - 1)) x := by
   have q1 : (i - 1).toNat < ps.length := by omega
   have e1 : ps[(i - 1).toNat]? = some (rd_T72 ps (i - 1)) := by
    show _ = some (ps.getD (i - 1).toNat _)
    rw [List.getD_eq_getElem?_getD, List.getElem?_eq_getElem q1]
    rfl
   have e2 : ps[i.toNat]? = some x := by
    rw [e, hi]
    simp
   exact ltT_get hso e1 e2 (by omega)
  rw [hxe] at hlt
  unfold ltT at hlt
  dsimp only at hlt
  refine ev_p (by omega) (ev_p (by omega) (ev_n (by omega) (ev_ite (fun h1 => ?_) (fun _ => h3))))
  rw [decide_eq_false (by omega)]
  exact h3
end
theorem fnPrimes_j1 (n : Int) (l : List Int) (hl : l.length ≤ 32) : Ev (fun k => laws_FnPrimes.j1 k (primeTermsM n l).2 (primeTermsM n l).1 (essentialTermsM n l).1 n l) true := by
 apply ev_up
 simp only [laws_FnPrimes.j1]
 by_cases hg : tableM n l = true
 ·have hg' := hg
  obtain ⟨a, rfl, ha, hla, hl16, hbits⟩ := tableM_of hg
  have h8 : 2 ^ a ≤ 2 ^ 4 := Nat.pow_le_pow_right (by decide) ha
  have e1 : primeTermsM (a : Int) l = (masksM l a 0 (2 ^ a), true) := by unfold primeTermsM; rw [if_pos hg, Int.toNat_natCast]
  have e2 : essentialTermsM (a : Int) l = (essL a (masksM l a 0 (2 ^ a)) (masksM l a 0 (2 ^ a)) 0, true) := by unfold essentialTermsM; rw [if_pos hg, Int.toNat_natCast]
  rw [e1, e2]
  obtain ⟨hpl, hpg⟩ := primes_facts ha l
  have hel := essL_length a (masksM l a 0 (2 ^ a)) (masksM l a 0 (2 ^ a)) 0
  have hso := masksM_sorted l a (2 ^ a) 0
  have hmem := masksM_mem l a (2 ^ a) 0
  have hcov := cover_all l a ha hla
  have hal : ∀ i x, (masksM l a 0 (2 ^ a))[i]? = some x → _ := fun i x hx => ess_alone (a := a) hso (i := i) (x := x) hx
  dsimp only
  generalize masksM l a 0 (2 ^ a) = ps at hpl hpg hel hso hmem hcov hal
  generalize essL a ps ps 0 = es at hel hal
  refine ev_p rfl (ev_p (by omega) (ev_p (by omega) ?_))
  rw [Int.toNat_natCast, hla, nRow_zero, show (fun _ : Nat => (0 : Nat)) = cnt [] from rfl]
  refine fnPrimes_l1 a ha l ps es (by omega) hg' hl16 hso (fun p hp => ?_) ?_ ps [] 0 rfl rfl
  ·obtain ⟨x, y, _, h1, _, h2, h3⟩ := hmem p hp
   exact ⟨x, y, by omega, h2, h3⟩
  refine fnPrimes_l4 a l _ ps es (by rw [nRow_length]; omega) hl16 (fun y hy => ?_) ?_ l.length 0 (by omega)
  ·rw [rd_nRow _ (by omega)]
   rw [Bool.eq_iff_iff, beq_iff_eq, decide_eq_true_eq]
   have hb := hbits (rd l (y : Int)) (by rw [rdN hy]; exact List.getElem_mem hy)
   unfold cnt
   constructor
   ·intro h
    obtain ⟨p, hp, hc⟩ := hcov y (by omega) (by omega)
    have : 0 < ps.countP (fun p => covE p y) := List.countP_pos_iff.2 ⟨p, hp, hc⟩
    omega
   ·intro h
    obtain ⟨p, hp, hc⟩ := List.countP_pos_iff.1 (show 0 < ps.countP (fun p => covE p y) by omega)
    obtain ⟨m, v, _, _, he, himp⟩ := hpg p hp
    rw [he] at hc
    unfold covE at hc
    rw [decide_eq_true_eq] at hc
    simp only [Int.toNat_natCast] at hc
    unfold impliesM at himp
    rw [List.all_eq_true] at himp
    have := himp (y : Int) (mem_idxM (Nat.le_refl _) (by omega) hy hc)
    unfold nz at this
    rw [decide_eq_true_eq] at this
    omega
  ·refine fnPrimes_l5 a ha l _ ps es (by omega) (by omega) (fun p hp => ?_) (nRow_length _ _) ps [] 0 rfl rfl
   obtain ⟨x, y, _, h1, _, h2, h3, _⟩ := hmem p hp
   refine ⟨x, y, by omega, h3, h2, ?_⟩
   obtain ⟨i, hi⟩ := List.mem_iff_getElem?.1 hp
   rw [Bool.eq_iff_iff, decide_eq_true_eq, hal i p hi, List.any_eq_true]
   constructor
   ·rintro ⟨z, hz, hz1⟩
    obtain ⟨j, rfl, _, hj, hjc⟩ := idxM_mem (Nat.le_refl _) hz
    rw [rd_nRow _ hj, beq_iff_eq] at hz1
    refine ⟨j, hj, ?_, by unfold cnt at hz1; omega⟩
    rw [h2]
    unfold covE
    rw [decide_eq_true_eq]
    simpa only [Int.toNat_natCast] using hjc
   ·rintro ⟨j, hj, hc, h1⟩
    refine ⟨(j : Int), mem_idxM (Nat.le_refl _) (by omega) hj ?_, ?_⟩
    ·rw [h2] at hc
     unfold covE at hc
     rw [decide_eq_true_eq] at hc
     simpa only [Int.toNat_natCast] using hc
    ·rw [rd_nRow _ hj, beq_iff_eq]
     unfold cnt
     omega
 ·have e1 : primeTermsM n l = ([], false) := by unfold primeTermsM; rw [if_neg hg]
  rw [e1]
  exact ev_n (by simp) (Ev.now _)
theorem fnPrimes_l0 (ok : Bool) (ps es : List S72) (n : Int) (l : List Int) (m v : Nat) (hm : m < 16) (xs : List Int) (hxl : xs.length ≤ 1000) (hxs : ∀ x ∈ xs, ∃ j : Nat, x = j ∧ j < 16 ∧ j &&& m = v) (hn : Ev (fun k => laws_FnPrimes.j1 k ok ps es n l) true) (r : List Int) : ∀ (p : List Int) (i : Int), i = p.length → xs = p ++ r →
  Ev (fun k => laws_FnPrimes.l0 k ok ps es xs xs.length i n l (m : Int) (v : Int)) true := by
 induction r with
 | nil =>
  intro p i hi e
  have hlen : xs.length = p.length := by rw [e]; simp
  apply ev_up
  simp only [laws_FnPrimes.l0]
  exact ev_n (by omega) hn
 | cons x r ih =>
  intro p i hi e
  have hlen : xs.length = p.length + r.length + 1 := by rw [e]; simp; omega
  have hx : rd xs i = x := by rw [e]; exact rdA hi
  obtain ⟨j, rfl, hj, hjm⟩ := hxs x (by rw [e]; simp)
  have ih' := ih (p ++ [(j : Int)]) (i + 1) (by simp; omega) (by rw [e]; simp)
  apply ev_up
  simp only [laws_FnPrimes.l0]
  rw [hx, w64 (n := i + 1) (by omega) (by omega), andN j m (by omega) (by omega), hjm]
  exact ev_p (by omega) (ev_p (by omega) (ev_p (by omega) (ev_p (by trivial) ih')))
theorem FnPrimes : laws_FnPrimes.Pure := by
 intro l0 l1 hm0 hy0 hw0 hm1 hy1 hw1
 apply ev_get
 have hc0 := bytes_of hy0 hw0
 have hc1 := bytes_of hy1 hw1
 unfold laws_FnPrimes.f
 rw [w64 (n := (l0.length : Int) + l1.length) (by omega) (by omega)]
 refine ev_ite (fun _ => Ev.now _) (fun _ => ?_)
 obtain ⟨n, l, ed, hl, _⟩ := DrawPrimeTerms_ok hc0
 obtain ⟨t, x, y, et, htn, hxI, hyI⟩ := DrawTermText_ok hc1
 obtain ⟨u, ul, ux, uy, eu, hul, huy⟩ := DrawIsImplicant_ok hc1
 obtain ⟨s, es⟩ := DrawReadTerm_ok hc1
 refine Ev.bind ed ?_
 dsimp only
 refine Ev.bind (impl_PrimeTerms_ev n l (by omega)) (Ev.bind (spec_PrimeTerms_ev n l (by omega)) (Ev.bind (impl_EssentialTerms_ev n l (by omega)) (Ev.bind (spec_EssentialTerms_ev n l (by omega)) ?_)))
 rw [et]
 refine Ev.bind (ev_c rfl) ?_
 dsimp only
 refine Ev.bind (impl_TermText_ev t x y hyI) (Ev.bind (spec_TermText_ev t x y hyI) (Ev.bind (impl_TermIndices_ev t x y hyI) (Ev.bind (spec_TermIndices_ev t x y hyI) (Ev.bind eu ?_))))
 dsimp only
 refine Ev.bind (impl_IsImplicant_ev u ul ux uy huy (by omega)) (Ev.bind (spec_IsImplicant_ev u ul ux uy huy (by omega)) (Ev.bind es (Ev.bind (impl_ReadTerm_ev s) (Ev.bind (spec_ReadTerm_ev s) ?_))))
 have p1 := primeTermsM_length n l
 have p2 := essentialTermsM_length n l
 have p3 := termIndicesM_length t x y
 have hj1 := fnPrimes_j1 n l hl
 have q1 : (essentialTermsM n l).2 = (primeTermsM n l).2 := by
  unfold essentialTermsM primeTermsM
  split <;> rfl
 have q2 : (termTextM t x y).2 = (termIndicesM t x y).2 := by
  unfold termTextM termIndicesM
  split <;> rfl
 have q3 : (termTextM t x y).2 = isTermM t x y := by
  unfold termTextM
  split
  ·rename_i h; exact h.symm
  ·rename_i h; simpa using h
 generalize hP : primeTermsM n l = P at hj1 p1 q1
 generalize hE : essentialTermsM n l = E at hj1 p2 q1
 refine ev_n (by simp) (Ev.bind (qTerms_self _ (by omega)) (ev_p rfl ?_))
 refine ev_n (by simp) (Ev.bind (qTerms_self _ (by omega)) (ev_p rfl ?_))
 refine ev_n (by simp) (ev_p rfl (ev_n (by simp) (Ev.bind (qInts_self _ (by omega)) (ev_p rfl ?_))))
 refine ev_n (by simp) (ev_n (by simp) (ev_n (by simp) (ev_n (by simp) (ev_n (by rw [q1]; simp) (ev_n (by rw [q2]; simp) ?_)))))
 rw [impl_IsTerm_eq t x y hyI, q3]
 refine Ev.bind (ev_c rfl) (ev_n (by simp) (ev_ite (fun h => ?_) (fun _ => hj1)))
 obtain ⟨a, m, v, rfl, rfl, rfl, ha, hm, hv, hvm, hm16⟩ := isTermM_nat h
 have eT : termTextM (a : Int) (m : Int) (v : Int) = (strOfNums (txtM m v 0 a), true) := by
  unfold termTextM
  rw [if_pos h]
  simp only [Int.toNat_natCast]
 have eI : termIndicesM (a : Int) (m : Int) (v : Int) = (idxM (2 ^ a) m v (2 ^ a), true) := by
  unfold termIndicesM
  rw [if_pos h]
  simp only [Int.toNat_natCast]
 have h8 : 2 ^ a ≤ 2 ^ 4 := Nat.pow_le_pow_right (by decide) ha
 rw [eT, eI]
 have hr := impl_ReadTerm_ev (strOfNums (txtM m v 0 a))
 rw [read_text a m v ha hm hv] at hr
 refine Ev.bind hr (ev_p rfl (ev_n (by simp) (ev_p (by rw [strOfNums_size, txtM_length]) ?_)))
 have hil := idxM_length (2 ^ a) m v (2 ^ a)
 exact fnPrimes_l0 _ _ _ n l m v hm16 _ (by dsimp only; omega) (fun z hz => by
  obtain ⟨j, rfl, _, hj, hjc⟩ := idxM_mem (Nat.le_refl _) hz
  exact ⟨j, rfl, by omega, hjc⟩) hj1 _ [] 0 rfl rfl
end Go.Proofs.Ytbkighlfgaifeaa.Pure
