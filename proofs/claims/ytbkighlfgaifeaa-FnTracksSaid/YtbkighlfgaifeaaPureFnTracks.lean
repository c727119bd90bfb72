/- The pure part of the law FnTracks: what the program and the reference compute is the same, for all arguments. Conditions: the numbers are of Go's int, the lengths of slices are. -/
import Derived.Test.YtbkighlfgaifeaaSFnTracksx15
import Derived.Test.YtbkighlfgaifeaaVTrKit
set_option linter.unusedVariables false
set_option linter.unusedSimpArgs false
namespace Go.Proofs.Ytbkighlfgaifeaa.Pure
open Go.RowKit Go.Proofs.Ytbkighlfgaifeaa.QFnTracks Go.Proofs.YtbkighlfgaifeaaW.PrintWords Go.Proofs.YtbkighlfgaifeaaW.PrintLast Go.Proofs.Ytbkighlfgaifeaa.Open Go.Proofs.Ytbkighlfgaifeaa.Kit
/-! #### rdMem -/
theorem rd_mem {ds : List Int} {i : Int} (h0 : 0 ≤ i) (h1 : i < ds.length) : rd ds i ∈ ds := by
 obtain ⟨n, rfl⟩ := nat_of h0
 have hn : n < ds.length := by omega
 rw [rdN hn]
 exact List.getElem_mem hn
/-! #### drawD -/
/-- What a cursor reads: bytes. -/
def bytesOk (code : List Int) : Prop := code.length ≤ 140737488355328 ∧ ∀ x ∈ code, 0 ≤ x ∧ x ≤ 255
theorem bits255 (y : Int) : 0 ≤ wrap64 (Go.bits .and .u64 y 255) ∧ wrap64 (Go.bits .and .u64 y 255) ≤ 255 := by
 show 0 ≤ wrap64 (IntKind.u64.wrap ((BitVec.ofInt 64 y &&& BitVec.ofInt 64 255).toNat : Int)) ∧ wrap64 (IntKind.u64.wrap ((BitVec.ofInt 64 y &&& BitVec.ofInt 64 255).toNat : Int)) ≤ 255
 have h : (BitVec.ofInt 64 y &&& BitVec.ofInt 64 255).toNat ≤ 255 := by
  rw [BitVec.toNat_and]
  exact Nat.le_trans Nat.and_le_right (by decide)
 generalize (BitVec.ofInt 64 y &&& BitVec.ofInt 64 255).toNat = m at h
 rw [u64w (by omega) (by omega), w64 (n := (m : Int)) (by omega) (by omega)]
 omega
theorem next_ok {code : List Int} (hc : bytesOk code) (at_ mix : Int) (h0 : 0 ≤ at_) (h1 : at_ ≤ 1000000000) : ∃ r m, spec_l1Cur_next.f code at_ mix = some (r, at_ + 1, m) ∧ 0 ≤ r ∧ r ≤ 255 := by
 unfold spec_l1Cur_next.f
 rw [w64 (n := at_ + 1) (by omega) (by omega)]
 by_cases c1 : at_ < (code.length : Int)
 ·have hm := hc.2 (rd code at_) (rd_mem h0 c1)
  rw [if_pos c1, if_pos h0, if_pos (by omega), w64 (n := rd code at_) (by omega) (by omega)]
  exact ⟨_, _, rfl, hm.1, hm.2⟩
 ·rw [if_neg c1, if_neg (by omega)]
  exact ⟨_, _, rfl, (bits255 _).1, (bits255 _).2⟩
theorem pick_ok {code : List Int} (hc : bytesOk code) (at_ mix n : Int) (h0 : 0 ≤ at_) (h1 : at_ ≤ 999999990) : ∃ r a m, spec_l1Cur_pick.f code at_ mix n = some (r, a, m) ∧ (at_ ≤ a ∧ a ≤ at_ + 2) ∧ 0 ≤ r ∧ (r = 0 ∨ r < n) := by
 unfold spec_l1Cur_pick.f
 by_cases c : n ≤ 1
 ·rw [if_pos c]
  exact ⟨0, at_, mix, rfl, by omega, by omega, .inl rfl⟩
 ·rw [if_neg c]
  obtain ⟨r, m, e, hr0, hr1⟩ := next_ok hc at_ mix h0 (by omega)
  rw [e, Option.bind_some]
  by_cases c2 : n > 200
  ·obtain ⟨r2, m2, e2, hs0, hs1⟩ := next_ok hc (at_ + 1) m (by omega) (by omega)
   rw [if_pos c2, e2, Option.bind_some, if_neg (by omega)]
   dsimp only
   rw [w64 (n := r * 256) (by omega) (by omega), w64 (n := r * 256 + r2) (by omega) (by omega)]
   exact ⟨_, _, _, rfl, by omega, Int.tmod_nonneg _ (by omega), .inr (Int.tmod_lt_of_pos _ (by omega))⟩
  ·rw [if_neg c2, if_neg (by omega)]
   dsimp only
   exact ⟨_, _, _, rfl, by omega, Int.tmod_nonneg _ (by omega), .inr (Int.tmod_lt_of_pos _ (by omega))⟩
theorem among_ok {code : List Int} (hc : bytesOk code) (at_ mix : Int) (l : List Int) (hl : 0 < l.length) (h0 : 0 ≤ at_) (h1 : at_ ≤ 999999990) : ∃ r a m, spec_l1Cur_among.f code at_ mix l = some (r, a, m) ∧ (at_ ≤ a ∧ a ≤ at_ + 2) ∧ r ∈ l := by
 unfold spec_l1Cur_among.f
 obtain ⟨r, a, m, e, ha, hr0, hr1⟩ := pick_ok hc at_ mix (l.length : Int) h0 h1
 have hr2 : r < (l.length : Int) := by omega
 rw [e, Option.bind_some]
 dsimp only
 rw [if_pos hr0, if_pos hr2]
 exact ⟨_, _, _, rfl, ha, rd_mem hr0 hr2⟩
theorem one_ok {code : List Int} (hc : bytesOk code) (at_ mix n : Int) (h0 : 0 ≤ at_) (h1 : at_ ≤ 999999990) : ∃ r a m, spec_l1Cur_one.f code at_ mix n = some (r, a, m) ∧ (at_ ≤ a ∧ a ≤ at_ + 2) := by
 unfold spec_l1Cur_one.f
 obtain ⟨r, a, m, e, ha, _⟩ := pick_ok hc at_ mix n h0 h1
 rw [e, Option.bind_some]
 exact ⟨_, _, _, rfl, ha⟩
theorem bytes_of {l : List Int} (h1 : l.length * 1 ≤ 140737488351232) (h2 : ∀ x ∈ l, (Lit.int .u8 x).wf = true) : bytesOk l := by
 refine ⟨by omega, fun x hx => ?_⟩
 have := h2 x hx
 simp [Lit.wf, IntKind.min, IntKind.max, IntKind.bits, IntKind.signed] at this
 omega
/-! #### chanD -/
theorem cwLoop_ok {code : List Int} (hc : bytesOk code) (wide : Int) : ∀ (d : Nat) (l : List S32) (a m : Int), 0 ≤ a → a ≤ 999990000 → d ≤ 1000 → a + 6 * d ≤ 999990000 → ∃ l' a' m', cwLoop code wide d l a m = some (l', a', m') ∧ (a ≤ a' ∧ a' ≤ a + 6 * d) ∧ l'.length = l.length + d := by
 intro d
 induction d with
 | zero => intro l a m h0 _ _ _; exact ⟨l, a, m, rfl, by omega, by omega⟩
 | succ d ih =>
  intro l a m h0 h1 hd hs
  rw [cwLoop]
  obtain ⟨b, a1, m1, e1, ha1, _⟩ := pick_ok hc a m wide h0 (by omega)
  rw [e1, Option.bind_some]
  dsimp only
  obtain ⟨p, a2, m2, e2, ha2, _⟩ := pick_ok hc a1 m1 7 (by omega) (by omega)
  rw [e2, Option.bind_some]
  dsimp only
  obtain ⟨q, a3, m3, e3, ha3, _⟩ := among_ok hc a2 m2 [0, 1, 2, 5, p] (by simp) (by omega) (by omega)
  rw [e3, Option.bind_some]
  dsimp only
  obtain ⟨l', a', m', e, ha, hl⟩ := ih (l ++ [(⟨b, wrap64 (b + q)⟩ : S32)]) a3 m3 (by omega) (by omega) (by omega) (by omega)
  exact ⟨l', a', m', e, by omega, by rw [hl, List.length_append, List.length_singleton]; omega⟩
theorem cwSw_ok {code : List Int} (hc : bytesOk code) (l : List S32) (q sw a m : Int) (h0 : 0 ≤ a) (h1 : a ≤ 999999990) : ∃ l' a' m', cwSw code l q sw a m = some (l', a', m') ∧ (a ≤ a' ∧ a' ≤ a + 2) ∧ l'.length = l.length := by
 unfold cwSw
 split
 ·obtain ⟨z, a1, m1, e1, ha1, _⟩ := among_ok hc a m [-1, (rd_T32 l q).f1, wrap64 ((rd_T32 l q).f1 + 1)] (by simp) h0 h1
  rw [e1, Option.bind_some]
  exact ⟨_, _, _, rfl, ha1, by simp⟩
 ·split
  ·obtain ⟨z, a1, m1, e1, ha1, _⟩ := among_ok hc a m [wrap64 ((rd_T32 l q).f0 - 1), 50, 51] (by simp) h0 h1
   rw [e1, Option.bind_some]
   exact ⟨_, _, _, rfl, ha1, by simp⟩
  ·exact ⟨l, a, m, rfl, by omega, rfl⟩
theorem cwEnd_ok {code : List Int} (hc : bytesOk code) (n : Int) (l : List S32) (hl : l.length = n.toNat) (a m : Int) (h0 : 0 ≤ a) (h1 : a ≤ 999999900) : ∃ l' a' m', cwEnd code n l a m = some (l', a', m') ∧ (a ≤ a' ∧ a' ≤ a + 6) ∧ l'.length = l.length := by
 unfold cwEnd
 split
 ·rename_i hn
  obtain ⟨q, a1, m1, e1, ha1, hq0, hq1⟩ := pick_ok hc a m n h0 (by omega)
  rw [e1, Option.bind_some]
  dsimp only
  rw [if_pos ⟨hq0, by omega⟩]
  obtain ⟨s, a2, m2, e2, ha2, _⟩ := pick_ok hc a1 m1 24 (by omega) (by omega)
  rw [e2, Option.bind_some]
  dsimp only
  obtain ⟨l', a', m', e, ha, hl⟩ := cwSw_ok hc l q s a2 m2 (by omega) (by omega)
  exact ⟨l', a', m', e, by omega, hl⟩
 ·exact ⟨l, a, m, rfl, by omega, rfl⟩
theorem cwBody_ok {code : List Int} (hc : bytesOk code) (n a m : Int) (hn : n ≤ 1000) (h0 : 0 ≤ a) (h1 : a ≤ 1000000) : ∃ l' a' m', cwBody code n a m = some (l', a', m') ∧ (a ≤ a' ∧ a' ≤ a + 7000) ∧ l'.length ≤ 1000 := by
 unfold cwBody
 obtain ⟨w, a1, m1, e1, ha1, _⟩ := among_ok hc a m [8, 16, 44] (by simp) h0 (by omega)
 rw [e1, Option.bind_some]
 dsimp only
 rw [if_pos hn]
 obtain ⟨l, a2, m2, e2, ha2, hl2⟩ := cwLoop_ok hc w n.toNat [] a1 m1 (by omega) (by omega) (by omega) (by omega)
 rw [e2, Option.bind_some]
 dsimp only
 rw [List.length_nil, Nat.zero_add] at hl2
 obtain ⟨l', a', m', e, ha, hl⟩ := cwEnd_ok hc n l hl2 a2 m2 (by omega) (by omega)
 exact ⟨l', a', m', e, by omega, by omega⟩
theorem channelWires_ok {code : List Int} (hc : bytesOk code) (a m : Int) (h0 : 0 ≤ a) (h1 : a ≤ 900000) : ∃ l' a' m', spec_l1Cur_channelWires.f code a m = some (l', a', m') ∧ (a ≤ a' ∧ a' ≤ a + 8000) ∧ l'.length ≤ 1000 := by
 unfold spec_l1Cur_channelWires.f
 obtain ⟨b, a1, m1, e1, ha1, hb0, hb1⟩ := pick_ok hc a m 8 h0 (by omega)
 rw [e1, Option.bind_some]
 dsimp only
 obtain ⟨o, a2, m2, e2, ha2⟩ := one_ok hc a1 m1 20 (by omega) (by omega)
 rw [e2, Option.bind_some]
 dsimp only
 by_cases c : o = true
 ·rw [if_pos c]
  obtain ⟨x, a3, m3, e3, ha3, hx0, hx1⟩ := pick_ok hc a2 m2 2 (by omega) (by omega)
  rw [e3, Option.bind_some]
  dsimp only
  rw [w64 (n := 20 + x) (by omega) (by omega)]
  obtain ⟨l', a', m', e, ha, hl⟩ := cwBody_ok hc (20 + x) a3 m3 (by omega) (by omega) (by omega)
  exact ⟨l', a', m', e, by omega, hl⟩
 ·rw [if_neg c]
  obtain ⟨l', a', m', e, ha, hl⟩ := cwBody_ok hc b a2 m2 (by omega) (by omega) (by omega)
  exact ⟨l', a', m', e, by omega, hl⟩
/-! #### sortM -/
/-- Where x goes in a row that is told from its end. -/
def sinkR (c : Int → Int → Int) (x : Int) : List Int → List Int
 | [] => [x]
 | y :: r => if c x y < 0 then y :: sinkR c x r else x :: y :: r
def sortR (c : Int → Int → Int) (xs : List Int) : List Int := xs.foldl (fun acc x => sinkR c x acc) []
theorem sinkR_length (c : Int → Int → Int) (x : Int) : ∀ r : List Int, (sinkR c x r).length = r.length + 1 := by
 intro r
 induction r with
 | nil => rfl
 | cons y r ih => rw [sinkR]; split <;> simp [ih]
theorem sortR_snoc (c : Int → Int → Int) (xs : List Int) (x : Int) : sortR c (xs ++ [x]) = sinkR c x (sortR c xs) := by
 unfold sortR
 rw [List.foldl_append]
 rfl
theorem sortR_length (c : Int → Int → Int) (xs : List Int) : ∀ i, i ≤ xs.length → (sortR c (xs.take i)).length = i := by
 intro i
 induction i with
 | zero => intro _; simp [sortR]
 | succ i ih =>
  intro h
  rw [List.take_add_one, List.getElem?_eq_getElem h]
  show (sortR c (xs.take i ++ [xs[i]])).length = _
  rw [sortR_snoc, sinkR_length, ih (by omega)]
theorem isSink_eq (c : Int → Int → Int) (x : Int) : ∀ (r post : List Int), Sep.isSink c r.length (r.reverse ++ x :: post) = (sinkR c x r).reverse ++ post := by
 intro r
 induction r with
 | nil => intro post; rfl
 | cons y r ih =>
  intro post
  have e0 : (y :: r).reverse ++ x :: post = r.reverse ++ y :: x :: post := by simp
  have e1 : (y :: r).reverse ++ x :: post = (r.reverse ++ [y]) ++ x :: post := by simp
  have hl : r.reverse.length = r.length := by simp
  have h1 : rd ((y :: r).reverse ++ x :: post) (r.length : Int) = y := by rw [e0]; exact rdA (by simp)
  have h2 : rd ((y :: r).reverse ++ x :: post) ((r.length : Int) + 1) = x := by rw [e1]; exact rdA (by simp)
  rw [List.length_cons, Sep.isSink, h1, h2, sinkR]
  by_cases h : c x y < 0
  ·rw [if_pos h, if_pos h]
   have hs : Sep.swp ((y :: r).reverse ++ x :: post) ((r.length : Int) + 1) = r.reverse ++ x :: y :: post := by
    unfold Sep.swp
    rw [show (r.length : Int) + 1 - 1 = (r.length : Int) by omega, h1, h2, e1, setB (by simp), show (r.reverse ++ [y]) ++ y :: post = r.reverse ++ y :: y :: post by simp, setB (by simp)]
   rw [hs, ih (y :: post)]
   simp
  ·rw [if_neg h, if_neg h]
   simp
theorem isTo_eq (c : Int → Int → Int) (xs : List Int) : ∀ i, i ≤ xs.length → Sep.isTo c xs i = (sortR c (xs.take i)).reverse ++ xs.drop i := by
 intro i
 induction i with
 | zero => intro _; simp [Sep.isTo, sortR]
 | succ i ih =>
  intro h
  have hs := isSink_eq c xs[i] (sortR c (xs.take i)) (xs.drop (i + 1))
  rw [sortR_length c xs i (by omega)] at hs
  rw [Sep.isTo, ih (by omega), List.drop_eq_getElem_cons h, hs, List.take_add_one, List.getElem?_eq_getElem h]
  show _ = (sortR c (xs.take i ++ [xs[i]])).reverse ++ _
  rw [sortR_snoc]
theorem isTo_all (c : Int → Int → Int) (xs : List Int) : Sep.isTo c xs xs.length = (sortR c xs).reverse := by
 rw [isTo_eq c xs _ (Nat.le_refl _), List.take_length, List.drop_length, List.append_nil]
def ltO (F : Int → Int) (a b : Int) : Prop := F a < F b ∨ (F a = F b ∧ a < b)
theorem ltO_asymm {F : Int → Int} {a b : Int} (h1 : ltO F a b) (h2 : ltO F b a) : False := by
 unfold ltO at h1 h2
 omega
theorem ltO_trans {F : Int → Int} {a b c : Int} (h1 : ltO F a b) (h2 : ltO F b c) : ltO F a c := by
 unfold ltO at h1 h2 ⊢
 omega
theorem sinkR_mem (c : Int → Int → Int) (x z : Int) : ∀ r : List Int, z ∈ sinkR c x r ↔ z = x ∨ z ∈ r := by
 intro r
 induction r with
 | nil => simp [sinkR]
 | cons y r ih =>
  rw [sinkR]
  split
  ·rw [List.mem_cons, ih, List.mem_cons]
   constructor
   ·rintro (h | h | h)
    ·exact .inr (.inl h)
    ·exact .inl h
    ·exact .inr (.inr h)
   ·rintro (h | h | h)
    ·exact .inr (.inl h)
    ·exact .inl h
    ·exact .inr (.inr h)
  ·rw [List.mem_cons]
theorem sinkR_sorted (c : Int → Int → Int) (F : Int → Int) (x : Int) : ∀ r : List Int, (∀ y ∈ r, (c x y < 0 ↔ F x < F y) ∧ y < x) → r.Pairwise (fun a b => ltO F b a) → (sinkR c x r).Pairwise (fun a b => ltO F b a) := by
 intro r
 induction r with
 | nil => intro _ _; simp [sinkR]
 | cons y r ih =>
  intro hc h
  rw [List.pairwise_cons] at h
  obtain ⟨h1, h2⟩ := h
  obtain ⟨hcy, hyx⟩ := hc y List.mem_cons_self
  rw [sinkR]
  by_cases hlt : c x y < 0
  ·rw [if_pos hlt, List.pairwise_cons]
   refine ⟨fun b hb => ?_, ih (fun z hz => hc z (List.mem_cons_of_mem _ hz)) h2⟩
   rcases (sinkR_mem c x b r).1 hb with rfl | hb
   ·exact Or.inl (hcy.1 hlt)
   ·exact h1 b hb
  ·rw [if_neg hlt, List.pairwise_cons, List.pairwise_cons]
   have hyx2 : ltO F y x := by
    have : ¬ F x < F y := fun h => hlt (hcy.2 h)
    unfold ltO
    omega
   refine ⟨fun b hb => ?_, h1, h2⟩
   rcases List.mem_cons.1 hb with rfl | hb
   ·exact hyx2
   ·exact ltO_trans (h1 b hb) hyx2
theorem iota_snoc (i : Nat) : Sep.iota (i + 1) = Sep.iota i ++ [(i : Int)] := by
 have := Sep.iota_succ (i : Int) (by omega)
 rwa [show ((i : Int) + 1).toNat = i + 1 by omega, Int.toNat_natCast] at this
theorem sort_iota (c : Int → Int → Int) (F : Int → Int) (n : Nat) (hc : ∀ x y : Int, 0 ≤ x → x < n → 0 ≤ y → y < n → (c x y < 0 ↔ F x < F y)) : ∀ i, i ≤ n → (sortR c (Sep.iota i)).Pairwise (fun a b => ltO F b a) ∧ ∀ z, z ∈ sortR c (Sep.iota i) ↔ (0 ≤ z ∧ z < (i : Int)) := by
 intro i
 induction i with
 | zero =>
  intro _
  refine ⟨by simp [sortR, Sep.iota], fun z => ?_⟩
  simp [sortR, Sep.iota]
  try omega
 | succ i ih =>
  intro h
  obtain ⟨h1, h2⟩ := ih (by omega)
  rw [iota_snoc, sortR_snoc]
  refine ⟨sinkR_sorted c F i _ (fun y hy => ?_) h1, fun z => ?_⟩
  ·have := (h2 y).1 hy
   exact ⟨hc i y (by omega) (by omega) (by omega) (by omega), by omega⟩
  ·rw [sinkR_mem, h2]
   omega
theorem pw_unique (R : Int → Int → Prop) (has : ∀ a b, R a b → R b a → False) : ∀ l1 l2 : List Int, l1.Pairwise R → l2.Pairwise R → (∀ z, z ∈ l1 ↔ z ∈ l2) → l1 = l2 := by
 intro l1
 induction l1 with
 | nil =>
  intro l2 _ _ h
  cases l2 with
  | nil => rfl
  | cons b l2 => exact absurd ((h b).2 List.mem_cons_self) (by simp)
 | cons a l1 ih =>
  intro l2 h1 h2 h
  cases l2 with
  | nil => exact absurd ((h a).1 List.mem_cons_self) (by simp)
  | cons b l2 =>
   rw [List.pairwise_cons] at h1 h2
   have hab : a = b := by
    rcases List.mem_cons.1 ((h a).1 List.mem_cons_self) with e | ha
    ·exact e
    ·rcases List.mem_cons.1 ((h b).2 List.mem_cons_self) with e | hb
     ·exact e.symm
     ·exact (has _ _ (h1.1 b hb) (h2.1 a ha)).elim
   subst hab
   rw [ih l2 h1.2 h2.2 (fun z => ?_)]
   constructor
   ·intro hz
    rcases List.mem_cons.1 ((h z).1 (List.mem_cons_of_mem _ hz)) with rfl | hz2
    ·exact (has _ _ (h1.1 _ hz) (h1.1 _ hz)).elim
    ·exact hz2
   ·intro hz
    rcases List.mem_cons.1 ((h z).2 (List.mem_cons_of_mem _ hz)) with rfl | hz2
    ·exact (has _ _ (h2.1 _ hz) (h2.1 _ hz)).elim
    ·exact hz2
/-- The indices below n, by their keys 0, .., m - 1. -/
def bucks (F : Int → Int) (n : Nat) : Nat → List Int
 | 0 => []
 | m + 1 => bucks F n m ++ (Sep.iota n).filter (fun i => decide (F i = (m : Int)))
theorem iota_pw (n : Nat) : (Sep.iota n).Pairwise (· < ·) := by
 unfold Sep.iota
 rw [List.pairwise_map]
 exact List.pairwise_lt_range.imp (fun h => by omega)
theorem iota_mem' {n : Nat} {z : Int} : z ∈ Sep.iota n ↔ (0 ≤ z ∧ z < (n : Int)) := by
 refine ⟨Sep.iota_mem, fun h => ?_⟩
 unfold Sep.iota
 exact List.mem_map.2 ⟨z.toNat, List.mem_range.2 (by omega), by omega⟩
theorem bucks_mem (F : Int → Int) (n : Nat) : ∀ (m : Nat) (z : Int), z ∈ bucks F n m ↔ (0 ≤ z ∧ z < (n : Int) ∧ 0 ≤ F z ∧ F z < (m : Int)) := by
 intro m
 induction m with
 | zero => intro z; simp [bucks]; try omega
 | succ m ih =>
  intro z
  rw [bucks, List.mem_append, ih, List.mem_filter, iota_mem', decide_eq_true_eq]
  omega
theorem bucks_pw (F : Int → Int) (n : Nat) : ∀ m : Nat, (bucks F n m).Pairwise (ltO F) := by
 intro m
 induction m with
 | zero => simp [bucks]
 | succ m ih =>
  rw [bucks, List.pairwise_append]
  refine ⟨ih, ?_, fun a ha b hb => ?_⟩
  ·refine ((iota_pw n).filter _).imp_of_mem ?_
   intro a b ha hb hab
   have h1 := (List.mem_filter.1 ha).2
   have h2 := (List.mem_filter.1 hb).2
   simp only [decide_eq_true_eq] at h1 h2
   exact Or.inr ⟨by omega, hab⟩
  ·have h1 := (bucks_mem F n m a).1 ha
   have h2 := (List.mem_filter.1 hb).2
   simp only [decide_eq_true_eq] at h2
   exact Or.inl (by omega)
theorem sort_bucks (c : Int → Int → Int) (F : Int → Int) (n m : Nat) (hc : ∀ x y : Int, 0 ≤ x → x < n → 0 ≤ y → y < n → (c x y < 0 ↔ F x < F y)) (hF : ∀ x : Int, 0 ≤ x → x < n → 0 ≤ F x ∧ F x < (m : Int)) :
  Sep.isTo c (Sep.iota n) n = bucks F n m := by
 have e := isTo_all c (Sep.iota n)
 rw [Sep.iota_length] at e
 rw [e]
 obtain ⟨h1, h2⟩ := sort_iota c F n hc n (Nat.le_refl _)
 refine pw_unique (ltO F) (fun _ _ => ltO_asymm) _ _ (List.pairwise_reverse.2 h1) (bucks_pw F n m) (fun z => ?_)
 rw [List.mem_reverse, h2, bucks_mem]
 constructor
 ·rintro ⟨h3, h4⟩
  have := hF z h3 h4
  exact ⟨h3, h4, this.1, this.2⟩
 ·rintro ⟨h3, h4, _, _⟩
  exact ⟨h3, h4⟩
/-! #### wireT -/
theorem rdWireA {p r : List S32} {x : S32} {i : Int} (hi : i = p.length) : rd_T32 (p ++ x :: r) i = x := getDA hi
instance decWire : DecidableEq S32 := fun a b => decidable_of_decidable_of_iff (p := a.f0 = b.f0 ∧ a.f1 = b.f1) ⟨fun h => by cases a; cases b; simp_all, fun h => by rw [h]; exact ⟨rfl, rfl⟩⟩
/-! #### rtOrderM -/
theorem iota_drop {n i : Nat} (h : i < n) : (Sep.iota n).drop i = (i : Int) :: (Sep.iota n).drop (i + 1) := by
 have hl : i < (Sep.iota n).length := by rw [Sep.iota_length]; exact h
 rw [List.drop_eq_getElem_cons hl]
 congr 1
 simp [Sep.iota]
theorem spec_rtOrder_l1 (l : List S32) (hl : l.length ≤ 1000) (f : Int) (hf : 0 ≤ f ∧ f ≤ 50) (R : List Int) : ∀ (d i : Nat) (acc : List Int), i + d = l.length → acc.length ≤ 100000 + i →
  (Ev (fun k => spec_rtOrder.l0 k l (acc ++ ((Sep.iota l.length).drop i).filter (fun i => decide ((rd_T32 l i).f0 = f))) (f + 1)) R) → Ev (fun k => spec_rtOrder.l1 k l acc f l (l.length : Int) (i : Int)) R := by
 intro d
 induction d with
 | zero =>
  intro i acc hi ha h
  apply ev_up
  simp only [spec_rtOrder.l1]
  refine ev_n (by omega) ?_
  rw [w64 (n := f + 1) (by omega) (by omega)]
  rw [List.drop_of_length_le (by rw [Sep.iota_length]; omega)] at h
  simpa using h
 | succ d ih =>
  intro i acc hi ha h
  apply ev_up
  simp only [spec_rtOrder.l1]
  rw [iota_drop (by omega), List.filter_cons] at h
  refine ev_p (by omega) (ev_p (by omega) (ev_p (by omega) (ev_ite (fun hc => ?_) (fun hc => ?_))))
  ·rw [if_pos (by simpa using hc)] at h
   rw [w64 (n := (i : Int) + 1) (by omega) (by omega), show ((i : Int) + 1) = ((i + 1 : Nat) : Int) by omega]
   refine ev_p (by omega) (ih (i + 1) _ (by omega) (by simp; omega) ?_)
   simpa using h
  ·rw [if_neg (by simpa using hc)] at h
   rw [w64 (n := (i : Int) + 1) (by omega) (by omega), show ((i : Int) + 1) = ((i + 1 : Nat) : Int) by omega]
   exact ih (i + 1) _ (by omega) (by omega) h
def keyF (l : List S32) (i : Int) : Int := (rd_T32 l i).f0
theorem spec_rtOrder_l0 (l : List S32) (hl : l.length ≤ 1000) : ∀ (d m : Nat), m + d = 51 → (bucks (keyF l) l.length m).length ≤ m * 1000 → Ev (fun k => spec_rtOrder.l0 k l (bucks (keyF l) l.length m) (m : Int)) (bucks (keyF l) l.length 51) := by
 intro d
 induction d with
 | zero =>
  intro m hm _
  obtain rfl : m = 51 := by omega
  apply ev_up
  simp only [spec_rtOrder.l0]
  exact ev_n (by omega) (Ev.now _)
 | succ d ih =>
  intro m hm hb
  apply ev_up
  simp only [spec_rtOrder.l0]
  refine ev_p (by omega) ?_
  have h0 : ((0 : Nat) : Int) = 0 := rfl
  have := spec_rtOrder_l1 l hl (m : Int) (by omega) (bucks (keyF l) l.length 51) l.length 0 (bucks (keyF l) l.length m) (by omega) (by omega)
  rw [h0] at this
  refine this ?_
  rw [List.drop_zero, show ((m : Int) + 1) = ((m + 1 : Nat) : Int) by omega]
  refine ih (m + 1) (by omega) ?_
  show (bucks (keyF l) l.length m ++ (Sep.iota l.length).filter _).length ≤ _
  rw [List.length_append]
  have h1 := List.length_filter_le (fun i => decide (keyF l i = (m : Int))) (Sep.iota l.length)
  rw [Sep.iota_length] at h1
  omega
theorem spec_rtOrder_ev (l : List S32) (hl : l.length ≤ 1000) : Ev (fun k => spec_rtOrder.f k l) (bucks (keyF l) l.length 51) := by
 unfold spec_rtOrder.f
 exact spec_rtOrder_l0 l hl 51 0 (by omega) (by simp [bucks])
/-! #### meetM -/
def meetB (a b : S32) : Bool := decide (a.f0 ≤ b.f1 ∧ b.f0 ≤ a.f1)
theorem spec_rtMeet_eq (a b : S32) : spec_rtMeet.f a.f0 a.f1 b.f0 b.f1 = some (meetB a b) := by
 unfold spec_rtMeet.f meetB
 by_cases h : a.f0 ≤ b.f1
 ·rw [if_pos h]; simp [h]
 ·rw [if_neg h]; simp [h]
/-! #### edgeM -/
def wAt (l : List S32) (i : Int) : S32 := rd_T32 l i
/-- The left edge's run over an order. -/
def runM (l : List S32) (r : List Int) (st : List Int × List Int) : List Int × List Int := Sep.leRun (keyF l) (fun i => (wAt l i).f1) r st
theorem runM_cons (l : List S32) (i : Int) (r : List Int) (o last : List Int) : runM l (i :: r) (o, last) = runM l r (o.set i.toNat (Sep.leTrack (keyF l i) last : Int), Sep.leLast (keyF l i) (wAt l i).f1 last) := rfl
def hitsB (l : List S32) (out : List Int) (s i w : Int) : Prop := rd out w = s ∧ meetB (wAt l w) (wAt l i) = true
/-- What the reference's search for a track needs of the order's part that is done. -/
def okP (l : List S32) (out : List Int) (P : List Int) : Prop := ∀ w ∈ P, 0 ≤ w ∧ w < (l.length : Int) ∧ w < (out.length : Int)
theorem edge_no (l : List S32) (out q : List Int) (n i s len j : Int) (hi : 0 ≤ i ∧ i < (l.length : Int)) (hq : q.length ≤ 1000) (R : List Int × Bool) : ∀ (r p t : List Int), q = p ++ r ++ t → n = ((p ++ r).length : Int) → okP l out r → (∀ w ∈ r, ¬ hitsB l out s i w) →
  Ev (fun k => spec_LeftEdge.l1 k l out q n i s n q len j) R → Ev (fun k => spec_LeftEdge.l1 k l out q n i s (p.length : Int) q len j) R := by
 intro r
 induction r with
 | nil =>
  intro p t e hn _ _ h
  rw [List.append_nil] at hn
  rwa [hn] at h ⊢
 | cons w r ih =>
  intro p t e hn hok hno h
  have hlen : q.length = p.length + r.length + 1 + t.length := by rw [e]; simp; omega
  have hn2 : n = (p.length : Int) + r.length + 1 := by rw [hn]; simp; omega
  have hw : rd q (p.length : Int) = w := by rw [e, List.append_assoc]; exact rdA rfl
  obtain ⟨w0, w1, w2⟩ := hok w List.mem_cons_self
  have hrec := ih (p ++ [w]) t (by rw [e]; simp) (by rw [hn]; simp) (fun y hy => hok y (List.mem_cons_of_mem _ hy)) (fun y hy => hno y (List.mem_cons_of_mem _ hy)) h
  rw [show ((p ++ [w]).length : Int) = (p.length : Int) + 1 by simp] at hrec
  apply ev_up
  simp only [spec_LeftEdge.l1, hw]
  rw [w64 (n := (p.length : Int) + 1) (by omega) (by omega)]
  refine ev_p (by omega) (ev_p (by omega) (ev_p (by omega) (ev_p (by omega) (ev_p (by omega) (ev_ite (fun hc => ?_) (fun _ => hrec))))))
  refine ev_p (by omega) (ev_p (by omega) (ev_p (by omega) (Ev.bind (ev_c (spec_rtMeet_eq (wAt l w) (wAt l i))) (ev_n (fun hm => hno w List.mem_cons_self ⟨hc, hm⟩) hrec))))
theorem edge_yes (l : List S32) (out q : List Int) (n i s len j : Int) (hi : 0 ≤ i ∧ i < (l.length : Int)) (hq : q.length ≤ 1000) (hs : 0 ≤ s ∧ s ≤ 1000) (R : List Int × Bool) : ∀ (r p t : List Int), q = p ++ r ++ t → n = ((p ++ r).length : Int) → okP l out r → (∃ w ∈ r, hitsB l out s i w) →
  Ev (fun k => spec_LeftEdge.l1 k l out q n i (s + 1) 0 q len j) R → Ev (fun k => spec_LeftEdge.l1 k l out q n i s (p.length : Int) q len j) R := by
 intro r
 induction r with
 | nil =>
  rintro p t e hn _ ⟨w, hw, _⟩ h
  cases hw
 | cons w r ih =>
  intro p t e hn hok hex h
  have hlen : q.length = p.length + r.length + 1 + t.length := by rw [e]; simp; omega
  have hn2 : n = (p.length : Int) + r.length + 1 := by rw [hn]; simp; omega
  have hw : rd q (p.length : Int) = w := by rw [e, List.append_assoc]; exact rdA rfl
  obtain ⟨w0, w1, w2⟩ := hok w List.mem_cons_self
  have hrec : ¬ hitsB l out s i w → Ev (fun k => spec_LeftEdge.l1 k l out q n i s ((p.length : Int) + 1) q len j) R := by
   intro hno
   have := ih (p ++ [w]) t (by rw [e]; simp) (by rw [hn]; simp) (fun y hy => hok y (List.mem_cons_of_mem _ hy)) (by
    obtain ⟨y, hy, hh⟩ := hex
    rcases List.mem_cons.1 hy with rfl | hy
    ·exact (hno hh).elim
    ·exact ⟨y, hy, hh⟩) h
   rwa [show ((p ++ [w]).length : Int) = (p.length : Int) + 1 by simp] at this
  apply ev_up
  simp only [spec_LeftEdge.l1, hw]
  rw [w64 (n := (p.length : Int) + 1) (by omega) (by omega), w64 (n := s + 1) (by omega) (by omega)]
  refine ev_p (by omega) (ev_p (by omega) (ev_p (by omega) (ev_p (by omega) (ev_p (by omega) (ev_ite (fun hc => ?_) (fun hc => hrec (fun hh => hc hh.1)))))))
  refine ev_p (by omega) (ev_p (by omega) (ev_p (by omega) (Ev.bind (ev_c (spec_rtMeet_eq (wAt l w) (wAt l i))) (ev_ite (fun hm => ?_) (fun hm => hrec (fun hh => hm hh.2))))))
  simpa using h
theorem edge_up (l : List S32) (out : List Int) (P t : List Int) (i len j : Int) (hi : 0 ≤ i ∧ i < (l.length : Int)) (hq : (P ++ t).length ≤ 1000) (hok : okP l out P) (R : List Int × Bool) (T : Nat) (hT : T ≤ 1000) (hno : ∀ w ∈ P, ¬ hitsB l out T i w)
  (h : Ev (fun k => spec_LeftEdge.l1 k l out (P ++ t) (P.length : Int) i (T : Int) (P.length : Int) (P ++ t) len j) R) : ∀ d s : Nat, s + d = T → (∀ u : Nat, s ≤ u → u < T → ∃ w ∈ P, hitsB l out u i w) → Ev (fun k => spec_LeftEdge.l1 k l out (P ++ t) (P.length : Int) i (s : Int) 0 (P ++ t) len j) R := by
 intro d
 induction d with
 | zero =>
  intro s hs _
  obtain rfl : s = T := by omega
  exact edge_no l out (P ++ t) P.length i s len j hi hq R P [] t (by simp) (by simp) hok hno h
 | succ d ih =>
  intro s hs hyes
  have hrec := ih (s + 1) (by omega) (fun u h1 h2 => hyes u (by omega) h2)
  rw [show ((s + 1 : Nat) : Int) = (s : Int) + 1 by omega] at hrec
  exact edge_yes l out (P ++ t) P.length i s len j hi hq (by omega) R P [] t (by simp) (by simp) hok (hyes s (Nat.le_refl _) (by omega)) hrec
/-- The tracks of the wires that are done, and each track's end. -/
structure InvE (l : List S32) (P out last : List Int) : Prop where
 lt : ∀ w ∈ P, 0 ≤ rd out w ∧ rd out w < (last.length : Int)
 ex : ∀ t : Nat, t < last.length → ∃ w ∈ P, rd out w = (t : Int) ∧ (wAt l w).f1 = rd last t
 le : ∀ t : Nat, t < last.length → ∀ w ∈ P, rd out w = (t : Int) → (wAt l w).f1 ≤ rd last t
theorem leTrack_lt (f : Int) : ∀ (l : List Int) (t : Nat), t < Sep.leTrack f l → rd l (t : Int) ≥ f := by
 intro l
 induction l with
 | nil => intro t h; simp [Sep.leTrack] at h
 | cons x r ih =>
  intro t h
  rw [Sep.leTrack] at h
  split at h
  ·rename_i hx
   cases t with
   | zero => simpa [rd] using hx
   | succ t =>
    have := ih t (by omega)
    simpa [rd] using this
  ·omega
theorem leTrack_at (f : Int) : ∀ (l : List Int), Sep.leTrack f l < l.length → rd l (Sep.leTrack f l : Int) < f := by
 intro l
 induction l with
 | nil => intro h; simp at h
 | cons x r ih =>
  intro h
  rw [Sep.leTrack] at h ⊢
  split
  ·rename_i hx
   rw [if_pos hx, List.length_cons] at h
   have := ih (by omega)
   simpa [rd] using this
  ·rename_i hx
   simp [rd]
   omega
theorem rd_set {xs : List Int} {a b v : Int} (ha : 0 ≤ a) (hb : 0 ≤ b) (hl : a < (xs.length : Int)) : rd (xs.set a.toNat v) b = if b = a then v else rd xs b := by
 unfold rd
 rw [List.getD_eq_getElem?_getD, List.getD_eq_getElem?_getD, List.getElem?_set]
 by_cases h : b = a
 ·subst h
  rw [if_pos rfl, if_pos rfl, if_pos (by omega)]
  rfl
 ·rw [if_neg h, if_neg (by omega)]
theorem leLast_length (f g : Int) (last : List Int) : (Sep.leLast f g last).length = if Sep.leTrack f last = last.length then last.length + 1 else last.length := by
 unfold Sep.leLast
 rw [List.length_set]
 split <;> simp
theorem leLast_rd (f g : Int) (last : List Int) (t : Nat) (ht : t < (Sep.leLast f g last).length) : rd (Sep.leLast f g last) t = if t = Sep.leTrack f last then g else rd last t := by
 have hle := Sep.leTrack_le f last
 rw [leLast_length] at ht
 unfold Sep.leLast
 have h1 := rd_set (xs := if Sep.leTrack f last = last.length then last ++ [0] else last) (a := (Sep.leTrack f last : Int)) (b := (t : Int)) (v := g) (by omega) (by omega) (by split <;> simp <;> omega)
 rw [Int.toNat_natCast] at h1
 rw [h1]
 by_cases h : t = Sep.leTrack f last
 ·rw [if_pos (by omega), if_pos h]
 ·rw [if_neg (by omega), if_neg h]
  split
  ·rename_i hc
   rw [if_pos hc] at ht
   unfold rd
   rw [List.getD_eq_getElem?_getD, List.getD_eq_getElem?_getD, List.getElem?_append_left (by omega)]
  ·rfl
theorem wire_meets {l : List S32} {w i : Int} (h1 : keyF l w ≤ keyF l i) (h2 : keyF l i ≤ (wAt l i).f1) : meetB (wAt l w) (wAt l i) = true ↔ keyF l i ≤ (wAt l w).f1 := by
 unfold meetB
 rw [decide_eq_true_eq]
 unfold keyF at *
 unfold wAt at *
 omega
theorem InvE.step {l : List S32} {P out last : List Int} {i : Int} (h : InvE l P out last) (hi : 0 ≤ i ∧ i < (out.length : Int)) (hni : ∀ w ∈ P, 0 ≤ w ∧ w ≠ i) (hg : keyF l i ≤ (wAt l i).f1) :
  InvE l (P ++ [i]) (out.set i.toNat (Sep.leTrack (keyF l i) last : Int)) (Sep.leLast (keyF l i) (wAt l i).f1 last) := by
 have hle := Sep.leTrack_le (keyF l i) last
 have hlen := leLast_length (keyF l i) (wAt l i).f1 last
 have hout : ∀ w, 0 ≤ w → rd (out.set i.toNat (Sep.leTrack (keyF l i) last : Int)) w = if w = i then (Sep.leTrack (keyF l i) last : Int) else rd out w := fun w hw => rd_set hi.1 hw hi.2
 have hlast : last.length ≤ (Sep.leLast (keyF l i) (wAt l i).f1 last).length ∧ Sep.leTrack (keyF l i) last < (Sep.leLast (keyF l i) (wAt l i).f1 last).length := by
  rw [hlen]
  split <;> omega
 refine ⟨fun w hw => ?_, fun t ht => ?_, fun t ht w hw he => ?_⟩
 ·rcases List.mem_append.1 hw with hw | hw
  ·rw [hout w (hni w hw).1, if_neg (hni w hw).2]
   have := h.lt w hw
   omega
  ·rw [List.mem_singleton.1 hw, hout i hi.1, if_pos rfl]
   omega
 ·rw [leLast_rd _ _ _ _ ht]
  by_cases hc : t = Sep.leTrack (keyF l i) last
  ·rw [if_pos hc]
   exact ⟨i, by simp, by rw [hout i hi.1, if_pos rfl, hc], rfl⟩
  ·rw [if_neg hc]
   have htl : t < last.length := by
    rw [hlen] at ht
    split at ht <;> omega
   obtain ⟨w, hw, h1, h2⟩ := h.ex t htl
   exact ⟨w, by simp [hw], by rw [hout w (hni w hw).1, if_neg (hni w hw).2, h1], h2⟩
 ·rw [leLast_rd _ _ _ _ ht]
  by_cases hc : t = Sep.leTrack (keyF l i) last
  ·rw [if_pos hc]
   rcases List.mem_append.1 hw with hw | hw
   ·rw [hout w (hni w hw).1, if_neg (hni w hw).2] at he
    have hlt := (h.lt w hw).2
    have h1 := h.le t (by omega) w hw he
    have h2 := leTrack_at (keyF l i) last (by omega)
    rw [← hc] at h2
    omega
   ·rw [List.mem_singleton.1 hw]
    exact Int.le_refl _
  ·rw [if_neg hc]
   have htl : t < last.length := by
    rw [hlen] at ht
    split at ht <;> omega
   rcases List.mem_append.1 hw with hw | hw
   ·rw [hout w (hni w hw).1, if_neg (hni w hw).2] at he
    exact h.le t htl w hw he
   ·rw [List.mem_singleton.1 hw, hout i hi.1, if_pos rfl] at he
    omega
theorem edge_main (l : List S32) (hl : l.length ≤ 20) (hg : ∀ i : Int, 0 ≤ i → i < (l.length : Int) → 0 ≤ keyF l i ∧ keyF l i ≤ (wAt l i).f1) : ∀ (r P out last : List Int), (P ++ r).Pairwise (ltO (keyF l)) → (∀ w ∈ P ++ r, 0 ≤ w ∧ w < (l.length : Int)) → (P ++ r).length ≤ 1000 → out.length = l.length → last.length ≤ P.length → InvE l P out last →
  Ev (fun k => spec_LeftEdge.l0 k l out (P ++ r) (P ++ r) ((P ++ r).length : Int) (P.length : Int)) ((runM l r (out, last)).1, true) := by
 intro r
 induction r with
 | nil =>
  intro P out last _ _ _ _ _ _
  apply ev_up
  simp only [spec_LeftEdge.l0, List.append_nil]
  exact ev_n (by omega) (Ev.now _)
 | cons i r ih =>
  intro P out last hpw hm hq ho hlp hinv
  have hlen : (P ++ i :: r).length = P.length + r.length + 1 := by simp; omega
  have hri : rd (P ++ i :: r) (P.length : Int) = i := rdA rfl
  obtain ⟨hi0, hi1⟩ := hm i (by simp)
  obtain ⟨hk0, hk1⟩ := hg i hi0 hi1
  have hP : ∀ w ∈ P, 0 ≤ w ∧ w < (l.length : Int) := fun w hw => hm w (by simp [hw])
  have hPi : ∀ w ∈ P, ltO (keyF l) w i := fun w hw => (List.pairwise_append.1 hpw).2.2 w hw i (by simp)
  have hne : ∀ w ∈ P, 0 ≤ w ∧ w ≠ i := fun w hw => ⟨(hP w hw).1, fun e => by have := hPi w hw; unfold ltO at this; rw [e] at this; omega⟩
  have hkey : ∀ w ∈ P, keyF l w ≤ keyF l i := fun w hw => by have := hPi w hw; unfold ltO at this; omega
  have hle := Sep.leTrack_le (keyF l i) last
  rw [runM_cons]
  have hF : keyF l i = keyF l i := rfl
  have hG : (wAt l i).f1 = (wAt l i).f1 := rfl
  rw [hF, hG]
  have hrec := ih (P ++ [i]) (out.set i.toNat (Sep.leTrack (keyF l i) last : Int)) (Sep.leLast (keyF l i) (wAt l i).f1 last) (by simpa using hpw) (by simpa using hm) (by simpa using hq) (by rw [List.length_set, ho]) (by rw [leLast_length]; simp; split <;> omega) (hinv.step ⟨hi0, by omega⟩ hne hk1)
  rw [show (P ++ [i]) ++ r = P ++ i :: r by simp] at hrec
  apply ev_up
  simp only [spec_LeftEdge.l0, hri]
  refine ev_p (by omega) (ev_p (by omega) (ev_p (by omega) ?_))
  have hok : okP l out P := fun w hw => ⟨(hP w hw).1, (hP w hw).2, by have := (hP w hw).2; omega⟩
  refine edge_up l out P (i :: r) i _ _ ⟨hi0, hi1⟩ hq hok _ (Sep.leTrack (keyF l i) last) (by omega) ?_ ?_ (Sep.leTrack (keyF l i) last) 0 (by omega) ?_
  ·rintro w hw ⟨h1, h2⟩
   rw [wire_meets (hkey w hw) hk1] at h2
   have hlt := hinv.lt w hw
   have h3 := leTrack_at (keyF l i) last (by omega)
   have h4 := hinv.le _ (by omega) w hw h1
   omega
  ·apply ev_up
   simp only [spec_LeftEdge.l1]
   refine ev_n (by omega) (ev_p (by omega) (ev_p (by omega) ?_))
   rw [w64 (n := (P.length : Int) + 1) (by omega) (by omega)]
   rw [show ((P ++ [i]).length : Int) = (P.length : Int) + 1 by simp] at hrec
   exact hrec
  ·intro u _ hu
   have h1 := leTrack_lt (keyF l i) last u hu
   obtain ⟨w, hw, h2, h3⟩ := hinv.ex u (by omega)
   exact ⟨w, hw, h2, (wire_meets (hkey w hw) hk1).2 (by omega)⟩
/-! #### l1In -/
theorem l1In_eq (a b c : Int) : spec_l1In.f a b c = some (decide (b ≤ a ∧ a ≤ c)) := by
 unfold spec_l1In.f
 by_cases h : b ≤ a
 ·rw [if_pos h]; simp [h]
 ·rw [if_neg h]; simp [h]
/-! #### chanM -/
def goodWire (x : S32) : Bool := decide (0 ≤ x.f0 ∧ x.f0 ≤ x.f1 ∧ x.f1 ≤ 50)
def chanM (l : List S32) : Bool := decide (l.length ≤ 20) && l.all goodWire
theorem spec_rtWire_eq (a b : Int) : spec_rtWire.f a b = some (goodWire ⟨a, b⟩) := by
 unfold spec_rtWire.f
 rw [l1In_eq, Option.bind_some]
 by_cases h : 0 ≤ a ∧ a ≤ b
 ·rw [decide_eq_true h, if_pos rfl, l1In_eq, Option.bind_some]
  congr 1
  exact decide_eq_decide.2 ⟨fun hh => ⟨h.1, h.2, hh.2⟩, fun hh => ⟨h.2, hh.2.2⟩⟩
 ·rw [decide_eq_false h, if_neg (by decide)]
  congr 1; symm
  exact decide_eq_false (fun hh => h ⟨hh.1, hh.2.1⟩)
theorem impl_isWire_eq (a b : Int) : impl_isWire.f a b = some (goodWire ⟨a, b⟩) := by
 unfold impl_isWire.f
 by_cases h1 : a ≥ 0
 ·rw [if_pos h1]
  by_cases h2 : a ≤ b
  ·rw [if_pos h2]
   congr 1
   exact decide_eq_decide.2 ⟨fun hh => ⟨h1, h2, hh⟩, fun hh => hh.2.2⟩
  ·rw [if_neg h2]
   congr 1; symm
   exact decide_eq_false (fun hh => h2 hh.2.1)
 ·rw [if_neg h1]
  congr 1; symm
  exact decide_eq_false (fun hh => h1 hh.1)
/-! #### chanOf -/
theorem chanM_of {l : List S32} (h : chanM l = true) : l.length ≤ 20 ∧ ∀ w ∈ l, goodWire w = true := by
 unfold chanM at h
 rw [Bool.and_eq_true, List.all_eq_true] at h
 exact ⟨of_decide_eq_true h.1, h.2⟩
/-! #### edgeSpec -/
theorem goodKey {l : List S32} (hg : ∀ w ∈ l, goodWire w = true) (i : Int) (h0 : 0 ≤ i) (h1 : i < (l.length : Int)) : 0 ≤ keyF l i ∧ keyF l i ≤ (wAt l i).f1 ∧ (wAt l i).f1 ≤ 50 := by
 obtain ⟨m, rfl⟩ := nat_of h0
 have hl : m < l.length := by omega
 have e : rd_T32 l (m : Int) = l[m] := getDN hl
 have := hg l[m] (List.getElem_mem hl)
 unfold goodWire at this
 unfold keyF wAt
 rw [e]
 simp only [Bool.and_eq_true, decide_eq_true_eq] at this
 omega
theorem bucks_len {l : List S32} (hg : ∀ w ∈ l, goodWire w = true) : (bucks (keyF l) l.length 51).length = l.length := by
 have h := sort_bucks (fun x y => keyF l x - keyF l y) (keyF l) l.length 51 (fun x y _ _ _ _ => by omega) (fun x h0 h1 => by have := goodKey hg x h0 h1; omega)
 rw [← h, Sep.isTo_length, Sep.iota_length]
def edgeR (l : List S32) : List Int := (runM l (bucks (keyF l) l.length 51) (List.replicate l.length 0, [])).1
theorem run_length (l : List S32) : ∀ (r : List Int) (st : List Int × List Int), (runM l r st).1.length = st.1.length := by
 intro r
 induction r with
 | nil => intro st; rfl
 | cons i r ih =>
  rintro ⟨o, la⟩
  rw [runM_cons, ih, List.length_set]
theorem leftEdge_spec (l : List S32) (h20 : l.length ≤ 20) (hg : ∀ w ∈ l, goodWire w = true) (q : List Int) (hq : q = bucks (keyF l) l.length 51) : Ev (fun k => spec_LeftEdge.l0 k l (List.replicate l.length 0) q q (q.length : Int) 0) ((runM l q (List.replicate l.length 0, [])).1, true) := by
 have hl : q.length = l.length := by
  rw [hq, bucks_len hg]
 have hm := edge_main l h20 (fun i h0 h1 => by have := goodKey hg i h0 h1; omega) q [] (List.replicate l.length 0) [] (by rw [List.nil_append, hq]; exact bucks_pw _ _ _) (fun w hw => by
  rw [List.nil_append, hq] at hw
  have := (bucks_mem (keyF l) l.length 51 w).1 hw
  omega) (by rw [List.nil_append, hl]; omega) (by simp) (by simp) ⟨fun w hw => absurd hw (by simp), fun t ht => absurd ht (by simp), fun t ht => absurd ht (by simp)⟩
 rw [List.nil_append] at hm
 exact hm
/-! #### cntL -/
theorem cnt_more {p q : Int → Bool} : ∀ {l : List Int}, (∀ x ∈ l, p x = true → q x = true) → (∃ x ∈ l, q x = true ∧ p x = false) → l.countP p + 1 ≤ l.countP q := by
 intro l
 induction l with
 | nil => rintro _ ⟨x, hx, _⟩; simp at hx
 | cons y r ih =>
  rintro h ⟨x, hx, h1, h2⟩
  have hr : ∀ x ∈ r, p x = true → q x = true := fun x hx => h x (List.mem_cons_of_mem _ hx)
  have hm : r.countP p ≤ r.countP q := List.countP_mono_left hr
  rw [List.countP_cons, List.countP_cons]
  by_cases hy : x = y
  ·subst hy
   rw [h1, h2]
   simp
   exact hm
  ·have hxr : x ∈ r := by
    rcases List.mem_cons.1 hx with e | e
    ·exact absurd e hy
    ·exact e
   have := ih hr ⟨x, hxr, h1, h2⟩
   have hyy : (if p y = true then 1 else 0) ≤ (if q y = true then 1 else 0) := by
    by_cases hp : p y = true
    ·rw [if_pos hp, if_pos (h y (List.mem_cons_self ..) hp)]; exact Nat.le_refl _
    ·rw [if_neg hp]; exact Nat.zero_le _
   omega
theorem cnt_one {p : Int → Bool} : ∀ {l : List Int}, l.Nodup → (∀ x ∈ l, ∀ y ∈ l, p x = true → p y = true → x = y) → l.countP p ≤ 1 := by
 intro l
 induction l with
 | nil => intro _ _; simp
 | cons y r ih =>
  intro hn h
  have hn' := List.nodup_cons.1 hn
  rw [List.countP_cons]
  by_cases hy : p y = true
  ·have h0 : r.countP p = 0 := by
    rw [List.countP_eq_zero]
    intro x hx hp
    have := h x (List.mem_cons_of_mem _ hx) y (List.mem_cons_self ..) hp hy
    exact hn'.1 (this ▸ hx)
   rw [if_pos hy, h0]
   exact Nat.le_refl _
  ·rw [if_neg hy, Nat.add_zero]
   exact ih hn'.2 (fun a ha b hb => h a (List.mem_cons_of_mem _ ha) b (List.mem_cons_of_mem _ hb))
theorem cnt_or {p q s : Int → Bool} : ∀ {l : List Int}, (∀ x ∈ l, s x = true → p x = true ∨ q x = true) → l.countP s ≤ l.countP p + l.countP q := by
 intro l
 induction l with
 | nil => intro _; simp
 | cons y r ih =>
  intro h
  have hr := ih (fun x hx => h x (List.mem_cons_of_mem _ hx))
  rw [List.countP_cons, List.countP_cons, List.countP_cons]
  have hy : (if s y = true then 1 else 0) ≤ (if p y = true then 1 else 0) + (if q y = true then 1 else 0) := by
   by_cases hs : s y = true
   ·rw [if_pos hs]
    rcases h y (List.mem_cons_self ..) hs with e | e
    ·rw [if_pos e]; omega
    ·rw [if_pos e]; omega
   ·rw [if_neg hs]; omega
  omega
theorem iota_nodup (n : Nat) : (Sep.iota n).Nodup := by
 have h := iota_pw n
 exact List.Pairwise.imp (fun h => by omega) h
/-! #### denDef -/
def atCol (x : Int) (w : S32) : Bool := decide (w.f0 ≤ x ∧ x ≤ w.f1)
def densityM (l : List S32) (x : Int) : Int := (l.countP (atCol x) : Nat)
theorem densityM_le (l : List S32) (x : Int) : 0 ≤ densityM l x ∧ densityM l x ≤ l.length := by
 unfold densityM
 have := List.countP_le_length (p := atCol x) (l := l)
 omega
/-! #### edgeFacts -/
theorem atIdx (l : List S32) (x : Int) : densityM l x = ((Sep.iota l.length).countP (fun j => atCol x (wAt l j)) : Nat) := by
 unfold densityM
 have e : l = (Sep.iota l.length).map (wAt l) := by
  apply List.ext_getElem
  ·simp [Sep.iota_length]
  ·intro n h1 h2
   rw [List.getElem_map]
   have hn : (Sep.iota l.length)[n]'(by rw [Sep.iota_length]; exact h1) = (n : Int) := by simp [Sep.iota]
   rw [hn]
   unfold wAt rd_T32
   simp [List.getD, List.getElem?_eq_getElem h1]
 conv => lhs; rw [e]
 rw [List.countP_map]
 rfl
/-- The density of some column reaches the number of tracks. -/
def DenE (l : List S32) (last : List Int) : Prop := last = [] ∨ ∃ x : Int, 0 ≤ x ∧ x ≤ 50 ∧ (last.length : Int) ≤ densityM l x
/-- Wires of the same track do not meet. -/
def SepE (l : List S32) (P out : List Int) : Prop := ∀ w ∈ P, ∀ v ∈ P, w ≠ v → rd out w = rd out v → meetB (wAt l w) (wAt l v) = false
theorem meetB_comm (a b : S32) : meetB a b = meetB b a := by
 unfold meetB
 exact decide_eq_decide.2 ⟨fun h => ⟨h.2, h.1⟩, fun h => ⟨h.2, h.1⟩⟩
theorem SepE.step {l : List S32} {P out last : List Int} {i : Int} (hs : SepE l P out) (h : InvE l P out last) (hi : 0 ≤ i ∧ i < (out.length : Int)) (hni : ∀ w ∈ P, 0 ≤ w ∧ w ≠ i) :
  SepE l (P ++ [i]) (out.set i.toNat (Sep.leTrack (keyF l i) last : Int)) := by
 have hout : ∀ w, 0 ≤ w → rd (out.set i.toNat (Sep.leTrack (keyF l i) last : Int)) w = if w = i then (Sep.leTrack (keyF l i) last : Int) else rd out w := fun w hw => rd_set hi.1 hw hi.2
 have key : ∀ w ∈ P, rd out w = (Sep.leTrack (keyF l i) last : Int) → meetB (wAt l w) (wAt l i) = false := fun w hw he => by
  have hlt := (h.lt w hw).2
  have h1 := h.le (Sep.leTrack (keyF l i) last) (by omega) w hw he
  have h2 := leTrack_at (keyF l i) last (by omega)
  unfold meetB
  refine decide_eq_false (fun hh => ?_)
  have : keyF l i = (wAt l i).f0 := rfl
  omega
 intro w hw v hv hne he
 rcases List.mem_append.1 hw with hw | hw
 ·rw [hout w (hni w hw).1, if_neg (hni w hw).2] at he
  rcases List.mem_append.1 hv with hv | hv
  ·rw [hout v (hni v hv).1, if_neg (hni v hv).2] at he
   exact hs w hw v hv hne he
  ·rw [List.mem_singleton.1 hv, hout i hi.1, if_pos rfl] at he
   rw [List.mem_singleton.1 hv]
   exact key w hw he
 ·rw [List.mem_singleton.1 hw, hout i hi.1, if_pos rfl] at he
  rcases List.mem_append.1 hv with hv | hv
  ·rw [hout v (hni v hv).1, if_neg (hni v hv).2] at he
   rw [List.mem_singleton.1 hw, meetB_comm]
   exact key v hv he.symm
  ·exact absurd ((List.mem_singleton.1 hw).trans (List.mem_singleton.1 hv).symm) hne
theorem DenE.step {l : List S32} {P out last : List Int} {i : Int} (hd : DenE l last) (h : InvE l P out last) (hi : 0 ≤ i ∧ i < (l.length : Int)) (hP : ∀ w ∈ P, 0 ≤ w ∧ w < (l.length : Int) ∧ w ≠ i ∧ keyF l w ≤ keyF l i) (hg : 0 ≤ keyF l i ∧ keyF l i ≤ (wAt l i).f1 ∧ (wAt l i).f1 ≤ 50) :
  DenE l (Sep.leLast (keyF l i) (wAt l i).f1 last) := by
 have hlen := leLast_length (keyF l i) (wAt l i).f1 last
 by_cases hc : Sep.leTrack (keyF l i) last = last.length
 ·rw [if_pos hc] at hlen
  refine .inr ⟨keyF l i, hg.1, by omega, ?_⟩
  rw [hlen, atIdx]
  have main : ∀ k : Nat, k ≤ last.length → k ≤ (Sep.iota l.length).countP (fun j => decide (j ∈ P ∧ rd out j < (k : Int) ∧ atCol (keyF l i) (wAt l j) = true)) := by
   intro k
   induction k with
   | zero => intro _; exact Nat.zero_le _
   | succ k ih =>
    intro hk
    have hk' := ih (by omega)
    obtain ⟨w, hw, h1, h2⟩ := h.ex k (by omega)
    have h3 := leTrack_lt (keyF l i) last k (by omega)
    have hw' := hP w hw
    have := cnt_more (p := fun j => decide (j ∈ P ∧ rd out j < (k : Int) ∧ atCol (keyF l i) (wAt l j) = true)) (q := fun j => decide (j ∈ P ∧ rd out j < ((k + 1 : Nat) : Int) ∧ atCol (keyF l i) (wAt l j) = true)) (l := Sep.iota l.length)
     (fun x _ hx => by
      have := of_decide_eq_true hx
      exact decide_eq_true ⟨this.1, by omega, this.2.2⟩)
     ⟨w, iota_mem'.2 ⟨hw'.1, hw'.2.1⟩, decide_eq_true ⟨hw, by omega, decide_eq_true ⟨hw'.2.2.2, by omega⟩⟩, decide_eq_false (fun hh => by omega)⟩
    omega
  have h1 := main last.length (Nat.le_refl _)
  have h2 := cnt_more (p := fun j => decide (j ∈ P ∧ rd out j < (last.length : Int) ∧ atCol (keyF l i) (wAt l j) = true)) (q := fun j => atCol (keyF l i) (wAt l j)) (l := Sep.iota l.length)
   (fun x _ hx => (of_decide_eq_true hx).2.2)
   ⟨i, iota_mem'.2 hi, decide_eq_true ⟨Int.le_refl _, hg.2.1⟩, decide_eq_false (fun hh => (hP i hh.1).2.2.1 rfl)⟩
  omega
 ·rw [if_neg hc] at hlen
  rcases hd with hd | ⟨x, h0, h1, h2⟩
  ·subst hd
   exact absurd (by simp [Sep.leTrack]) hc
  ·exact .inr ⟨x, h0, h1, by rw [hlen]; exact h2⟩
theorem edge_all (l : List S32) (hg : ∀ i : Int, 0 ≤ i → i < (l.length : Int) → 0 ≤ keyF l i ∧ keyF l i ≤ (wAt l i).f1 ∧ (wAt l i).f1 ≤ 50) : ∀ (r P out last : List Int), (P ++ r).Pairwise (ltO (keyF l)) → (∀ w ∈ P ++ r, 0 ≤ w ∧ w < (l.length : Int)) → out.length = l.length → last.length ≤ P.length → InvE l P out last → SepE l P out → DenE l last →
  ∃ last', InvE l (P ++ r) (runM l r (out, last)).1 last' ∧ SepE l (P ++ r) (runM l r (out, last)).1 ∧ DenE l last' ∧ last'.length ≤ (P ++ r).length := by
 intro r
 induction r with
 | nil => intro P out last _ _ _ hl hI hS hD; rw [List.append_nil]; exact ⟨last, hI, hS, hD, hl⟩
 | cons i r ih =>
  intro P out last hpw hm ho hl hI hS hD
  obtain ⟨hi0, hi1⟩ := hm i (by simp)
  have hgi := hg i hi0 hi1
  have hP : ∀ w ∈ P, 0 ≤ w ∧ w < (l.length : Int) := fun w hw => hm w (by simp [hw])
  have hPi : ∀ w ∈ P, ltO (keyF l) w i := fun w hw => (List.pairwise_append.1 hpw).2.2 w hw i (by simp)
  have hne : ∀ w ∈ P, 0 ≤ w ∧ w ≠ i := fun w hw => ⟨(hP w hw).1, fun e => by have := hPi w hw; unfold ltO at this; rw [e] at this; omega⟩
  have hkey : ∀ w ∈ P, keyF l w ≤ keyF l i := fun w hw => by have := hPi w hw; unfold ltO at this; omega
  have hI2 := hI.step ⟨hi0, by omega⟩ hne hgi.2.1
  have hS2 := hS.step hI ⟨hi0, by omega⟩ hne
  have hD2 := hD.step hI ⟨hi0, hi1⟩ (fun w hw => ⟨(hP w hw).1, (hP w hw).2, (hne w hw).2, hkey w hw⟩) hgi
  have hlen := leLast_length (keyF l i) (wAt l i).f1 last
  have e : P ++ i :: r = (P ++ [i]) ++ r := by simp
  rw [e, runM_cons]
  refine ih (P ++ [i]) _ _ (by rw [← e]; exact hpw) (by rw [← e]; exact hm) (by rw [List.length_set]; exact ho) ?_ hI2 hS2 hD2
  have : (Sep.leLast (keyF l i) (wAt l i).f1 last).length ≤ (P ++ [i]).length := by
   rw [hlen, List.length_append, List.length_singleton]
   split <;> omega
  exact this
/-! #### spec_rtGood -/
theorem spec_rtGood_l0 (l : List S32) (hl : l.length ≤ 9223372036854775807) (r : List S32) : ∀ (p : List S32) (i : Int), i = p.length → l = p ++ r →
  Ev (fun k => spec_rtGood.l0 k l l l.length i) (decide (l.length ≤ 20) && r.all goodWire) := by
 induction r with
 | nil =>
  intro p i hi e
  have hlen : l.length = p.length := by rw [e]; simp
  apply ev_up
  simp only [spec_rtGood.l0]
  refine ev_n (by omega) (ev_eq (Ev.now _) ?_)
  rw [List.all_nil, Bool.and_true]
  exact decide_eq_decide.2 (by omega)
 | cons x r ih =>
  intro p i hi e
  have hlen : l.length = p.length + r.length + 1 := by rw [e]; simp; omega
  have hx : rd_T32 l i = x := by rw [e]; exact rdWireA hi
  have ih' := ih (p ++ [x]) (i + 1) (by simp; omega) (by rw [e]; simp)
  apply ev_up
  simp only [spec_rtGood.l0]
  refine ev_p (by omega) (ev_p (by omega) (ev_p (by omega) ?_))
  rw [hx, spec_rtWire_eq]
  refine Ev.bind (ev_c rfl) ?_
  have ex : (⟨x.f0, x.f1⟩ : S32) = x := rfl
  rw [ex]
  refine ev_ite (fun h => ?_) (fun h => ?_)
  ·rw [w64 (by omega) (by omega)]
   refine ev_eq ih' ?_
   rw [List.all_cons, h, Bool.true_and]
  ·refine ev_eq (Ev.now _) ?_
   have h' : goodWire x = false := by simpa using h
   rw [List.all_cons, h', Bool.false_and, Bool.and_false]
theorem spec_rtGood_ev (l : List S32) (hl : l.length ≤ 9223372036854775807) : Ev (fun k => spec_rtGood.f k l) (chanM l) := by
 unfold spec_rtGood.f chanM
 exact spec_rtGood_l0 l hl l [] 0 rfl rfl
/-! #### edgeTop -/
/-- What the left edge's tracks are: m of them, from 0 on, none with two wires that meet; and some column is as dense. -/
structure Edge (l : List S32) (e : List Int) (m : Nat) : Prop where
 len : e.length = l.length
 le : m ≤ l.length
 lt : ∀ j : Int, 0 ≤ j → j < (l.length : Int) → 0 ≤ rd e j ∧ rd e j < (m : Int)
 ex : ∀ t : Nat, t < m → ∃ j : Int, 0 ≤ j ∧ j < (l.length : Int) ∧ rd e j = (t : Int)
 sep : ∀ i j : Int, 0 ≤ i → i < (l.length : Int) → 0 ≤ j → j < (l.length : Int) → i ≠ j → rd e i = rd e j → meetB (wAt l i) (wAt l j) = false
 den : m = 0 ∨ ∃ x : Int, 0 ≤ x ∧ x ≤ 50 ∧ (m : Int) ≤ densityM l x
theorem edge_topS (l : List S32) (hl : l.length ≤ 1048576) (h : chanM l = true) : ∃ m, Edge l (edgeR l) m ∧ Ev (fun k => spec_LeftEdge.f k l) (edgeR l, true) := by
 obtain ⟨h20, hg⟩ := chanM_of h
 have hs := spec_rtOrder_ev l (by omega)
 have hk := fun i h0 h1 => goodKey (l := l) hg i h0 h1
 have hpw := bucks_pw (keyF l) l.length 51
 have hmem : ∀ w : Int, w ∈ bucks (keyF l) l.length 51 ↔ (0 ≤ w ∧ w < (l.length : Int)) := fun w => by
  rw [bucks_mem]
  refine ⟨fun hh => ⟨hh.1, hh.2.1⟩, fun hh => ?_⟩
  have := hk w hh.1 hh.2
  exact ⟨hh.1, hh.2, this.1, by omega⟩
 have hql : (bucks (keyF l) l.length 51).length = l.length := by
  exact bucks_len hg
 have hE : edgeR l = (runM l (bucks (keyF l) l.length 51) (List.replicate l.length 0, [])).1 := by unfold edgeR; rfl
 have hlen : (edgeR l).length = l.length := by
  rw [hE, run_length, List.length_replicate]
 obtain ⟨q, hq⟩ : ∃ q, q = bucks (keyF l) l.length 51 := ⟨_, rfl⟩
 have hr := leftEdge_spec l h20 hg q hq
 rw [← hq] at hs hpw hmem hql hE
 obtain ⟨last, hI, hS, hD, hL⟩ := edge_all l hk q [] (List.replicate l.length 0) [] (by rw [List.nil_append]; exact hpw) (fun w hw => (hmem w).1 hw) (by simp) (by simp)
  ⟨fun w hw => absurd hw (by simp), fun t ht => absurd ht (by simp), fun t ht => absurd ht (by simp)⟩ (fun w hw => absurd hw (by simp)) (.inl rfl)
 rw [List.nil_append, ← hE] at hI hS
 rw [List.nil_append] at hL
 rw [← hE] at hr
 generalize edgeR l = e at hI hS hr hlen hE
 have hsp : Ev (fun k => spec_LeftEdge.f k l) (e, true) := by
  unfold spec_LeftEdge.f
  refine Ev.bind (spec_rtGood_ev l (by omega)) (ev_p h (ev_p (by omega) (ev_p (by omega) (Ev.bind hs ?_))))
  rw [Int.toNat_natCast]
  exact hr
 refine ⟨last.length, ⟨hlen, by omega, fun j h0 h1 => hI.lt j ((hmem j).2 ⟨h0, h1⟩), fun t ht => ?_, fun i j a b c d hne he => hS i ((hmem i).2 ⟨a, b⟩) j ((hmem j).2 ⟨c, d⟩) hne he, ?_⟩, hsp⟩
 ·obtain ⟨w, hw, h1, _⟩ := hI.ex t ht
  exact ⟨w, ((hmem w).1 hw).1, ((hmem w).1 hw).2, h1⟩
 ·rcases hD with hD | hD
  ·exact .inl (by rw [hD]; rfl)
  ·exact .inr hD
/-! #### routedD -/
theorem routed_l0 (l : List S32) (code : List Int) (a m : Int) (n : Nat) (hn : n ≤ 1000) (d : Nat) : ∀ (tr : List Int) (i : Int), tr.length = n → 0 ≤ i → i + d = n →
  ∃ tr', Ev (fun k => spec_l1Cur_routed.l0 k l tr n i code a m) (l, tr', a, m) ∧ tr'.length = n := by
 induction d with
 | zero =>
  intro tr i ht h0 hi
  refine ⟨tr, ?_, ht⟩
  apply ev_up
  simp only [spec_l1Cur_routed.l0]
  exact ev_n (by omega) (Ev.now _)
 | succ d ih =>
  intro tr i ht h0 hi
  obtain ⟨tr', he, hl⟩ := ih (tr.set i.toNat (wrap64 (rd tr i + 3))) (i + 1) (by rw [List.length_set]; exact ht) (by omega) (by omega)
  refine ⟨tr', ?_, hl⟩
  apply ev_up
  simp only [spec_l1Cur_routed.l0]
  refine ev_p (by omega) (ev_p h0 (ev_p (by omega) ?_))
  rw [w64 (n := i + 1) (by omega) (by omega)]
  exact he
theorem l1Own_eq (l : List Int) (h : l.length ≤ 1000) : spec_l1Own.f l = some l := by
 unfold spec_l1Own.f
 rw [Option.bind_some, if_pos (by simp; omega), List.nil_append]
theorem routed_ok {code : List Int} (hc : bytesOk code) : ∃ (l : List S32) (tr : List Int) (a m : Int), Ev (fun k => spec_l1Cur_routed.f k code 0 0) (l, tr, a, m) ∧ 0 ≤ a ∧ a ≤ 100000 ∧ l.length ≤ 1000 ∧ tr.length ≤ 1000 := by
 obtain ⟨l, a, m, e, ha, hl⟩ := channelWires_ok hc 0 0 (by omega) (by omega)
 unfold spec_l1Cur_routed.f
 rw [e]
 have hg := spec_rtGood_ev l (by omega)
 by_cases h : chanM l = true
 ·obtain ⟨t, he, hes⟩ := edge_topS l (by omega) h
  generalize edgeR l = ed at he hes
  have h20 := (chanM_of h).1
  have hel := he.len
  have hown := l1Own_eq ed (by omega)
  rw [h] at hg
  by_cases hp : (ed.length : Int) > 0
  ·obtain ⟨q, a1, m1, e1, ha1, hq0, hq1⟩ := pick_ok hc a m 8 (by omega) (by omega)
   by_cases c0 : q = 0
   ·obtain ⟨x, a2, m2, e2, ha2, hx0, hx1⟩ := pick_ok hc a1 m1 (ed.length : Int) (by omega) (by omega)
    obtain ⟨y, a3, m3, e3, ha3, _⟩ := among_ok hc a2 m2 [0, 1, 19, 20, -1] (by simp) (by omega) (by omega)
    refine ⟨l, ed.set x.toNat y, a3, m3, ?_, by omega, by omega, hl, by rw [List.length_set]; omega⟩
    refine Ev.bind (ev_c rfl) (Ev.bind hg (ev_p rfl (Ev.bind hes ?_)))
    dsimp only
    rw [hown]
    refine Ev.bind (ev_c rfl) (ev_p hp ?_)
    rw [e1]
    refine Ev.bind (ev_c rfl) (ev_p c0 ?_)
    dsimp only
    rw [e2]
    refine Ev.bind (ev_c rfl) ?_
    dsimp only
    rw [e3]
    exact Ev.bind (ev_c rfl) (ev_p hx0 (ev_p (by omega) (Ev.now _)))
   ·by_cases c1 : q = 1
    ·obtain ⟨tr', he', hl'⟩ := routed_l0 l code a1 m1 ed.length (by omega) ed.length ed 0 rfl (by omega) (by omega)
     refine ⟨l, tr', a1, m1, ?_, by omega, by omega, hl, by omega⟩
     refine Ev.bind (ev_c rfl) (Ev.bind hg (ev_p rfl (Ev.bind hes ?_)))
     dsimp only
     rw [hown]
     refine Ev.bind (ev_c rfl) (ev_p hp ?_)
     rw [e1]
     exact Ev.bind (ev_c rfl) (ev_n c0 (ev_p c1 he'))
    ·by_cases c2 : q = 2
     ·obtain ⟨o, a2, m2, e2, ha2⟩ := one_ok hc a1 m1 3 (by omega) (by omega)
      by_cases c3 : o = true
      ·refine ⟨l, ed.drop 1, a2, m2, ?_, by omega, by omega, hl, by rw [List.length_drop]; omega⟩
       refine Ev.bind (ev_c rfl) (Ev.bind hg (ev_p rfl (Ev.bind hes ?_)))
       dsimp only
       rw [hown]
       refine Ev.bind (ev_c rfl) (ev_p hp ?_)
       rw [e1]
       refine Ev.bind (ev_c rfl) (ev_n c0 (ev_n c1 (ev_p c2 ?_)))
       dsimp only
       rw [e2]
       exact Ev.bind (ev_c rfl) (ev_p c3 (ev_p (by omega) (Ev.now _)))
      ·refine ⟨l, ed, a2, m2, ?_, by omega, by omega, hl, by omega⟩
       refine Ev.bind (ev_c rfl) (Ev.bind hg (ev_p rfl (Ev.bind hes ?_)))
       dsimp only
       rw [hown]
       refine Ev.bind (ev_c rfl) (ev_p hp ?_)
       rw [e1]
       refine Ev.bind (ev_c rfl) (ev_n c0 (ev_n c1 (ev_p c2 ?_)))
       dsimp only
       rw [e2]
       exact Ev.bind (ev_c rfl) (ev_n c3 (Ev.now _))
     ·refine ⟨l, ed, a1, m1, ?_, by omega, by omega, hl, by omega⟩
      refine Ev.bind (ev_c rfl) (Ev.bind hg (ev_p rfl (Ev.bind hes ?_)))
      dsimp only
      rw [hown]
      refine Ev.bind (ev_c rfl) (ev_p hp ?_)
      rw [e1]
      exact Ev.bind (ev_c rfl) (ev_n c0 (ev_n c1 (ev_n c2 (Ev.now _))))
  ·refine ⟨l, ed, a, m, ?_, by omega, by omega, hl, by omega⟩
   refine Ev.bind (ev_c rfl) (Ev.bind hg (ev_p rfl (Ev.bind hes ?_)))
   dsimp only
   rw [hown]
   exact Ev.bind (ev_c rfl) (ev_n hp (Ev.now _))
 ·refine ⟨l, List.replicate l.length 0, a, m, ?_, by omega, by omega, hl, by rw [List.length_replicate]; exact hl⟩
  have hf : chanM l = false := by simpa using h
  rw [hf] at hg
  refine Ev.bind (ev_c rfl) (Ev.bind hg (ev_n (by simp) (ev_p (by first | omega | (dsimp only; omega)) (ev_p (by first | omega | (dsimp only; omega)) ?_))))
  dsimp only
  rw [Int.toNat_natCast]
  exact Ev.now _
theorem DrawIsRouting_ok {code : List Int} (hc : bytesOk code) : ∃ (l : List S32) (tr : List Int), Ev (fun k => spec_DrawIsRouting.f k code) (l, tr) ∧ l.length ≤ 1000 ∧ tr.length ≤ 1000 := by
 obtain ⟨l, tr, a, m, h, _, _, hl, ht⟩ := routed_ok hc
 exact ⟨l, tr, Ev.bind h (Ev.now _), hl, ht⟩
theorem DrawTracksUsed_ok {code : List Int} (hc : bytesOk code) : ∃ tr : List Int, Ev (fun k => spec_DrawTracksUsed.f k code) tr ∧ tr.length ≤ 1000 := by
 obtain ⟨l, tr, h, hl, ht⟩ := DrawIsRouting_ok hc
 exact ⟨tr, Ev.bind h (Ev.now _), ht⟩
theorem DrawFreeTracks_ok {code : List Int} (hc : bytesOk code) : ∃ (l : List S32) (tr : List Int) (x y : Int), Ev (fun k => spec_DrawFreeTracks.f k code) (l, tr, x, y) ∧ l.length ≤ 1000 ∧ tr.length ≤ 1000 := by
 obtain ⟨l, tr, a, m, h, h0, h1, hl, ht⟩ := routed_ok hc
 obtain ⟨x, a2, m2, e2, ha2, _⟩ := pick_ok hc a m 20 (by omega) (by omega)
 obtain ⟨y, a3, m3, e3, ha3, _⟩ := among_ok hc a2 m2 [0, 2, 6, wrap64 (50 - x), wrap64 (51 - x), -1] (by simp) (by omega) (by omega)
 refine ⟨l, tr, x, wrap64 (x + y), Ev.bind h ?_, hl, ht⟩
 dsimp only
 rw [e2]
 refine Ev.bind (ev_c rfl) ?_
 dsimp only
 rw [e3]
 exact Ev.bind (ev_c rfl) (Ev.now _)
theorem DrawLayersOf_ok {code : List Int} (hc : bytesOk code) : ∃ (tr : List Int) (h : Int), Ev (fun k => spec_DrawLayersOf.f k code) (tr, h) ∧ tr.length ≤ 1000 := by
 obtain ⟨l, tr, a, m, h, h0, h1, hl, ht⟩ := routed_ok hc
 obtain ⟨x, a2, m2, e2, ha2, _⟩ := among_ok hc a m [0, 21] (by simp) (by omega) (by omega)
 obtain ⟨y, a3, m3, e3, ha3, _⟩ := among_ok hc a2 m2 [1, 2, 3, 20, x] (by simp) (by omega) (by omega)
 refine ⟨tr, y, Ev.bind h ?_, ht⟩
 dsimp only
 rw [e2]
 refine Ev.bind (ev_c rfl) ?_
 dsimp only
 rw [e3]
 exact Ev.bind (ev_c rfl) (Ev.now _)
/-! #### sumN -/
def sumN (f : Nat → Nat) : Nat → Nat → Nat
 | _, 0 => 0
 | i, d + 1 => f i + sumN f (i + 1) d
theorem sumN_add (f g : Nat → Nat) (d : Nat) : ∀ i, sumN (fun x => f x + g x) i d = sumN f i d + sumN g i d := by
 induction d with
 | zero => intro i; rfl
 | succ d ih => intro i; rw [sumN, sumN, sumN, ih]; omega
theorem sumN_zero (d : Nat) : ∀ i, sumN (fun _ => 0) i d = 0 := by
 induction d with
 | zero => intro i; rfl
 | succ d ih => intro i; rw [sumN, ih]
theorem sumN_congr {f g : Nat → Nat} (d : Nat) : ∀ i, (∀ x, i ≤ x → x < i + d → f x = g x) → sumN f i d = sumN g i d := by
 induction d with
 | zero => intro i _; rfl
 | succ d ih => intro i h; rw [sumN, sumN, h i (Nat.le_refl _) (by omega), ih (i + 1) (fun x h1 h2 => h x (by omega) (by omega))]
theorem sumN_swap (f : Nat → Nat → Nat) (j e : Nat) (d : Nat) : ∀ i, sumN (fun x => sumN (fun y => f x y) j e) i d = sumN (fun y => sumN (fun x => f x y) i d) j e := by
 induction d with
 | zero => intro i; rw [sumN]; exact (sumN_zero e j).symm
 | succ d ih =>
  intro i
  rw [sumN, ih, ← sumN_add]
  rfl
theorem sumN_range (a b : Nat) (d : Nat) : ∀ i, sumN (fun c => if a ≤ c ∧ c ≤ b then 1 else 0) i d = min (b + 1) (i + d) - max a i := by
 induction d with
 | zero => intro i; rw [sumN]; omega
 | succ d ih =>
  intro i
  rw [sumN, ih]
  by_cases h : a ≤ i ∧ i ≤ b
  ·rw [if_pos h]; omega
  ·rw [if_neg h]; omega
theorem sumN_single (x v : Nat) (d : Nat) : ∀ i, i ≤ x → x < i + d → sumN (fun t => if t = x then v else 0) i d = v := by
 induction d with
 | zero => intro i h1 h2; omega
 | succ d ih =>
  intro i h1 h2
  rw [sumN]
  by_cases h : i = x
  ·rw [if_pos h]
   have : sumN (fun t => if t = x then v else 0) (i + 1) d = sumN (fun _ => 0) (i + 1) d := sumN_congr d (i + 1) (fun y h3 _ => if_neg (by omega))
   rw [this, sumN_zero]
   omega
  ·rw [if_neg h, ih (i + 1) (by omega) (by omega)]
   omega
/-! #### allB -/
/-- f at j, j + 1, .. : d of them. -/
def allB (f : Nat → Bool) : Nat → Nat → Bool
 | _, 0 => true
 | j, d + 1 => f j && allB f (j + 1) d
theorem allB_iff (f : Nat → Bool) (d : Nat) : ∀ j, allB f j d = true ↔ ∀ x, j ≤ x → x < j + d → f x = true := by
 induction d with
 | zero => intro j; simp [allB]; intro x h1 h2; omega
 | succ d ih =>
  intro j
  rw [allB, Bool.and_eq_true, ih]
  constructor
  ·rintro ⟨h1, h2⟩ x h3 h4
   by_cases e : x = j
   ·rw [e]; exact h1
   ·exact h2 x (by omega) (by omega)
  ·intro h
   exact ⟨h j (Nat.le_refl _) (by omega), fun x h1 h2 => h x (by omega) (by omega)⟩
/-! #### routM -/
theorem impl_wiresMeet_eq (a b : S32) : impl_wiresMeet.f a.f0 a.f1 b.f0 b.f1 = some (meetB a b) := by
 unfold impl_wiresMeet.f meetB
 by_cases h : a.f0 ≤ b.f1
 ·rw [if_pos h]; simp [h]
 ·rw [if_neg h]; simp [h]
/-- The wires i and k are in different tracks, or do not meet. -/
def okPair (l : List S32) (tr : List Int) (i k : Nat) : Bool := !(decide (rd tr i = rd tr k) && meetB (rd_T32 l i) (rd_T32 l k))
def routM (l : List S32) (tr : List Int) : Bool := allB (fun i => allB (okPair l tr i) 0 i) 0 l.length
/-! #### greatM -/
/-- The greatest, from g on. -/
def greatM (g : Int) : List Int → Int
 | [] => g
 | x :: r => greatM (if g < x then x else g) r
theorem greatM_bound {l : List Int} : ∀ {g : Int}, -1 ≤ g → g ≤ 1000 → (∀ x ∈ l, 0 ≤ x ∧ x ≤ 1000) → -1 ≤ greatM g l ∧ greatM g l ≤ 1000 := by
 induction l with
 | nil => intro g h1 h2 _; exact ⟨h1, h2⟩
 | cons x r ih =>
  intro g h1 h2 h
  have hx := h x (by simp)
  unfold greatM
  split
  ·exact ih (by omega) hx.2 (fun y hy => h y (by simp [hy]))
  ·exact ih h1 h2 (fun y hy => h y (by simp [hy]))
/-! #### l1All -/
def inB (a b : Int) (x : Int) : Bool := decide (a ≤ x ∧ x ≤ b)
theorem l1All_l0 (l : List Int) (a b : Int) (hl : l.length ≤ 9223372036854775807) (r : List Int) : ∀ (p : List Int) (i : Int), i = p.length → l = p ++ r →
  Ev (fun k => spec_l1All.l0 k a b l l.length i) (r.all (inB a b)) := by
 induction r with
 | nil =>
  intro p i hi e
  have hlen : l.length = p.length := by rw [e]; simp
  apply ev_up
  simp only [spec_l1All.l0]
  exact ev_n (by omega) (Ev.now _)
 | cons x r ih =>
  intro p i hi e
  have hlen : l.length = p.length + r.length + 1 := by rw [e]; simp; omega
  have hx : rd l i = x := by rw [e]; exact rdA hi
  have ih' := ih (p ++ [x]) (i + 1) (by simp; omega) (by rw [e]; simp)
  apply ev_up
  simp only [spec_l1All.l0]
  refine ev_p (by omega) (ev_p (by omega) (ev_p (by omega) ?_))
  rw [hx, l1In_eq]
  refine Ev.bind (ev_c rfl) ?_
  refine ev_ite (fun h => ?_) (fun h => ?_)
  ·rw [w64 (by omega) (by omega)]
   refine ev_eq ih' ?_
   rw [List.all_cons, show inB a b x = true from h, Bool.true_and]
  ·refine ev_eq (Ev.now _) ?_
   rw [List.all_cons, show inB a b x = false from decide_eq_false (fun hh => h (decide_eq_true hh)), Bool.false_and]
theorem l1All_ev (l : List Int) (a b : Int) (hl : l.length ≤ 9223372036854775807) : Ev (fun k => spec_l1All.f k l a b) (l.all (inB a b)) := by
 unfold spec_l1All.f
 exact l1All_l0 l a b hl l [] 0 rfl rfl
/-! #### tracksM -/
def tracksM (l : List Int) : Bool := decide (l.length ≤ 20) && l.all (inB 0 19)
theorem spec_rtTracks_ev (l : List Int) (hl : l.length ≤ 9223372036854775807) : Ev (fun k => spec_rtTracks.f k l) (tracksM l) := by
 unfold spec_rtTracks.f tracksM
 refine ev_ite (fun h => ?_) (fun h => ?_)
 ·rw [decide_eq_true (by omega), Bool.true_and]
  exact Ev.bind (l1All_ev l 0 19 hl) (Ev.now _)
 ·rw [decide_eq_false (by omega), Bool.false_and]
  exact Ev.now _
theorem tracksM_bounds {l : List Int} (h : tracksM l = true) : l.length ≤ 20 ∧ ∀ x ∈ l, 0 ≤ x ∧ x ≤ 19 := by
 unfold tracksM at h
 rw [Bool.and_eq_true, List.all_eq_true] at h
 exact ⟨of_decide_eq_true h.1, fun x hx => of_decide_eq_true (h.2 x hx)⟩
/-! #### strNums -/
theorem strOfNums_one (n : Int) : (strOfNums [n]).size = 1 := rfl
theorem strOfNums_append (a b : List Int) : strOfNums (a ++ b) = strOfNums a ++ strOfNums b := by
 apply ByteArray.ext
 simp [strOfNums, ByteArray.data_append]
theorem strOfNums_size (a : List Int) : (strOfNums a).size = a.length := by
 simp [strOfNums, ByteArray.size]
/-! #### chanNat -/
theorem chanM_length {l : List S32} (h : chanM l = true) : l.length ≤ 20 := by
 unfold chanM at h
 rw [Bool.and_eq_true] at h
 exact of_decide_eq_true h.1
theorem great_nat {tr : List Int} (h : tracksM tr = true) : ∃ N : Nat, (N : Int) = greatM (-1) tr + 1 ∧ N ≤ 1001 := by
 obtain ⟨_, hb⟩ := tracksM_bounds h
 have := greatM_bound (l := tr) (g := -1) (by omega) (by omega) (fun x hx => ⟨(hb x hx).1, by have := (hb x hx).2; omega⟩)
 exact ⟨(greatM (-1) tr + 1).toNat, by omega, by omega⟩
/-! #### rtextM -/
/-- Wire j is in track t and lies over column c. -/
def inC (l : List S32) (tr : List Int) (t c : Nat) (j : Nat) : Bool := decide (rd tr j = t ∧ (rd_T32 l j).f0 ≤ c ∧ (c : Int) ≤ (rd_T32 l j).f1)
def chM (l : List S32) (tr : List Int) (t c : Nat) : Int → Nat → Nat → Int
 | a, _, 0 => a
 | a, j, d + 1 => chM l tr t c (if inC l tr t c j = true then 97 + (j : Int) else a) (j + 1) d
def rowM (l : List S32) (tr : List Int) (t : Nat) : Nat → Nat → List Int
 | _, 0 => []
 | c, d + 1 => chM l tr t c 46 0 l.length :: rowM l tr t (c + 1) d
theorem rowM_length (l : List S32) (tr : List Int) (t d : Nat) : ∀ c, (rowM l tr t c d).length = d := by
 induction d with
 | zero => intro c; rfl
 | succ d ih => intro c; rw [rowM, List.length_cons, ih]
def txtR (l : List S32) (tr : List Int) (W : Nat) : Nat → Nat → List Int
 | _, 0 => []
 | t, d + 1 => rowM l tr t 0 W ++ 10 :: txtR l tr W (t + 1) d
def rtOk (l : List S32) (tr : List Int) : Prop := (chanM l = true ∧ tracksM tr = true ∧ tr.length = l.length) ∧ routM l tr = true
open Classical in
noncomputable def rtextM (l : List S32) (tr : List Int) : ByteArray × Bool := if rtOk l tr then (strOfNums (txtR l tr (greatM (-1) (l.map (·.f1)) + 1).toNat 0 (greatM (-1) tr + 1).toNat), true) else (⟨#[]⟩, false)
theorem chan_f1 {l : List S32} (h : chanM l = true) : ∀ w ∈ l, 0 ≤ w.f1 ∧ w.f1 ≤ 1000 := by
 intro w hw
 unfold chanM at h
 rw [Bool.and_eq_true, List.all_eq_true] at h
 have := of_decide_eq_true (h.2 w hw)
 omega
theorem wid_nat {l : List S32} (h : chanM l = true) : ∃ N : Nat, (N : Int) = greatM (-1) (l.map (·.f1)) + 1 ∧ N ≤ 1001 := by
 have := greatM_bound (l := l.map (·.f1)) (g := -1) (by omega) (by omega) (fun x hx => by
  obtain ⟨w, hw, rfl⟩ := List.mem_map.1 hx
  exact chan_f1 h w hw)
 exact ⟨(greatM (-1) (l.map (·.f1)) + 1).toNat, by omega, by omega⟩
/-! #### impl_isRouting -/
theorem impl_isRouting_l1 (l : List S32) (tr : List Int) (hl : l.length ≤ 1048576) (ht : tr.length = l.length) (i : Nat) (hi : i < l.length) (res : Bool) (d : Nat) : ∀ (j : Nat), j + d = i →
  (allB (okPair l tr i) j d = true → Ev (fun k => impl_isRouting.l0 k l tr l.length (wrap64 ((i : Int) + 1))) res) → (allB (okPair l tr i) j d = false → res = false) →
  Ev (fun k => impl_isRouting.l1 k l tr i j l.length i) res := by
 induction d with
 | zero =>
  intro j hj h1 h2
  apply ev_up
  simp only [impl_isRouting.l1]
  exact ev_n (by omega) (h1 rfl)
 | succ d ih =>
  intro j hj h1 h2
  apply ev_up
  simp only [impl_isRouting.l1]
  refine ev_p (by omega) (ev_p (by omega) (ev_p (by omega) (ev_p (by omega) (ev_p (by omega) ?_))))
  rw [wN (n := (j : Int) + 1) (m := j + 1) (by omega) (by omega), allB] at *
  have yes : okPair l tr i j = true → Ev (fun k => impl_isRouting.l1 k l tr i ((j + 1 : Nat) : Int) l.length i) res := fun h => by
   rw [h, Bool.true_and] at h1 h2
   exact ih (j + 1) (by omega) h1 h2
  refine ev_ite (fun c1 => ev_p (by omega) (ev_p (by omega) ?_)) (fun c1 => ?_)
  ·rw [impl_wiresMeet_eq]
   refine Ev.bind (ev_c rfl) (ev_ite (fun c2 => ?_) (fun c2 => ?_))
   ·have : okPair l tr i j = false := by unfold okPair; rw [decide_eq_true c1, c2]; rfl
    rw [h2 (by rw [this, Bool.false_and])]
    exact Ev.now _
   ·exact yes (by unfold okPair; rw [show meetB (rd_T32 l i) (rd_T32 l j) = false by simpa using c2, Bool.and_false]; rfl)
  ·exact yes (by unfold okPair; rw [decide_eq_false c1, Bool.false_and]; rfl)
theorem impl_isRouting_l0 (l : List S32) (tr : List Int) (hl : l.length ≤ 1048576) (ht : tr.length = l.length) (d : Nat) : ∀ (i : Nat), i + d = l.length →
  Ev (fun k => impl_isRouting.l0 k l tr l.length i) (allB (fun i => allB (okPair l tr i) 0 i) i d) := by
 induction d with
 | zero =>
  intro i hi
  apply ev_up
  simp only [impl_isRouting.l0]
  exact ev_n (by omega) (Ev.now _)
 | succ d ih =>
  intro i hi
  apply ev_up
  simp only [impl_isRouting.l0]
  refine ev_p (by omega) ?_
  refine impl_isRouting_l1 l tr hl ht i (by omega) _ i 0 (by omega) (fun h => ?_) (fun h => ?_)
  ·rw [wN (n := (i : Int) + 1) (m := i + 1) (by omega) (by omega), allB, h, Bool.true_and]
   exact ih (i + 1) (by omega)
  ·rw [allB, h, Bool.false_and]
theorem impl_isRouting_ev (l : List S32) (tr : List Int) (hl : l.length ≤ 1048576) (ht : tr.length = l.length) : Ev (fun k => impl_isRouting.f k l tr) (routM l tr) := by
 unfold impl_isRouting.f routM
 exact impl_isRouting_l0 l tr hl ht l.length 0 (by omega)
/-! #### impl_AreChannelWires -/
theorem impl_AreChannelWires_l0 (l : List S32) (hl : l.length ≤ 9223372036854775807) (r : List S32) : ∀ (p : List S32) (i : Int), i = p.length → l = p ++ r →
  Ev (fun k => impl_AreChannelWires.l0 k l l.length i) (r.all goodWire) := by
 induction r with
 | nil =>
  intro p i hi e
  have hlen : l.length = p.length := by rw [e]; simp
  apply ev_up
  simp only [impl_AreChannelWires.l0]
  exact ev_n (by omega) (Ev.now _)
 | cons x r ih =>
  intro p i hi e
  have hlen : l.length = p.length + r.length + 1 := by rw [e]; simp; omega
  have hx : rd_T32 l i = x := by rw [e]; exact rdWireA hi
  have ih' := ih (p ++ [x]) (i + 1) (by simp; omega) (by rw [e]; simp)
  apply ev_up
  simp only [impl_AreChannelWires.l0]
  refine ev_p (by omega) (ev_p (by omega) (ev_p (by omega) ?_))
  rw [hx, impl_isWire_eq]
  refine Ev.bind (ev_c rfl) ?_
  have ex : (⟨x.f0, x.f1⟩ : S32) = x := rfl
  rw [ex]
  refine ev_ite (fun h => ?_) (fun h => ?_)
  ·rw [w64 (by omega) (by omega)]
   refine ev_eq ih' ?_
   rw [List.all_cons, h, Bool.true_and]
  ·refine ev_eq (Ev.now _) ?_
   have h' : goodWire x = false := by simpa using h
   rw [List.all_cons, h', Bool.false_and]
theorem impl_AreChannelWires_ev (l : List S32) (hl : l.length ≤ 9223372036854775807) : Ev (fun k => impl_AreChannelWires.f k l) (chanM l) := by
 unfold impl_AreChannelWires.f chanM
 refine ev_ite (fun h => ?_) (fun h => ?_)
 ·rw [decide_eq_false (by omega), Bool.false_and]
  exact Ev.now _
 ·rw [decide_eq_true (by omega), Bool.true_and]
  exact impl_AreChannelWires_l0 l hl l [] 0 rfl rfl
/-! #### impl_areTracks -/
theorem impl_areTracks_l0 (l : List Int) (hl : l.length ≤ 9223372036854775807) (r : List Int) : ∀ (p : List Int) (i : Int), i = p.length → l = p ++ r →
  Ev (fun k => impl_areTracks.l0 k l l.length i) (r.all (inB 0 19)) := by
 induction r with
 | nil =>
  intro p i hi e
  have hlen : l.length = p.length := by rw [e]; simp
  apply ev_up
  simp only [impl_areTracks.l0]
  exact ev_n (by omega) (Ev.now _)
 | cons x r ih =>
  intro p i hi e
  have hlen : l.length = p.length + r.length + 1 := by rw [e]; simp; omega
  have hx : rd l i = x := by rw [e]; exact rdA hi
  have ih' := ih (p ++ [x]) (i + 1) (by simp; omega) (by rw [e]; simp)
  apply ev_up
  simp only [impl_areTracks.l0]
  refine ev_p (by omega) (ev_p (by omega) (ev_p (by omega) ?_))
  rw [hx]
  refine ev_ite (fun h => ?_) (fun h => ev_ite (fun h2 => ?_) (fun h2 => ?_))
  ·refine ev_eq (Ev.now _) ?_
   rw [List.all_cons, show inB 0 19 x = false from decide_eq_false (by omega), Bool.false_and]
  ·refine ev_eq (Ev.now _) ?_
   rw [List.all_cons, show inB 0 19 x = false from decide_eq_false (by omega), Bool.false_and]
  ·rw [w64 (by omega) (by omega)]
   refine ev_eq ih' ?_
   rw [List.all_cons, show inB 0 19 x = true from decide_eq_true (by omega), Bool.true_and]
theorem impl_areTracks_ev (l : List Int) (hl : l.length ≤ 9223372036854775807) : Ev (fun k => impl_areTracks.f k l) (tracksM l) := by
 unfold impl_areTracks.f tracksM
 refine ev_ite (fun h => ?_) (fun h => ?_)
 ·rw [decide_eq_false (by omega), Bool.false_and]
  exact Ev.now _
 ·rw [decide_eq_true (by omega), Bool.true_and]
  exact impl_areTracks_l0 l hl l [] 0 rfl rfl
/-! #### implIsRouting -/
def isRoutingM (l : List S32) (tr : List Int) : Bool × Bool := if chanM l = true ∧ tracksM tr = true ∧ tr.length = l.length then (routM l tr, true) else (false, false)
theorem impl_IsRouting_ev (l : List S32) (tr : List Int) (hl : l.length ≤ 1048576) (ht : tr.length ≤ 1048576) : Ev (fun k => impl_IsRouting.f k l tr) (isRoutingM l tr) := by
 unfold impl_IsRouting.f isRoutingM
 refine Ev.bind (impl_AreChannelWires_ev l (by omega)) (ev_ite (fun h1 => Ev.bind (impl_areTracks_ev tr (by omega)) (ev_ite (fun h2 => ev_ite (fun h3 => ?_) (fun h3 => ?_)) (fun h2 => ?_))) (fun h1 => ?_))
 ·have h3' : tr.length = l.length := by omega
  rw [if_pos ⟨h1, h2, h3'⟩]
  exact Ev.bind (impl_isRouting_ev l tr hl h3') (Ev.now _)
 ·rw [if_neg (fun hh => h3 (by rw [hh.2.2]))]
  exact Ev.now _
 ·rw [if_neg (fun hh => h2 hh.2.1)]
  exact Ev.now _
 ·rw [if_neg (fun hh => h1 hh.1)]
  exact Ev.now _
/-! #### putM -/
/-- A number put into an increasing list. -/
def putM : List Int → Int → List Int
 | [], x => [x]
 | y :: r, x => if y < x then y :: putM r x else if y = x then y :: r else x :: y :: r
theorem putM_mem (l : List Int) (x z : Int) : z ∈ putM l x ↔ z ∈ l ∨ z = x := by
 induction l with
 | nil => simp [putM]
 | cons y r ih =>
  unfold putM
  by_cases h1 : y < x
  ·rw [if_pos h1]
   simp only [List.mem_cons, ih, or_assoc]
  ·rw [if_neg h1]
   by_cases h2 : y = x
   ·rw [if_pos h2]
    subst h2
    constructor
    ·intro h; exact .inl h
    ·rintro (h | h)
     ·exact h
     ·simp [h]
   ·rw [if_neg h2]
    simp only [List.mem_cons]
    exact ⟨fun h => h.symm, fun h => h.symm⟩
theorem putM_sorted (l : List Int) (x : Int) (h : l.Pairwise (· < ·)) : (putM l x).Pairwise (· < ·) := by
 induction l with
 | nil => simp [putM]
 | cons y r ih =>
  rw [List.pairwise_cons] at h
  unfold putM
  by_cases h1 : y < x
  ·rw [if_pos h1, List.pairwise_cons]
   refine ⟨fun z hz => ?_, ih h.2⟩
   rcases (putM_mem r x z).1 hz with hz | hz
   ·exact h.1 z hz
   ·omega
  ·rw [if_neg h1]
   by_cases h2 : y = x
   ·rw [if_pos h2, List.pairwise_cons]; exact h
   ·rw [if_neg h2, List.pairwise_cons, List.pairwise_cons]
    refine ⟨fun z hz => ?_, h⟩
    rcases List.mem_cons.1 hz with hz | hz
    ·omega
    ·have := h.1 z hz; omega
theorem putM_length (l : List Int) (x : Int) (h : l.Pairwise (· < ·)) : (putM l x).length = if x ∈ l then l.length else l.length + 1 := by
 induction l with
 | nil => simp [putM]
 | cons y r ih =>
  rw [List.pairwise_cons] at h
  unfold putM
  by_cases h1 : y < x
  ·rw [if_pos h1, List.length_cons, ih h.2, List.length_cons]
   have : (x ∈ y :: r) ↔ x ∈ r := by
    rw [List.mem_cons]
    exact ⟨fun hh => hh.resolve_left (by omega), .inr⟩
   by_cases h3 : x ∈ r
   ·rw [if_pos h3, if_pos (this.2 h3)]
   ·rw [if_neg h3, if_neg (fun hh => h3 (this.1 hh))]
  ·rw [if_neg h1]
   by_cases h2 : y = x
   ·rw [if_pos h2, if_pos (by simp [h2])]
   ·rw [if_neg h2, if_neg]
    ·simp
    ·intro hh
     rcases List.mem_cons.1 hh with hh | hh
     ·omega
     ·have := h.1 x hh; omega
theorem spec_l1Put_l0 (l : List Int) (x : Int) (hl : l.length ≤ 1048576) (r : List Int) : ∀ (p : List Int) (i : Int), i = p.length → l = p ++ r →
  Ev (fun k => spec_l1Put.l0 k l x i) (p ++ putM r x) := by
 induction r with
 | nil =>
  intro p i hi e
  have hlen : l.length = p.length := by rw [e]; simp
  apply ev_up
  simp only [spec_l1Put.l0]
  refine ev_n (by omega) ?_
  simp only [Option.bind_some]
  refine ev_p (by omega) (ev_p (by omega) ?_)
  have ht : l.take i.toNat = p := by rw [e]; simp [hi]
  have hd : l.drop i.toNat = [] := by rw [e]; simp [hi]
  rw [ht, hd]
  refine ev_p (by simp; omega) (ev_p (by simp; omega) (ev_p (by simp; omega) ?_))
  refine ev_eq (Ev.now _) ?_
  simp [putM]
 | cons y r ih =>
  intro p i hi e
  have hlen : l.length = p.length + r.length + 1 := by rw [e]; simp; omega
  have hx : rd l i = y := by rw [e]; exact rdA hi
  have ih' := ih (p ++ [y]) (i + 1) (by simp; omega) (by rw [e]; simp)
  have ht : l.take i.toNat = p := by rw [e]; simp [hi]
  have hd : l.drop i.toNat = y :: r := by rw [e]; simp [hi]
  apply ev_up
  simp only [spec_l1Put.l0]
  refine ev_p (by omega) (ev_p (by omega) ?_)
  rw [hx]
  unfold putM
  refine ev_ite (fun h => ?_) (fun h => ev_ite (fun h2 => ?_) (fun h2 => ?_))
  ·rw [if_pos h, w64 (by omega) (by omega)]
   refine ev_eq ih' ?_
   simp
  ·rw [if_neg h, if_pos h2]
   refine ev_eq (Ev.now _) ?_
   exact e
  ·rw [if_neg h, if_neg h2]
   simp only [Option.bind_some]
   rw [ht, hd]
   refine ev_p (by omega) (ev_p (by simp; omega) (ev_p (by simp; omega) (ev_p (by simp; omega) ?_)))
   refine ev_eq (Ev.now _) ?_
   simp
theorem spec_l1Put_ev (l : List Int) (x : Int) (hl : l.length ≤ 1048576) : Ev (fun k => spec_l1Put.f k l x) (putM l x) := by
 unfold spec_l1Put.f
 exact spec_l1Put_l0 l x hl l [] 0 rfl rfl
/-! #### tracksUsed -/
def usedS (l : List Int) : List Int := l.foldl putM []
theorem usedS_len (l : List Int) : ∀ a : List Int, (l.foldl putM a).length ≤ a.length + l.length := by
 induction l with
 | nil => intro a; simp
 | cons x r ih =>
  intro a
  have h1 := ih (putM a x)
  have h2 : (putM a x).length ≤ a.length + 1 := by
   clear h1 ih
   induction a with
   | nil => simp [putM]
   | cons y b ih =>
    unfold putM
    split
    ·simp; omega
    ·split <;> simp
  simp only [List.foldl_cons, List.length_cons]
  omega
theorem spec_TracksUsed_l0 (l : List Int) (hl : l.length ≤ 20) (r : List Int) : ∀ (p : List Int) (a : List Int) (i : Int), i = p.length → l = p ++ r → a.length ≤ p.length →
  Ev (fun k => spec_TracksUsed.l0 k a l l.length i) (((r.foldl putM a).length : Int), true) := by
 induction r with
 | nil =>
  intro p a i hi e ha
  have hlen : l.length = p.length := by rw [e]; simp
  apply ev_up
  simp only [spec_TracksUsed.l0]
  refine ev_n (by omega) ?_
  exact Ev.now _
 | cons y r ih =>
  intro p a i hi e ha
  have hlen : l.length = p.length + r.length + 1 := by rw [e]; simp; omega
  have hx : rd l i = y := by rw [e]; exact rdA hi
  have h2 := usedS_len [y] a
  have ih' := ih (p ++ [y]) (putM a y) (i + 1) (by simp; omega) (by rw [e]; simp) (by simp at h2 ⊢; omega)
  apply ev_up
  simp only [spec_TracksUsed.l0]
  refine ev_p (by omega) (ev_p (by omega) (ev_p (by omega) ?_))
  rw [hx, w64 (by omega) (by omega)]
  exact Ev.bind (spec_l1Put_ev a y (by omega)) ih'
def tracksUsedM (l : List Int) : Int × Bool := if tracksM l = true then (((usedS l).length : Int), true) else (0, false)
theorem spec_TracksUsed_ev (l : List Int) (hl : l.length ≤ 9223372036854775807) : Ev (fun k => spec_TracksUsed.f k l) (tracksUsedM l) := by
 unfold spec_TracksUsed.f tracksUsedM
 refine Ev.bind (spec_rtTracks_ev l hl) ?_
 refine ev_ite (fun h => ?_) (fun h => ?_)
 ·rw [if_pos h]
  exact spec_TracksUsed_l0 l (tracksM_bounds h).1 l [] [] 0 rfl rfl (by simp)
 ·rw [if_neg h]
  exact Ev.now _
theorem anyKey (y : Int) (a : List Int) : (a.map (Lit.int .i64)).any (fun z => z.sameKey (.int .i64 y)) = decide (y ∈ a) := by
 induction a with
 | nil => simp
 | cons x r ih =>
  rw [List.map_cons, List.any_cons, ih]
  by_cases h : x = y
  ·simp [Lit.sameKey, h]
  ·have h' : ¬ y = x := fun e => h e.symm
   simp [Lit.sameKey, h, h']
theorem used_same (l : List Int) : ∀ a b : List Int, a.Pairwise (· < ·) → a.length = b.length → (∀ x, x ∈ a ↔ x ∈ b) →
  (l.foldl putM a).length = ((l.map (Lit.int .i64)).foldl Go.Maps.addKey (b.map (Lit.int .i64))).length := by
 induction l with
 | nil => intro a b _ h _; simpa using h
 | cons x r ih =>
  intro a b hs h hm
  rw [List.foldl_cons, List.map_cons, List.foldl_cons]
  have e : Go.Maps.addKey (b.map (Lit.int .i64)) (.int .i64 x) = (if x ∈ b then b else b ++ [x]).map (Lit.int .i64) := by
   unfold Go.Maps.addKey
   rw [anyKey]
   by_cases hx : x ∈ b <;> simp [hx]
  rw [e]
  refine ih _ _ (putM_sorted a x hs) ?_ ?_
  ·rw [putM_length a x hs]
   by_cases hx : x ∈ b
   ·rw [if_pos hx, if_pos ((hm x).2 hx), h]
   ·rw [if_neg hx, if_neg (fun hh => hx ((hm x).1 hh)), h]; simp
  ·intro z
   rw [putM_mem, hm]
   by_cases hx : x ∈ b
   ·rw [if_pos hx]
    exact ⟨fun hh => hh.elim id (fun e => e ▸ hx), .inl⟩
   ·rw [if_neg hx]; simp
theorem impl_TracksUsed_ev (l : List Int) (hl : l.length ≤ 9223372036854775807) : Ev (fun k => impl_TracksUsed.f k l) (tracksUsedM l) := by
 unfold impl_TracksUsed.f tracksUsedM
 refine Ev.bind (impl_areTracks_ev l hl) ?_
 refine ev_ite (fun h => ?_) (fun h => ?_)
 ·rw [if_pos h]
  refine ev_p ?_ (ev_eq (Ev.now _) ?_)
  ·unfold impl_TracksUsed.ok
   rw [List.all_eq_true]
   intro x hx
   have := (tracksM_bounds h).2 x hx
   simp; omega
  ·have := used_same l [] [] List.Pairwise.nil rfl (fun _ => Iff.rfl)
   unfold usedS impl_TracksUsed.n
   rw [this]; rfl
 ·rw [if_neg h]
  exact Ev.now _
/-! #### edgeUse -/
theorem rd_in {e : List Int} {x : Int} (h : x ∈ e) : ∃ j : Int, 0 ≤ j ∧ j < (e.length : Int) ∧ rd e j = x := by
 obtain ⟨n, hn, rfl⟩ := List.getElem_of_mem h
 exact ⟨n, by omega, by omega, rdN hn⟩
theorem edge_routing {l : List S32} {e : List Int} {m : Nat} (h : chanM l = true) (he : Edge l e m) : isRoutingM l e = (true, true) := by
 obtain ⟨h20, hg⟩ := chanM_of h
 have ht : tracksM e = true := by
  unfold tracksM
  rw [decide_eq_true (by rw [he.len]; exact h20), Bool.true_and, List.all_eq_true]
  intro x hx
  obtain ⟨j, h0, h1, rfl⟩ := rd_in hx
  have h2 := he.lt j h0 (by rw [← he.len]; exact h1)
  have h3 := he.le
  exact decide_eq_true (by omega)
 have hr : routM l e = true := by
  unfold routM
  rw [allB_iff]
  intro i _ hi
  rw [allB_iff]
  intro j _ hj
  unfold okPair
  by_cases hc : rd e (i : Int) = rd e (j : Int)
  ·have := he.sep i j (by omega) (by omega) (by omega) (by omega) (by omega) hc
   unfold wAt at this
   rw [this]
   simp
  ·rw [decide_eq_false hc]
   simp
 unfold isRoutingM
 rw [if_pos ⟨h, ht, he.len⟩, hr]
theorem usedS_facts (l : List Int) : ∀ a : List Int, a.Pairwise (· < ·) → (l.foldl putM a).Pairwise (· < ·) ∧ ∀ z, z ∈ l.foldl putM a ↔ z ∈ a ∨ z ∈ l := by
 induction l with
 | nil => intro a ha; exact ⟨ha, fun z => by simp⟩
 | cons x r ih =>
  intro a ha
  obtain ⟨h1, h2⟩ := ih (putM a x) (putM_sorted a x ha)
  refine ⟨h1, fun z => ?_⟩
  rw [List.foldl_cons, h2, putM_mem, List.mem_cons, or_assoc]
theorem edge_used {l : List S32} {e : List Int} {m : Nat} (h : chanM l = true) (he : Edge l e m) : tracksUsedM e = ((m : Int), true) := by
 have hr := edge_routing h he
 unfold isRoutingM at hr
 split at hr
 ·rename_i hc
  unfold tracksUsedM
  rw [if_pos hc.2.1]
  obtain ⟨h1, h2⟩ := usedS_facts e [] List.Pairwise.nil
  have : usedS e = Sep.iota m := by
   refine pw_unique (· < ·) (fun a b h1 h2 => by omega) _ _ h1 (iota_pw m) (fun z => ?_)
   have h2z := h2 z
   rw [iota_mem']
   refine ⟨fun hz => ?_, fun hz => ?_⟩
   ·rcases h2z.1 hz with hz | hz
    ·simp at hz
    ·obtain ⟨j, h0, h3, rfl⟩ := rd_in hz
     exact he.lt j h0 (by rw [← he.len]; exact h3)
   ·obtain ⟨t, rfl⟩ := nat_of hz.1
    obtain ⟨j, h0, h3, h4⟩ := he.ex t (by omega)
    refine h2z.2 (.inr ?_)
    rw [← h4]
    exact rd_mem h0 (by rw [he.len]; exact h3)
  rw [this, Sep.iota_length]
 ·simp at hr
theorem edge_dense {l : List S32} {e : List Int} {m : Nat} (he : Edge l e m) (x : Int) : densityM l x ≤ m := by
 rw [atIdx]
 have main : ∀ k : Nat, (Sep.iota l.length).countP (fun j => decide (atCol x (wAt l j) = true ∧ rd e j < (k : Int))) ≤ k := by
  intro k
  induction k with
  | zero =>
   refine Nat.le_of_eq ?_
   rw [List.countP_eq_zero]
   intro j hj hh
   have h1 := of_decide_eq_true hh
   have h2 := iota_mem'.1 hj
   have h3 := he.lt j h2.1 h2.2
   omega
  | succ k ih =>
   have h1 := cnt_or (s := fun j => decide (atCol x (wAt l j) = true ∧ rd e j < ((k + 1 : Nat) : Int))) (p := fun j => decide (atCol x (wAt l j) = true ∧ rd e j < (k : Int))) (q := fun j => decide (atCol x (wAt l j) = true ∧ rd e j = (k : Int))) (l := Sep.iota l.length)
    (fun j _ hh => by
     have h1 := of_decide_eq_true hh
     by_cases hc : rd e j = (k : Int)
     ·exact .inr (decide_eq_true ⟨h1.1, hc⟩)
     ·exact .inl (decide_eq_true ⟨h1.1, by omega⟩))
   have h2 := cnt_one (p := fun j => decide (atCol x (wAt l j) = true ∧ rd e j = (k : Int))) (iota_nodup l.length) (fun a ha b hb pa pb => by
    have pa := of_decide_eq_true pa
    have pb := of_decide_eq_true pb
    have ha := iota_mem'.1 ha
    have hb := iota_mem'.1 hb
    refine Classical.byContradiction fun hne => ?_
    have := he.sep a b ha.1 ha.2 hb.1 hb.2 hne (by rw [pa.2, pb.2])
    have ca := of_decide_eq_true pa.1
    have cb := of_decide_eq_true pb.1
    unfold meetB at this
    have := of_decide_eq_false this
    omega)
   omega
 have h1 := main m
 have h2 : (Sep.iota l.length).countP (fun j => atCol x (wAt l j)) ≤ (Sep.iota l.length).countP (fun j => decide (atCol x (wAt l j) = true ∧ rd e j < (m : Int))) := List.countP_mono_left (fun j hj hc => by
  have h2 := iota_mem'.1 hj
  exact decide_eq_true ⟨hc, (he.lt j h2.1 h2.2).2⟩)
 omega
/-! #### letters -/
def big (x : Int) : Bool := decide (97 ≤ x)
theorem chM_none {l : List S32} {tr : List Int} {t c : Nat} (d : Nat) : ∀ (a : Int) (j : Nat), (∀ x, j ≤ x → x < j + d → inC l tr t c x = false) → chM l tr t c a j d = a := by
 induction d with
 | zero => intro a j _; rfl
 | succ d ih =>
  intro a j h
  rw [chM, h j (Nat.le_refl _) (by omega), if_neg (by decide)]
  exact ih a (j + 1) (fun x h1 h2 => h x (by omega) (by omega))
theorem chM_big {l : List S32} {tr : List Int} {t c : Nat} (d : Nat) : ∀ (a : Int) (j : Nat), a < 97 → (∀ x y, j ≤ x → x < j + d → j ≤ y → y < j + d → inC l tr t c x = true → inC l tr t c y = true → x = y) →
  (if big (chM l tr t c a j d) = true then 1 else 0) = sumN (fun x => if inC l tr t c x = true then 1 else 0) j d := by
 induction d with
 | zero =>
  intro a j ha _
  rw [chM, sumN, if_neg]
  unfold big
  rw [decide_eq_true_eq]
  omega
 | succ d ih =>
  intro a j ha h
  rw [chM, sumN]
  by_cases hc : inC l tr t c j = true
  ·rw [if_pos hc, if_pos hc]
   have hn : ∀ x, j + 1 ≤ x → x < j + 1 + d → inC l tr t c x = false := fun x h1 h2 => by
    cases hx : inC l tr t c x with
    | false => rfl
    | true =>
     have := h j x (Nat.le_refl _) (by omega) (by omega) (by omega) hc hx
     omega
   rw [chM_none d _ _ hn]
   have hz : sumN (fun x => if inC l tr t c x = true then 1 else 0) (j + 1) d = sumN (fun _ => 0) (j + 1) d := sumN_congr d (j + 1) (fun x h1 h2 => by rw [hn x h1 h2]; rfl)
   rw [hz, sumN_zero, if_pos]
   unfold big
   rw [decide_eq_true_eq]
   omega
  ·rw [if_neg hc, if_neg hc, ih a (j + 1) ha (fun x y h1 h2 h3 h4 => h x y (by omega) (by omega) (by omega) (by omega))]
   omega
theorem row_big (l : List S32) (tr : List Int) (t d : Nat) : ∀ c, (rowM l tr t c d).countP big = sumN (fun c => if big (chM l tr t c 46 0 l.length) = true then 1 else 0) c d := by
 induction d with
 | zero => intro c; rfl
 | succ d ih => intro c; rw [rowM, List.countP_cons, sumN, ih]; omega
theorem txt_big (l : List S32) (tr : List Int) (W d : Nat) : ∀ t, (txtR l tr W t d).countP big = sumN (fun t => sumN (fun c => if big (chM l tr t c 46 0 l.length) = true then 1 else 0) 0 W) t d := by
 induction d with
 | zero => intro t; rfl
 | succ d ih =>
  intro t
  rw [txtR, List.countP_append, List.countP_cons, sumN, ih, row_big]
  have : big 10 = false := by decide
  rw [this]
  simp
/-! #### selU -/
/-- The places i, i + 1, .. (d of them) where f holds. -/
def selU (f : Nat → Bool) : Nat → Nat → List Int
 | _, 0 => []
 | i, d + 1 => (if f i then [(i : Int)] else []) ++ selU f (i + 1) d
theorem selU_length (f : Nat → Bool) (d : Nat) : ∀ i, (selU f i d).length ≤ d := by
 induction d with
 | zero => intro i; simp [selU]
 | succ d ih =>
  intro i
  have := ih (i + 1)
  rw [selU]
  split <;> simp <;> omega
/-! #### freeM -/
/-- The wire w does not meet the wire j in track t. -/
def fitF (l : List S32) (tr : List Int) (w : S32) (t : Int) (j : Nat) : Bool := !(decide (rd tr j = t) && meetB (rd_T32 l j) w)
def freeOk (l : List S32) (tr : List Int) (a b : Int) : Prop := (chanM l = true ∧ tracksM tr = true ∧ tr.length = l.length) ∧ routM l tr = true ∧ goodWire ⟨a, b⟩ = true
open Classical in
noncomputable def freeM (l : List S32) (tr : List Int) (a b : Int) : List Int × Bool := if freeOk l tr a b then (selU (fun t => allB (fitF l tr ⟨a, b⟩ (t : Int)) 0 l.length) 0 (greatM (-1) tr + 1).toNat, true) else ([], false)
theorem freeM_length (l : List S32) (tr : List Int) (a b : Int) : (freeM l tr a b).1.length ≤ 1001 := by
 unfold freeM
 split
 ·rename_i h
  obtain ⟨N, h1, h2⟩ := great_nat h.1.2.1
  have := selU_length (fun t => allB (fitF l tr ⟨a, b⟩ (t : Int)) 0 l.length) (greatM (-1) tr + 1).toNat 0
  simp only
  omega
 ·simp
/-! #### tracksFacts -/
theorem selU_mem {f : Nat → Bool} (d : Nat) : ∀ (i : Nat) (x : Int), x ∈ selU f i d → ∃ n : Nat, x = n ∧ i ≤ n ∧ n < i + d ∧ f n = true := by
 induction d with
 | zero => intro i x hx; simp [selU] at hx
 | succ d ih =>
  intro i x hx
  rw [selU, List.mem_append] at hx
  rcases hx with hx | hx
  ·split at hx
   ·rename_i hf
    exact ⟨i, List.mem_singleton.1 hx, Nat.le_refl _, by omega, hf⟩
   ·simp at hx
  ·obtain ⟨n, h1, h2, h3, h4⟩ := ih (i + 1) x hx
   exact ⟨n, h1, by omega, by omega, h4⟩
theorem rdW_app {l : List S32} {w : S32} {j : Nat} (h : j < l.length) : rd_T32 (l ++ [w]) (j : Int) = rd_T32 l (j : Int) := by
 unfold rd_T32
 simp [List.getD_eq_getElem?_getD, List.getElem?_append_left h]
theorem rdW_end {l : List S32} {w : S32} : rd_T32 (l ++ [w]) (l.length : Int) = w := rdWireA rfl
theorem rdI_app {l : List Int} {w : Int} {j : Nat} (h : j < l.length) : rd (l ++ [w]) (j : Int) = rd l (j : Int) := by
 unfold rd
 simp [List.getD_eq_getElem?_getD, List.getElem?_append_left h]
theorem free_keeps {l : List S32} {tr : List Int} {a b t : Int} (hf : freeOk l tr a b) (ht : t ∈ (freeM l tr a b).1) (hr : (isRoutingM (l ++ [⟨a, b⟩]) (tr ++ [t])).2 = true) : (isRoutingM (l ++ [⟨a, b⟩]) (tr ++ [t])).1 = true := by
 unfold freeM at ht
 rw [if_pos hf] at ht
 obtain ⟨n, rfl, _, _, hn⟩ := selU_mem _ _ _ ht
 obtain ⟨⟨_, _, hlen⟩, hrt, _⟩ := hf
 unfold isRoutingM at hr ⊢
 split at hr
 ·rename_i hc
  rw [if_pos hc]
  show routM (l ++ [⟨a, b⟩]) (tr ++ [(n : Int)]) = true
  unfold routM at hrt ⊢
  rw [allB_iff] at hrt hn ⊢
  intro i _ hi
  rw [allB_iff]
  intro j _ hj
  rw [List.length_append, List.length_singleton] at hi
  by_cases hil : i < l.length
  ·have h1 := hrt i (Nat.zero_le _) (by omega)
   rw [allB_iff] at h1
   have h2 := h1 j (Nat.zero_le _) (by omega)
   unfold okPair at h2 ⊢
   rw [rdW_app hil, rdW_app (by omega), rdI_app (by omega), rdI_app (by omega)]
   exact h2
  ·have hie : i = l.length := by omega
   subst hie
   have h2 := hn j (Nat.zero_le _) (by omega)
   unfold okPair
   unfold fitF at h2
   have he : rd (tr ++ [(n : Int)]) (l.length : Int) = (n : Int) := rdA (by omega)
   rw [rdW_end, rdW_app (by omega), he, rdI_app (by omega), meetB_comm]
   by_cases hc2 : rd tr (j : Int) = (n : Int)
   ·rw [decide_eq_true hc2, Bool.true_and] at h2
    rw [decide_eq_true hc2.symm, Bool.true_and]
    exact h2
   ·rw [decide_eq_false (fun h => hc2 h.symm)]
    rfl
 ·simp at hr
theorem greatM_ge (l : List Int) : ∀ g, g ≤ greatM g l ∧ ∀ x ∈ l, x ≤ greatM g l := by
 induction l with
 | nil => intro g; exact ⟨Int.le_refl _, fun x hx => by simp at hx⟩
 | cons y r ih =>
  intro g
  rw [greatM]
  obtain ⟨h1, h2⟩ := ih (if g < y then y else g)
  have h3 : g ≤ (if g < y then y else g) ∧ y ≤ (if g < y then y else g) := by split <;> omega
  refine ⟨by omega, fun x hx => ?_⟩
  rcases List.mem_cons.1 hx with e | e
  ·rw [e]; omega
  ·exact h2 x e
theorem usedS_pos {l : List Int} (h : 0 < l.length) : 0 < (usedS l).length := by
 obtain ⟨h1, h2⟩ := usedS_facts l [] List.Pairwise.nil
 cases l with
 | nil => simp at h
 | cons x r =>
  have : x ∈ usedS (x :: r) := (h2 x).2 (.inr (List.mem_cons_self ..))
  exact List.length_pos_of_mem this
/-! #### lettersAll -/
theorem inC_one {l : List S32} {tr : List Int} (hr : routM l tr = true) {t c x y : Nat} (hx : x < l.length) (hy : y < l.length) (h1 : inC l tr t c x = true) (h2 : inC l tr t c y = true) : x = y := by
 have a1 := of_decide_eq_true h1
 have a2 := of_decide_eq_true h2
 have key : ∀ i j : Nat, i < l.length → j < i → rd tr (i : Int) = t → rd tr (j : Int) = t → (rd_T32 l (i : Int)).f0 ≤ c ∧ (c : Int) ≤ (rd_T32 l (i : Int)).f1 → (rd_T32 l (j : Int)).f0 ≤ c ∧ (c : Int) ≤ (rd_T32 l (j : Int)).f1 → False := fun i j hi hj e1 e2 b1 b2 => by
  unfold routM at hr
  rw [allB_iff] at hr
  have h3 := hr i (Nat.zero_le _) (by omega)
  rw [allB_iff] at h3
  have h4 := h3 j (Nat.zero_le _) (by omega)
  unfold okPair meetB at h4
  rw [decide_eq_true (by rw [e1, e2]), decide_eq_true (by omega)] at h4
  exact absurd h4 (by decide)
 refine Classical.byContradiction fun hne => ?_
 by_cases hlt : x < y
 ·exact key y x hy hlt a2.1 a1.1 a2.2 a1.2
 ·exact key x y hx (by omega) a1.1 a2.1 a1.2 a2.2
theorem letters_total {l : List S32} {tr : List Int} (hg : ∀ w ∈ l, goodWire w = true) (ht : tr.length = l.length) (h0 : ∀ x ∈ tr, 0 ≤ x ∧ x ≤ 19) (hr : routM l tr = true) :
  (txtR l tr (greatM (-1) (l.map (·.f1)) + 1).toNat 0 (greatM (-1) tr + 1).toNat).countP big = sumN (fun j => ((rd_T32 l (j : Int)).f1 - (rd_T32 l (j : Int)).f0 + 1).toNat) 0 l.length := by
 obtain ⟨W, hW⟩ : ∃ W, W = (greatM (-1) (l.map (·.f1)) + 1).toNat := ⟨_, rfl⟩
 obtain ⟨T, hT⟩ : ∃ T, T = (greatM (-1) tr + 1).toNat := ⟨_, rfl⟩
 rw [← hW, ← hT, txt_big]
 have e1 : sumN (fun t => sumN (fun c => if big (chM l tr t c 46 0 l.length) = true then 1 else 0) 0 W) 0 T = sumN (fun t => sumN (fun j => sumN (fun c => if inC l tr t c j = true then 1 else 0) 0 W) 0 l.length) 0 T := by
  refine sumN_congr T 0 (fun t _ _ => ?_)
  rw [← sumN_swap]
  refine sumN_congr W 0 (fun c _ _ => ?_)
  exact chM_big l.length 46 0 (by omega) (fun x y _ h2 _ h4 h5 h6 => inC_one hr (by omega) (by omega) h5 h6)
 rw [e1, sumN_swap]
 refine sumN_congr l.length 0 (fun j _ hj => ?_)
 have hjl : j < l.length := by omega
 have hwm : rd_T32 l (j : Int) ∈ l := by
  unfold rd_T32
  rw [Int.toNat_natCast, List.getD_eq_getElem?_getD, List.getElem?_eq_getElem hjl]
  exact List.getElem_mem hjl
 have hgw := of_decide_eq_true (hg _ hwm)
 have htm : rd tr (j : Int) ∈ tr := rd_mem (by omega) (by omega)
 have htb := h0 _ htm
 have b1 := (greatM_ge (l.map (·.f1)) (-1)).2 _ (List.mem_map.2 ⟨_, hwm, rfl⟩)
 have b2 := (greatM_ge tr (-1)).2 _ htm
 obtain ⟨a, ha⟩ := nat_of hgw.1
 obtain ⟨b, hb⟩ := nat_of (show 0 ≤ (rd_T32 l (j : Int)).f1 by omega)
 obtain ⟨x, hx⟩ := nat_of htb.1
 have e2 : sumN (fun t => sumN (fun c => if inC l tr t c j = true then 1 else 0) 0 W) 0 T = sumN (fun t => if t = x then (b + 1 - a) else 0) 0 T := by
  refine sumN_congr T 0 (fun t _ _ => ?_)
  by_cases hc : t = x
  ·rw [if_pos hc]
   have e3 : sumN (fun c => if inC l tr t c j = true then 1 else 0) 0 W = sumN (fun c => if a ≤ c ∧ c ≤ b then 1 else 0) 0 W := sumN_congr W 0 (fun c _ _ => by
    unfold inC
    by_cases hd : a ≤ c ∧ c ≤ b
    ·rw [if_pos hd, if_pos]
     exact decide_eq_true ⟨by omega, by omega, by omega⟩
    ·rw [if_neg hd, if_neg]
     intro hh
     have := of_decide_eq_true hh
     omega)
   rw [e3, sumN_range]
   omega
  ·rw [if_neg hc]
   have e3 : sumN (fun c => if inC l tr t c j = true then 1 else 0) 0 W = sumN (fun _ => 0) 0 W := sumN_congr W 0 (fun c _ _ => by
    unfold inC
    rw [if_neg]
    intro hh
    have := of_decide_eq_true hh
    omega)
   rw [e3, sumN_zero]
 rw [e2, sumN_single x (b + 1 - a) T 0 (Nat.zero_le _) (by omega)]
 omega
/-! #### btStr -/
theorem bt_str {p r : List Int} {x i : Int} (hi : i = p.length) (hx : 0 ≤ x ∧ x ≤ 255) : bt (strOfNums (p ++ x :: r)) i = x := by
 subst hi
 have hs : ((p.length : Int)).toNat < (strOfNums (p ++ x :: r)).size := by
  rw [strOfNums_size]
  simp
 unfold bt
 rw [dif_pos hs]
 have e : (strOfNums (p ++ x :: r))[((p.length : Int)).toNat]'hs = UInt8.ofNat x.toNat := by
  simp [strOfNums, ByteArray.getElem_eq_getElem_data]
 rw [e]
 have h2 : x.toNat < 256 := by omega
 simp [Nat.mod_eq_of_lt h2]
 omega
/-! #### qInts -/
theorem qInts_l0 (l : List Int) (hl : l.length ≤ 9223372036854775806) (r : List Int) : ∀ (p : List Int) (i : Int), i = p.length → l = p ++ r → Ev (fun k => laws_qInts.l0 k l l l.length i) true := by
 induction r with
 | nil =>
  intro p i hi e
  have hlen : l.length = p.length := by rw [e]; simp
  apply ev_up
  simp only [laws_qInts.l0]
  exact ev_n (by omega) (Ev.now _)
 | cons x r ih =>
  intro p i hi e
  have hlen : l.length = p.length + r.length + 1 := by rw [e]; simp; omega
  have ih' := ih (p ++ [x]) (i + 1) (by simp; omega) (by rw [e]; simp)
  apply ev_up
  simp only [laws_qInts.l0]
  refine ev_p (by omega) (ev_p (by omega) (ev_p (by omega) (ev_p (by omega) (ev_p (by trivial) ?_))))
  rw [w64 (n := i + 1) (by omega) (by omega)]
  exact ih'
theorem qInts_self (l : List Int) (hl : l.length ≤ 9223372036854775806) : Ev (fun k => laws_qInts.f k l l) true := by
 unfold laws_qInts.f
 exact ev_p rfl (qInts_l0 l hl l [] 0 rfl rfl)
/-! #### qHas -/
theorem qHas_l0 (l : List Int) (v : Int) (hl : l.length ≤ 9223372036854775806) (r : List Int) : ∀ (p : List Int) (i : Int), i = p.length → l = p ++ r → Ev (fun k => laws_qHas.l0 k v l l.length i) (decide (v ∈ r)) := by
 induction r with
 | nil =>
  intro p i hi e
  have hlen : l.length = p.length := by rw [e]; simp
  apply ev_up
  simp only [laws_qHas.l0]
  refine ev_n (by omega) (ev_eq (Ev.now _) ?_)
  simp
 | cons x r ih =>
  intro p i hi e
  have hlen : l.length = p.length + r.length + 1 := by rw [e]; simp; omega
  have hx : rd l i = x := by rw [e]; exact rdA hi
  have ih' := ih (p ++ [x]) (i + 1) (by simp; omega) (by rw [e]; simp)
  apply ev_up
  simp only [laws_qHas.l0]
  refine ev_p (by omega) (ev_p (by omega) (ev_p (by omega) ?_))
  rw [hx, w64 (n := i + 1) (by omega) (by omega)]
  refine ev_ite (fun h => ?_) (fun h => ?_)
  ·refine ev_eq (Ev.now _) ?_
   simp [h]
  ·refine ev_eq ih' ?_
   have h2 : ¬ v = x := fun hh => h hh.symm
   simp [h2]
theorem qHas_ev (l : List Int) (v : Int) (hl : l.length ≤ 9223372036854775806) : Ev (fun k => laws_qHas.f k l v) (decide (v ∈ l)) := by
 unfold laws_qHas.f
 exact qHas_l0 l v hl l [] 0 rfl rfl
/-! #### rtAsked -/
theorem spec_rtAsked_ev (l : List S32) (tr : List Int) (hl : l.length ≤ 1048576) (ht : tr.length ≤ 1048576) : Ev (fun k => spec_rtAsked.f k l tr) (decide (chanM l = true ∧ tracksM tr = true ∧ tr.length = l.length)) := by
 unfold spec_rtAsked.f
 refine Ev.bind (spec_rtGood_ev l (by omega)) (ev_ite (fun h1 => Ev.bind (spec_rtTracks_ev tr (by omega)) (ev_ite (fun h2 => ?_) (fun h2 => ?_))) (fun h1 => ?_))
 ·refine ev_eq (Ev.now _) ?_
  rw [Bool.eq_iff_iff, beq_iff_eq, decide_eq_true_eq]
  exact ⟨fun h => ⟨h1, h2, by omega⟩, fun h => by omega⟩
 ·rw [decide_eq_false (fun h => h2 h.2.1)]
  exact Ev.now _
 ·rw [decide_eq_false (fun h => h1 h.1)]
  exact Ev.now _
/-! #### spec_rtRouting -/
theorem spec_rtRouting_l1 (l : List S32) (tr : List Int) (hl : l.length ≤ 1048576) (ht : tr.length = l.length) (i : Nat) (hi : i < l.length) (res : Bool) (d : Nat) : ∀ (j : Nat), j + d = i →
  (allB (okPair l tr i) j d = true → Ev (fun k => spec_rtRouting.l0 k l tr l l.length (wrap64 ((i : Int) + 1))) res) → (allB (okPair l tr i) j d = false → res = false) →
  Ev (fun k => spec_rtRouting.l1 k l tr i l l.length i i j (rd_T32 l i).f0 (rd_T32 l i).f1) res := by
 induction d with
 | zero =>
  intro j hj h1 h2
  apply ev_up
  simp only [spec_rtRouting.l1]
  exact ev_n (by omega) (h1 rfl)
 | succ d ih =>
  intro j hj h1 h2
  apply ev_up
  simp only [spec_rtRouting.l1]
  refine ev_p (by omega) (ev_p (by omega) (ev_p (by omega) (ev_p (by omega) (ev_p (by omega) ?_))))
  rw [wN (n := (j : Int) + 1) (m := j + 1) (by omega) (by omega), allB] at *
  have yes : okPair l tr i j = true → Ev (fun k => spec_rtRouting.l1 k l tr i l l.length i i ((j + 1 : Nat) : Int) (rd_T32 l i).f0 (rd_T32 l i).f1) res := fun h => by
   rw [h, Bool.true_and] at h1 h2
   exact ih (j + 1) (by omega) h1 h2
  refine ev_ite (fun c1 => ev_p (by omega) ?_) (fun c1 => ?_)
  ·rw [spec_rtMeet_eq]
   refine Ev.bind (ev_c rfl) (ev_ite (fun c2 => ?_) (fun c2 => ?_))
   ·have : okPair l tr i j = false := by unfold okPair; rw [decide_eq_true c1, c2]; rfl
    rw [h2 (by rw [this, Bool.false_and])]
    exact Ev.now _
   ·exact yes (by unfold okPair; rw [show meetB (rd_T32 l i) (rd_T32 l j) = false by simpa using c2, Bool.and_false]; rfl)
  ·exact yes (by unfold okPair; rw [decide_eq_false c1, Bool.false_and]; rfl)
theorem spec_rtRouting_l0 (l : List S32) (tr : List Int) (hl : l.length ≤ 1048576) (ht : tr.length = l.length) (d : Nat) : ∀ (i : Nat), i + d = l.length →
  Ev (fun k => spec_rtRouting.l0 k l tr l l.length i) (allB (fun i => allB (okPair l tr i) 0 i) i d) := by
 induction d with
 | zero =>
  intro i hi
  apply ev_up
  simp only [spec_rtRouting.l0]
  exact ev_n (by omega) (Ev.now _)
 | succ d ih =>
  intro i hi
  have e : ((l.take ((i : Int)).toNat).length : Int) = i := by simp; omega
  apply ev_up
  simp only [spec_rtRouting.l0]
  refine ev_p (by omega) (ev_p (by omega) (ev_p (by omega) (ev_p (by omega) ?_)))
  rw [e]
  refine spec_rtRouting_l1 l tr hl ht i (by omega) _ i 0 (by omega) (fun h => ?_) (fun h => ?_)
  ·rw [wN (n := (i : Int) + 1) (m := i + 1) (by omega) (by omega), allB, h, Bool.true_and]
   exact ih (i + 1) (by omega)
  ·rw [allB, h, Bool.false_and]
theorem spec_rtRouting_ev (l : List S32) (tr : List Int) (hl : l.length ≤ 1048576) (ht : tr.length = l.length) : Ev (fun k => spec_rtRouting.f k l tr) (routM l tr) := by
 unfold spec_rtRouting.f routM
 exact spec_rtRouting_l0 l tr hl ht l.length 0 (by omega)
/-! #### spec_rtTop -/
theorem l1Most_eq (a b : Int) : spec_l1Most.f a b = some (if a > b then a else b) := by
 unfold spec_l1Most.f
 split <;> rfl
theorem spec_rtTop_l0 (l : List Int) (hl : l.length ≤ 1048576) (hb : ∀ x ∈ l, 0 ≤ x ∧ x ≤ 1000) (r : List Int) : ∀ (p : List Int) (g i : Int), i = p.length → l = p ++ r →
  Ev (fun k => spec_rtTop.l0 k (g + 1) l l.length i) (greatM g r + 1) := by
 induction r with
 | nil =>
  intro p g i hi e
  have hlen : l.length = p.length := by rw [e]; simp
  apply ev_up
  simp only [spec_rtTop.l0]
  exact ev_n (by omega) (Ev.now _)
 | cons x r ih =>
  intro p g i hi e
  have hlen : l.length = p.length + r.length + 1 := by rw [e]; simp; omega
  have hx : rd l i = x := by rw [e]; exact rdA hi
  have hxb := hb x (by rw [e]; simp)
  apply ev_up
  simp only [spec_rtTop.l0]
  refine ev_p (by omega) (ev_p (by omega) (ev_p (by omega) ?_))
  rw [hx, l1Most_eq, w64 (n := x + 1) (by omega) (by omega), w64 (n := i + 1) (by omega) (by omega)]
  refine Ev.bind (ev_c rfl) ?_
  have e2 : (if g + 1 > x + 1 then g + 1 else x + 1) = (if g < x then x else g) + 1 := by
   by_cases h1 : g < x
   ·rw [if_neg (by omega), if_pos h1]
   ·by_cases h2 : g = x
    ·rw [if_neg (by omega), if_neg h1, h2]
    ·rw [if_pos (by omega), if_neg h1]
  rw [e2]
  exact ih (p ++ [x]) _ (i + 1) (by simp; omega) (by rw [e]; simp)
theorem spec_rtTop_ev (l : List Int) (hl : l.length ≤ 1048576) (hb : ∀ x ∈ l, 0 ≤ x ∧ x ≤ 1000) : Ev (fun k => spec_rtTop.f k l) (greatM (-1) l + 1) := by
 unfold spec_rtTop.f
 exact spec_rtTop_l0 l hl hb l [] (-1) 0 rfl rfl
/-! #### spec_FreeTracks -/
theorem spec_FreeTracks_l1 (l : List S32) (tr : List Int) (hl : l.length ≤ 20) (ht : tr.length = l.length) (w : S32) (acc : List Int) (t : Int) (R : List Int × Bool) (d : Nat) : ∀ (j : Nat) (b : Bool), j + d = l.length →
  Ev (fun k => spec_FreeTracks.l1 k l tr acc t (b && allB (fitF l tr w t) j d) l l.length l.length w.f0 w.f1) R → Ev (fun k => spec_FreeTracks.l1 k l tr acc t b l l.length j w.f0 w.f1) R := by
 induction d with
 | zero =>
  intro j b hj h
  have e : (j : Int) = l.length := by omega
  rw [e]
  rw [allB, Bool.and_true] at h
  exact h
 | succ d ih =>
  intro j b hj h
  have ih' := fun b => ih (j + 1) b (by omega)
  rw [allB] at h
  apply ev_up
  simp only [spec_FreeTracks.l1]
  rw [wN (n := (j : Int) + 1) (m := j + 1) (by omega) (by omega)]
  refine ev_p (by omega) (ev_p (by omega) (ev_p (by omega) ?_))
  cases b with
  | false =>
   refine ev_n (by decide) (ih' false ?_)
   simpa using h
  | true =>
   refine ev_p (by trivial) (ev_p (by omega) (ev_ite (fun c => ?_) (fun c => ?_)))
   ·rw [spec_rtMeet_eq]
    refine Ev.bind (ev_c rfl) (ih' _ ?_)
    have e : fitF l tr w t j = !(meetB (rd_T32 l j) w) := by unfold fitF; rw [decide_eq_true c, Bool.true_and]
    rw [e] at h
    simpa using h
   ·refine ih' true ?_
    have e : fitF l tr w t j = true := by unfold fitF; rw [decide_eq_false c, Bool.false_and]; rfl
    rw [e] at h
    simpa using h
theorem spec_FreeTracks_l0 (l : List S32) (tr : List Int) (hl : l.length ≤ 20) (ht : tr.length = l.length) (w : S32) (hb : ∀ x ∈ tr, 0 ≤ x ∧ x ≤ 19) (N : Nat) (hN : (N : Int) = greatM (-1) tr + 1) (hN2 : N ≤ 1001) (d : Nat) : ∀ (t : Nat) (acc : List Int), t + d = N → acc.length ≤ t →
  Ev (fun k => spec_FreeTracks.l0 k l tr acc t w.f0 w.f1) (acc ++ selU (fun t => allB (fitF l tr w (t : Int)) 0 l.length) t d, true) := by
 induction d with
 | zero =>
  intro t acc ht' ha
  apply ev_up
  simp only [spec_FreeTracks.l0]
  refine Ev.bind (spec_rtTop_ev tr (by omega) (fun x hx => ⟨(hb x hx).1, by have := (hb x hx).2; omega⟩)) (ev_n (by omega) (ev_eq (Ev.now _) ?_))
  simp [selU]
 | succ d ih =>
  intro t acc ht' ha
  apply ev_up
  simp only [spec_FreeTracks.l0]
  refine Ev.bind (spec_rtTop_ev tr (by omega) (fun x hx => ⟨(hb x hx).1, by have := (hb x hx).2; omega⟩)) (ev_p (by omega) ?_)
  refine spec_FreeTracks_l1 l tr hl ht w acc t _ l.length 0 true (by omega) ?_
  apply ev_up
  simp only [spec_FreeTracks.l1]
  rw [wN (n := (t : Int) + 1) (m := t + 1) (by omega) (by omega), selU, Bool.true_and]
  refine ev_n (by omega) (ev_ite (fun c => ev_p (by omega) ?_) (fun c => ?_))
  ·rw [if_pos c]
   refine ev_eq (ih (t + 1) _ (by omega) (by simp; omega)) ?_
   simp
  ·rw [if_neg c]
   refine ev_eq (ih (t + 1) _ (by omega) (by omega)) ?_
   simp
theorem spec_FreeTracks_ev (l : List S32) (tr : List Int) (a b : Int) (hl : l.length ≤ 1048576) (ht : tr.length ≤ 1048576) : Ev (fun k => spec_FreeTracks.f k l tr a b) (freeM l tr a b) := by
 have no : ¬ freeOk l tr a b → Ev (fun k => spec_FreeTracks.j0 k l tr true a b) (freeM l tr a b) := fun h => by
  unfold freeM
  rw [if_neg h]
  apply ev_up
  simp only [spec_FreeTracks.j0]
  exact ev_p (by trivial) (Ev.now _)
 unfold spec_FreeTracks.f
 refine Ev.bind (spec_rtAsked_ev l tr hl ht) (ev_ite (fun h1 => ?_) (fun h1 => no (fun h => h1 (decide_eq_true h.1))))
 have h1' := of_decide_eq_true h1
 refine Ev.bind (spec_rtRouting_ev l tr hl h1'.2.2) (ev_ite (fun h2 => ?_) (fun h2 => no (fun h => h2 h.2.1)))
 rw [spec_rtWire_eq]
 refine Ev.bind (ev_c rfl) ?_
 by_cases h3 : goodWire ⟨a, b⟩ = true
 ·have hok : freeOk l tr a b := ⟨h1', h2, h3⟩
  rw [h3]
  unfold freeM
  rw [if_pos hok]
  apply ev_up
  simp only [spec_FreeTracks.j0]
  refine ev_n (by decide) ?_
  obtain ⟨N, hN, hN2⟩ := great_nat h1'.2.1
  have e : (greatM (-1) tr + 1).toNat = N := by omega
  rw [e]
  exact spec_FreeTracks_l0 l tr (chanM_length h1'.1) h1'.2.2 ⟨a, b⟩ (tracksM_bounds h1'.2.1).2 N hN hN2 N 0 [] (by omega) (by simp)
 ·rw [show goodWire ⟨a, b⟩ = false by simpa using h3]
  exact no (fun h => h3 h.2.2)
/-! #### impl_greatest -/
theorem impl_greatest_l0 (l : List Int) (hl : l.length ≤ 1048576) (r : List Int) : ∀ (p : List Int) (g i : Int), i = p.length → l = p ++ r →
  Ev (fun k => impl_greatest.l0 k g l l.length i) (greatM g r) := by
 induction r with
 | nil =>
  intro p g i hi e
  have hlen : l.length = p.length := by rw [e]; simp
  apply ev_up
  simp only [impl_greatest.l0]
  exact ev_n (by omega) (Ev.now _)
 | cons x r ih =>
  intro p g i hi e
  have hlen : l.length = p.length + r.length + 1 := by rw [e]; simp; omega
  have hx : rd l i = x := by rw [e]; exact rdA hi
  apply ev_up
  simp only [impl_greatest.l0]
  refine ev_p (by omega) (ev_p (by omega) (ev_p (by omega) ?_))
  rw [hx, w64 (n := i + 1) (by omega) (by omega)]
  exact ih (p ++ [x]) _ (i + 1) (by simp; omega) (by rw [e]; simp)
theorem impl_greatest_ev (l : List Int) (hl : l.length ≤ 1048576) : Ev (fun k => impl_greatest.f k l) (greatM (-1) l) := by
 unfold impl_greatest.f
 exact impl_greatest_l0 l hl l [] (-1) 0 rfl rfl
/-! #### impl_FreeTracks -/
theorem impl_FreeTracks_l1 (l : List S32) (tr : List Int) (hl : l.length ≤ 20) (ht : tr.length = l.length) (w : S32) (acc : List Int) (t : Int) (R : List Int × Bool) (d : Nat) : ∀ (j : Nat) (b : Bool), j + d = l.length →
  Ev (fun k => impl_FreeTracks.l1 k l tr acc t (b && allB (fitF l tr w t) j d) l l.length l.length w.f0 w.f1) R → Ev (fun k => impl_FreeTracks.l1 k l tr acc t b l l.length j w.f0 w.f1) R := by
 induction d with
 | zero =>
  intro j b hj h
  have e : (j : Int) = l.length := by omega
  rw [e]
  rw [allB, Bool.and_true] at h
  exact h
 | succ d ih =>
  intro j b hj h
  have ih' := fun b => ih (j + 1) b (by omega)
  rw [allB] at h
  apply ev_up
  simp only [impl_FreeTracks.l1]
  rw [wN (n := (j : Int) + 1) (m := j + 1) (by omega) (by omega)]
  refine ev_p (by omega) (ev_p (by omega) (ev_p (by omega) (ev_p (by omega) (ev_ite (fun c => ?_) (fun c => ?_)))))
  ·rw [impl_wiresMeet_eq]
   have e : fitF l tr w t j = !(meetB (rd_T32 l j) w) := by unfold fitF; rw [decide_eq_true c, Bool.true_and]
   rw [e] at h
   refine Ev.bind (ev_c rfl) (ev_ite (fun c2 => ih' _ ?_) (fun c2 => ih' _ ?_))
   ·rw [c2] at h
    simpa using h
   ·rw [show meetB (rd_T32 l j) w = false by simpa using c2] at h
    simpa using h
  ·refine ih' b ?_
   have e : fitF l tr w t j = true := by unfold fitF; rw [decide_eq_false c, Bool.false_and]; rfl
   rw [e] at h
   simpa using h
theorem impl_FreeTracks_l0 (l : List S32) (tr : List Int) (hl : l.length ≤ 20) (ht : tr.length = l.length) (w : S32) (hb : ∀ x ∈ tr, 0 ≤ x ∧ x ≤ 19) (N : Nat) (hN : (N : Int) = greatM (-1) tr + 1) (hN2 : N ≤ 1001) (d : Nat) : ∀ (t : Nat) (acc : List Int), t + d = N → acc.length ≤ t →
  Ev (fun k => impl_FreeTracks.l0 k l tr acc t w.f0 w.f1) (acc ++ selU (fun t => allB (fitF l tr w (t : Int)) 0 l.length) t d, true) := by
 induction d with
 | zero =>
  intro t acc ht' ha
  apply ev_up
  simp only [impl_FreeTracks.l0]
  refine Ev.bind (impl_greatest_ev tr (by omega)) (ev_n (by omega) (ev_eq (Ev.now _) ?_))
  simp [selU]
 | succ d ih =>
  intro t acc ht' ha
  apply ev_up
  simp only [impl_FreeTracks.l0]
  refine Ev.bind (impl_greatest_ev tr (by omega)) (ev_p (by omega) ?_)
  refine impl_FreeTracks_l1 l tr hl ht w acc t _ l.length 0 true (by omega) ?_
  apply ev_up
  simp only [impl_FreeTracks.l1]
  rw [wN (n := (t : Int) + 1) (m := t + 1) (by omega) (by omega), selU, Bool.true_and]
  refine ev_n (by omega) (ev_ite (fun c => ev_p (by omega) ?_) (fun c => ?_))
  ·rw [if_pos c]
   refine ev_eq (ih (t + 1) _ (by omega) (by simp; omega)) ?_
   simp
  ·rw [if_neg c]
   refine ev_eq (ih (t + 1) _ (by omega) (by omega)) ?_
   simp
theorem impl_FreeTracks_ev (l : List S32) (tr : List Int) (a b : Int) (hl : l.length ≤ 1048576) (ht : tr.length ≤ 1048576) : Ev (fun k => impl_FreeTracks.f k l tr a b) (freeM l tr a b) := by
 have no : ¬ freeOk l tr a b → Ev (fun k => impl_FreeTracks.j0 k l tr true a b) (freeM l tr a b) := fun h => by
  unfold freeM
  rw [if_neg h]
  apply ev_up
  simp only [impl_FreeTracks.j0]
  exact ev_p (by trivial) (Ev.now _)
 unfold impl_FreeTracks.f
 refine Ev.bind (impl_AreChannelWires_ev l (by omega)) (ev_ite (fun h1 => ?_) (fun h1 => no (fun h => h1 h.1.1)))
 refine Ev.bind (impl_areTracks_ev tr (by omega)) (ev_ite (fun h2 => ?_) (fun h2 => no (fun h => h2 h.1.2.1)))
 rw [impl_isWire_eq]
 refine Ev.bind (ev_c rfl) (ev_ite (fun h3 => ev_ite (fun h4 => ?_) (fun h4 => no (fun h => h4 (by rw [h.1.2.2])))) (fun h3 => no (fun h => h3 h.2.2)))
 have h4' : tr.length = l.length := by omega
 refine Ev.bind (impl_isRouting_ev l tr hl h4') ?_
 by_cases h5 : routM l tr = true
 ·have hok : freeOk l tr a b := ⟨⟨h1, h2, h4'⟩, h5, h3⟩
  rw [h5]
  unfold freeM
  rw [if_pos hok]
  apply ev_up
  simp only [impl_FreeTracks.j0]
  refine ev_n (by decide) ?_
  obtain ⟨N, hN, hN2⟩ := great_nat h2
  have e : (greatM (-1) tr + 1).toNat = N := by omega
  rw [e]
  exact impl_FreeTracks_l0 l tr (chanM_length h1) h4' ⟨a, b⟩ (tracksM_bounds h2).2 N hN hN2 N 0 [] (by omega) (by simp)
 ·rw [show routM l tr = false by simpa using h5]
  exact no (fun h => h5 h.2.1)
/-! #### layersOf -/
def layersM (l : List Int) (h : Int) : List Int × Int × Bool := if tracksM l = true ∧ 1 ≤ h ∧ h ≤ 20 then (l.map (· / h), greatM (-1) (l.map (· / h)) + 1, true) else ([], 0, false)
theorem layers_bounds {l : List Int} {h : Int} (ht : ∀ x ∈ l, 0 ≤ x ∧ x ≤ 19) (h1 : 1 ≤ h) : ∀ y ∈ l.map (· / h), 0 ≤ y ∧ y ≤ 1000 := by
 intro y hy
 obtain ⟨x, hx, rfl⟩ := List.mem_map.1 hy
 have := ht x hx
 constructor
 ·exact Int.ediv_nonneg this.1 (by omega)
 ·have := Int.ediv_le_self h this.1
  omega
theorem layersM_length (l : List Int) (h : Int) : (layersM l h).1.length ≤ 20 := by
 unfold layersM
 split
 ·rename_i hh
  simpa using (tracksM_bounds hh.1).1
 ·simp
theorem spec_LayersOf_l0 (l : List Int) (h : Int) (hh : 1 ≤ h) (hl : l.length ≤ 20) (ht : ∀ x ∈ l, 0 ≤ x ∧ x ≤ 19) (r : List Int) : ∀ (p : List Int) (i : Int), i = p.length → l = p ++ r →
  Ev (fun k => spec_LayersOf.l0 k h (p.map (· / h)) l l.length i) (l.map (· / h), greatM (-1) (l.map (· / h)) + 1, true) := by
 induction r with
 | nil =>
  intro p i hi e
  have hlen : l.length = p.length := by rw [e]; simp
  have e' : p = l := by rw [e]; simp
  apply ev_up
  simp only [spec_LayersOf.l0]
  rw [e']
  refine ev_n (by omega) (Ev.bind (spec_rtTop_ev _ (by simp; omega) (layers_bounds ht hh)) (Ev.now _))
 | cons x r ih =>
  intro p i hi e
  have hlen : l.length = p.length + r.length + 1 := by rw [e]; simp; omega
  have hx : rd l i = x := by rw [e]; exact rdA hi
  have hxb := ht x (by rw [e]; simp)
  apply ev_up
  simp only [spec_LayersOf.l0]
  refine ev_p (by omega) (ev_p (by omega) (ev_p (by omega) (ev_n (by omega) (ev_p (by simp; omega) ?_))))
  have hd : wrap64 (Int.tdiv x h) = x / h := by
   rw [Int.tdiv_eq_ediv_of_nonneg hxb.1]
   have h1 := Int.ediv_le_self h hxb.1
   have h2 := Int.ediv_nonneg hxb.1 (show 0 ≤ h by omega)
   exact w64 (by omega) (by omega)
  rw [hx, hd, w64 (n := i + 1) (by omega) (by omega), show p.map (· / h) ++ [x / h] = (p ++ [x]).map (· / h) by simp]
  exact ih (p ++ [x]) (i + 1) (by simp; omega) (by rw [e]; simp)
theorem impl_LayersOf_l0 (l : List Int) (h : Int) (hh : 1 ≤ h) (hl : l.length ≤ 20) (ht : ∀ x ∈ l, 0 ≤ x ∧ x ≤ 19) (r : List Int) : ∀ (p : List Int) (i : Int), i = p.length → l = p ++ r →
  Ev (fun k => impl_LayersOf.l0 k h (p.map (· / h)) l l.length i) (l.map (· / h), greatM (-1) (l.map (· / h)) + 1, true) := by
 induction r with
 | nil =>
  intro p i hi e
  have hlen : l.length = p.length := by rw [e]; simp
  have e' : p = l := by rw [e]; simp
  apply ev_up
  simp only [impl_LayersOf.l0]
  rw [e']
  have hb := greatM_bound (l := l.map (· / h)) (g := -1) (by omega) (by omega) (layers_bounds ht hh)
  refine ev_n (by omega) (Ev.bind (impl_greatest_ev _ (by simp; omega)) ?_)
  rw [w64 (by omega) (by omega)]
  exact Ev.now _
 | cons x r ih =>
  intro p i hi e
  have hlen : l.length = p.length + r.length + 1 := by rw [e]; simp; omega
  have hx : rd l i = x := by rw [e]; exact rdA hi
  have hxb := ht x (by rw [e]; simp)
  apply ev_up
  simp only [impl_LayersOf.l0]
  refine ev_p (by omega) (ev_p (by omega) (ev_p (by omega) (ev_n (by omega) (ev_p (by simp; omega) ?_))))
  have hd : wrap64 (Int.tdiv x h) = x / h := by
   rw [Int.tdiv_eq_ediv_of_nonneg hxb.1]
   have h1 := Int.ediv_le_self h hxb.1
   have h2 := Int.ediv_nonneg hxb.1 (show 0 ≤ h by omega)
   exact w64 (by omega) (by omega)
  rw [hx, hd, w64 (n := i + 1) (by omega) (by omega), show p.map (· / h) ++ [x / h] = (p ++ [x]).map (· / h) by simp]
  exact ih (p ++ [x]) (i + 1) (by simp; omega) (by rw [e]; simp)
theorem spec_LayersOf_ev (l : List Int) (h : Int) (hl : l.length ≤ 9223372036854775807) : Ev (fun k => spec_LayersOf.f k l h) (layersM l h) := by
 unfold spec_LayersOf.f layersM
 refine Ev.bind (spec_rtTracks_ev l hl) (ev_ite (fun h1 => ?_) (fun h1 => ?_))
 ·rw [l1In_eq]
  refine Ev.bind (ev_c rfl) (ev_up ?_)
  simp only [spec_LayersOf.j0]
  obtain ⟨hb, ht⟩ := tracksM_bounds h1
  by_cases h2 : 1 ≤ h ∧ h ≤ 20
  ·rw [if_pos ⟨h1, h2⟩]
   refine ev_n (by simp; omega) ?_
   exact spec_LayersOf_l0 l h h2.1 hb ht l [] 0 rfl rfl
  ·rw [if_neg (fun hh => h2 hh.2)]
   exact ev_p (by rw [decide_eq_false h2]; rfl) (Ev.now _)
 ·rw [if_neg (fun hh => h1 hh.1)]
  refine ev_up ?_
  simp only [spec_LayersOf.j0]
  exact ev_p (by trivial) (Ev.now _)
theorem impl_LayersOf_ev (l : List Int) (h : Int) (hl : l.length ≤ 9223372036854775807) : Ev (fun k => impl_LayersOf.f k l h) (layersM l h) := by
 unfold impl_LayersOf.f layersM
 refine Ev.bind (impl_areTracks_ev l hl) (ev_ite (fun h1 => ?_) (fun h1 => ?_))
 ·obtain ⟨hb, ht⟩ := tracksM_bounds h1
  refine ev_ite (fun h2 => ?_) (fun h2 => ?_)
  ·rw [if_neg (by omega)]
   refine ev_up ?_
   simp only [impl_LayersOf.j0]
   exact ev_p (by trivial) (Ev.now _)
  ·refine ev_up ?_
   simp only [impl_LayersOf.j0]
   refine ev_ite (fun h3 => ?_) (fun h3 => ?_)
   ·have h3' := of_decide_eq_true h3
    rw [if_neg (by omega)]
    exact Ev.now _
   ·have h3' : ¬ h > 20 := fun hh => h3 (decide_eq_true hh)
    rw [if_pos ⟨h1, by omega, by omega⟩]
    exact impl_LayersOf_l0 l h (by omega) hb ht l [] 0 rfl rfl
 ·rw [if_neg (fun hh => h1 hh.1)]
  refine ev_up ?_
  simp only [impl_LayersOf.j0]
  exact ev_p (by trivial) (Ev.now _)
/-! #### isRouting -/
theorem spec_IsRouting_ev (l : List S32) (tr : List Int) (hl : l.length ≤ 1048576) (ht : tr.length ≤ 1048576) : Ev (fun k => spec_IsRouting.f k l tr) (isRoutingM l tr) := by
 unfold spec_IsRouting.f isRoutingM
 refine Ev.bind (spec_rtAsked_ev l tr hl ht) (ev_ite (fun h => ?_) (fun h => ?_))
 ·have h' := of_decide_eq_true h
  rw [if_pos h']
  exact Ev.bind (spec_rtRouting_ev l tr hl h'.2.2) (Ev.now _)
 ·rw [if_neg (fun hh => h (decide_eq_true hh))]
  exact Ev.now _
/-! #### spec_RoutingText -/
theorem spec_RoutingText_l3 (l : List S32) (tr : List Int) (hl : l.length ≤ 20) (ht : tr.length = l.length) (W t c : Nat) (xs : List Int) (hx : xs.length ≤ 1000000000) (R : ByteArray × Bool) (d : Nat) : ∀ (j : Nat) (a : Int), j + d = l.length →
  Ev (fun k => spec_RoutingText.l2 k l tr (W : Int) (strOfNums (xs ++ [chM l tr t c a j d])) t (wrap64 ((c : Int) + 1))) R → Ev (fun k => spec_RoutingText.l3 k l tr (W : Int) (strOfNums (xs)) t c (strOfNums [a]) l l.length j) R := by
 induction d with
 | zero =>
  intro j a hj h
  apply ev_up
  simp only [spec_RoutingText.l3]
  refine ev_n (by omega) (ev_p (by rw [strOfNums_size, strOfNums_size]; simp; omega) ?_)
  rw [← strOfNums_append]
  exact h
 | succ d ih =>
  intro j a hj h
  have ih' := fun a => ih (j + 1) a (by omega)
  have e97 : (wrap64 (97 + (j : Int))) % 256 = 97 + j := by rw [w64 (n := 97 + (j : Int)) (by omega) (by omega)]; omega
  rw [chM] at h
  apply ev_up
  simp only [spec_RoutingText.l3]
  rw [wN (n := (j : Int) + 1) (m := j + 1) (by omega) (by omega), e97]
  refine ev_p (by omega) (ev_p (by omega) (ev_p (by omega) (ev_p (by omega) (ev_ite (fun c1 => ?_) (fun c1 => ?_)))))
  ·rw [l1In_eq]
   refine Ev.bind (ev_c rfl) (ev_ite (fun c2 => ?_) (fun c2 => ?_))
   ·have c2' := of_decide_eq_true c2
    refine ih' _ ?_
    rw [if_pos (show inC l tr t c j = true from decide_eq_true ⟨c1, c2'⟩)] at h
    exact h
   ·refine ih' a ?_
    rw [if_neg (show ¬ inC l tr t c j = true from fun hh => c2 (decide_eq_true (of_decide_eq_true hh).2))] at h
    exact h
  ·refine ih' a ?_
   rw [if_neg (show ¬ inC l tr t c j = true from fun hh => c1 (of_decide_eq_true hh).1)] at h
   exact h
theorem spec_RoutingText_l2 (l : List S32) (tr : List Int) (hl : l.length ≤ 20) (ht : tr.length = l.length) (W t : Nat) (hW : W ≤ 1001) (R : ByteArray × Bool) (d : Nat) : ∀ (c : Nat) (xs : List Int), c + d = W → xs.length + d ≤ 1000000000 →
  Ev (fun k => spec_RoutingText.l1 k l tr (W : Int) (strOfNums (xs ++ (rowM l tr t c d ++ [10]))) (wrap64 ((t : Int) + 1))) R → Ev (fun k => spec_RoutingText.l2 k l tr (W : Int) (strOfNums (xs)) t c) R := by
 induction d with
 | zero =>
  intro c xs hc hx h
  apply ev_up
  simp only [spec_RoutingText.l2]
  rw [rowM, List.nil_append] at h
  refine ev_n (by omega) (ev_p (by rw [strOfNums_size]; omega) ?_)
  rw [show (⟨#[10]⟩ : ByteArray) = strOfNums [10] from rfl, ← strOfNums_append]
  exact h
 | succ d ih =>
  intro c xs hc hx h
  apply ev_up
  simp only [spec_RoutingText.l2]
  refine ev_p (by omega) ?_
  have := spec_RoutingText_l3 l tr hl ht W t c xs (by omega) R l.length 0 46 (by omega)
  refine this ?_
  rw [wN (n := (c : Int) + 1) (m := c + 1) (by omega) (by omega)]
  refine ih (c + 1) _ (by omega) (by simp; omega) ?_
  rw [rowM] at h
  simpa using h
theorem spec_RoutingText_l1 (l : List S32) (tr : List Int) (hl : l.length ≤ 20) (ht : tr.length = l.length) (hb : ∀ x ∈ tr, 0 ≤ x ∧ x ≤ 19) (W : Nat) (hW : W ≤ 1001) (N : Nat) (hN : (N : Int) = greatM (-1) tr + 1) (hN2 : N ≤ 1001) (d : Nat) : ∀ (t : Nat) (xs : List Int), t + d = N → xs.length ≤ t * 1002 →
  Ev (fun k => spec_RoutingText.l1 k l tr (W : Int) (strOfNums (xs)) t) (strOfNums (xs ++ txtR l tr W t d), true) := by
 induction d with
 | zero =>
  intro t xs ht' hx
  apply ev_up
  simp only [spec_RoutingText.l1]
  refine Ev.bind (spec_rtTop_ev tr (by omega) (fun x hx => ⟨(hb x hx).1, by have := (hb x hx).2; omega⟩)) (ev_n (by omega) (ev_eq (Ev.now _) ?_))
  simp [txtR]
 | succ d ih =>
  intro t xs ht' hx
  apply ev_up
  simp only [spec_RoutingText.l1]
  refine Ev.bind (spec_rtTop_ev tr (by omega) (fun x hx => ⟨(hb x hx).1, by have := (hb x hx).2; omega⟩)) (ev_p (by omega) ?_)
  have hrl := rowM_length l tr t W 0
  refine spec_RoutingText_l2 l tr hl ht W t hW _ W 0 xs (by omega) (by omega) ?_
  rw [wN (n := (t : Int) + 1) (m := t + 1) (by omega) (by omega)]
  refine ev_eq (ih (t + 1) _ (by omega) (by simp; omega)) ?_
  simp [txtR]
theorem spec_RoutingText_l0 (l : List S32) (tr : List Int) (hl : l.length ≤ 20) (hg : ∀ w ∈ l, 0 ≤ w.f1 ∧ w.f1 ≤ 1000) (R : ByteArray × Bool) (r : List S32) : ∀ (p : List S32) (g i : Int), i = p.length → l = p ++ r →
  Ev (fun k => spec_RoutingText.l1 k l tr (greatM g (r.map (·.f1)) + 1) ⟨#[]⟩ 0) R → Ev (fun k => spec_RoutingText.l0 k l tr (g + 1) l l.length i) R := by
 induction r with
 | nil =>
  intro p g i hi e h
  have hlen : l.length = p.length := by rw [e]; simp
  apply ev_up
  simp only [spec_RoutingText.l0]
  exact ev_n (by omega) h
 | cons x r ih =>
  intro p g i hi e h
  have hlen : l.length = p.length + r.length + 1 := by rw [e]; simp; omega
  have hx : rd_T32 l i = x := by rw [e]; exact rdWireA hi
  have hxb := hg x (by rw [e]; simp)
  apply ev_up
  simp only [spec_RoutingText.l0]
  refine ev_p (by omega) (ev_p (by omega) (ev_p (by omega) ?_))
  rw [List.map_cons, greatM] at h
  rw [hx, l1Most_eq, w64 (n := x.f1 + 1) (by omega) (by omega), w64 (n := i + 1) (by omega) (by omega)]
  refine Ev.bind (ev_c rfl) ?_
  have e2 : (if g + 1 > x.f1 + 1 then g + 1 else x.f1 + 1) = (if g < x.f1 then x.f1 else g) + 1 := by
   by_cases h1 : g < x.f1
   ·rw [if_neg (by omega), if_pos h1]
   ·by_cases h2 : g = x.f1
    ·rw [if_neg (by omega), if_neg h1, h2]
    ·rw [if_pos (by omega), if_neg h1]
  rw [e2]
  exact ih (p ++ [x]) _ (i + 1) (by simp; omega) (by rw [e]; simp) h
theorem spec_RoutingText_ev (l : List S32) (tr : List Int) (hl : l.length ≤ 1048576) (ht : tr.length ≤ 1048576) : Ev (fun k => spec_RoutingText.f k l tr) (rtextM l tr) := by
 have no : ¬ rtOk l tr → Ev (fun k => spec_RoutingText.j0 k l tr true) (rtextM l tr) := fun h => by
  unfold rtextM
  rw [if_neg h]
  apply ev_up
  simp only [spec_RoutingText.j0]
  exact ev_p (by trivial) (Ev.now _)
 have yes : rtOk l tr → Ev (fun k => spec_RoutingText.j0 k l tr false) (rtextM l tr) := fun h => by
  obtain ⟨⟨h1, h2, h3⟩, h4⟩ := h
  have hg := chan_f1 h1
  obtain ⟨N, hN, hN2⟩ := great_nat h2
  obtain ⟨W, hW, hW2⟩ := wid_nat h1
  unfold rtextM
  rw [if_pos ⟨⟨h1, h2, h3⟩, h4⟩]
  apply ev_up
  simp only [spec_RoutingText.j0]
  refine ev_n (by decide) ?_
  have e : (greatM (-1) tr + 1).toNat = N := by omega
  have e2 : (greatM (-1) (l.map (·.f1)) + 1).toNat = W := by omega
  rw [e, e2]
  refine spec_RoutingText_l0 l tr (chanM_length h1) hg _ l [] (-1) 0 rfl rfl ?_
  have := spec_RoutingText_l1 l tr (chanM_length h1) h3 (tracksM_bounds h2).2 W hW2 N hN hN2 N 0 [] (by omega) (by simp)
  rw [List.nil_append] at this
  rw [← hW]
  exact this
 unfold spec_RoutingText.f
 refine Ev.bind (spec_rtAsked_ev l tr hl ht) (ev_ite (fun h1 => ?_) (fun h1 => no (fun h => h1 (decide_eq_true h.1))))
 have h1' := of_decide_eq_true h1
 refine Ev.bind (spec_rtRouting_ev l tr hl h1'.2.2) ?_
 by_cases h2 : routM l tr = true
 ·rw [h2]
  exact yes ⟨h1', h2⟩
 ·rw [show routM l tr = false by simpa using h2]
  exact no (fun h => h2 h.2)
/-! #### impl_RoutingText -/
theorem impl_RoutingText_l3 (l : List S32) (tr : List Int) (hl : l.length ≤ 20) (ht : tr.length = l.length) (W t c : Nat) (xs : List Int) (hx : xs.length ≤ 1000000000) (R : ByteArray × Bool) (d : Nat) : ∀ (j : Nat) (a : Int), j + d = l.length →
  Ev (fun k => impl_RoutingText.l2 k l tr ((W : Int) - 1) (xs ++ [chM l tr t c a j d]) t (wrap64 ((c : Int) + 1))) R → Ev (fun k => impl_RoutingText.l3 k l tr ((W : Int) - 1) (xs) t c (a) l l.length j) R := by
 induction d with
 | zero =>
  intro j a hj h
  apply ev_up
  simp only [impl_RoutingText.l3]
  exact ev_n (by omega) (ev_p (by omega) h)
 | succ d ih =>
  intro j a hj h
  have ih' := fun a => ih (j + 1) a (by omega)
  have e97 : (wrap64 (97 + (j : Int))) % 256 = 97 + j := by rw [w64 (n := 97 + (j : Int)) (by omega) (by omega)]; omega
  rw [chM] at h
  apply ev_up
  simp only [impl_RoutingText.l3]
  rw [wN (n := (j : Int) + 1) (m := j + 1) (by omega) (by omega), e97]
  refine ev_p (by omega) (ev_p (by omega) (ev_p (by omega) (ev_p (by omega) (ev_ite (fun c1 => ?_) (fun c1 => ?_)))))
  ·refine ev_ite (fun c2 => ev_ite (fun c3 => ?_) (fun c3 => ?_)) (fun c2 => ?_)
   ·refine ih' _ ?_
    rw [if_pos (show inC l tr t c j = true from decide_eq_true ⟨c1, c2, c3⟩)] at h
    exact h
   ·refine ih' a ?_
    rw [if_neg (show ¬ inC l tr t c j = true from fun hh => c3 (of_decide_eq_true hh).2.2)] at h
    exact h
   ·refine ih' a ?_
    rw [if_neg (show ¬ inC l tr t c j = true from fun hh => c2 (of_decide_eq_true hh).2.1)] at h
    exact h
  ·refine ih' a ?_
   rw [if_neg (show ¬ inC l tr t c j = true from fun hh => c1 (of_decide_eq_true hh).1)] at h
   exact h
theorem impl_RoutingText_l2 (l : List S32) (tr : List Int) (hl : l.length ≤ 20) (ht : tr.length = l.length) (W t : Nat) (hW : W ≤ 1001) (R : ByteArray × Bool) (d : Nat) : ∀ (c : Nat) (xs : List Int), c + d = W → xs.length + d ≤ 1000000000 →
  Ev (fun k => impl_RoutingText.l1 k l tr ((W : Int) - 1) (xs ++ (rowM l tr t c d ++ [10])) (wrap64 ((t : Int) + 1))) R → Ev (fun k => impl_RoutingText.l2 k l tr ((W : Int) - 1) (xs) t c) R := by
 induction d with
 | zero =>
  intro c xs hc hx h
  apply ev_up
  simp only [impl_RoutingText.l2]
  rw [rowM, List.nil_append] at h
  exact ev_n (by omega) (ev_p (by omega) h)
 | succ d ih =>
  intro c xs hc hx h
  apply ev_up
  simp only [impl_RoutingText.l2]
  refine ev_p (by omega) ?_
  have := impl_RoutingText_l3 l tr hl ht W t c xs (by omega) R l.length 0 46 (by omega)
  refine this ?_
  rw [wN (n := (c : Int) + 1) (m := c + 1) (by omega) (by omega)]
  refine ih (c + 1) _ (by omega) (by simp; omega) ?_
  rw [rowM] at h
  simpa using h
theorem impl_RoutingText_l1 (l : List S32) (tr : List Int) (hl : l.length ≤ 20) (ht : tr.length = l.length) (hb : ∀ x ∈ tr, 0 ≤ x ∧ x ≤ 19) (W : Nat) (hW : W ≤ 1001) (N : Nat) (hN : (N : Int) = greatM (-1) tr + 1) (hN2 : N ≤ 1001) (d : Nat) : ∀ (t : Nat) (xs : List Int), t + d = N → xs.length ≤ t * 1002 →
  Ev (fun k => impl_RoutingText.l1 k l tr ((W : Int) - 1) (xs) t) (strOfNums (xs ++ txtR l tr W t d), true) := by
 induction d with
 | zero =>
  intro t xs ht' hx
  apply ev_up
  simp only [impl_RoutingText.l1]
  refine Ev.bind (impl_greatest_ev tr (by omega)) (ev_n (by omega) (ev_eq (Ev.now _) ?_))
  simp [txtR]
 | succ d ih =>
  intro t xs ht' hx
  apply ev_up
  simp only [impl_RoutingText.l1]
  refine Ev.bind (impl_greatest_ev tr (by omega)) (ev_p (by omega) ?_)
  have hrl := rowM_length l tr t W 0
  refine impl_RoutingText_l2 l tr hl ht W t hW _ W 0 xs (by omega) (by omega) ?_
  rw [wN (n := (t : Int) + 1) (m := t + 1) (by omega) (by omega)]
  refine ev_eq (ih (t + 1) _ (by omega) (by simp; omega)) ?_
  simp [txtR]
theorem impl_RoutingText_l0 (l : List S32) (tr : List Int) (hl : l.length ≤ 20) (hg : ∀ w ∈ l, 0 ≤ w.f1 ∧ w.f1 ≤ 1000) (R : ByteArray × Bool) (r : List S32) : ∀ (p : List S32) (g i : Int), i = p.length → l = p ++ r →
  Ev (fun k => impl_RoutingText.l1 k l tr (greatM g (r.map (·.f1))) [] 0) R → Ev (fun k => impl_RoutingText.l0 k l tr (g) l l.length i) R := by
 induction r with
 | nil =>
  intro p g i hi e h
  have hlen : l.length = p.length := by rw [e]; simp
  apply ev_up
  simp only [impl_RoutingText.l0]
  exact ev_n (by omega) h
 | cons x r ih =>
  intro p g i hi e h
  have hlen : l.length = p.length + r.length + 1 := by rw [e]; simp; omega
  have hx : rd_T32 l i = x := by rw [e]; exact rdWireA hi
  have hxb := hg x (by rw [e]; simp)
  apply ev_up
  simp only [impl_RoutingText.l0]
  refine ev_p (by omega) (ev_p (by omega) (ev_p (by omega) ?_))
  rw [List.map_cons, greatM] at h
  rw [hx, w64 (n := i + 1) (by omega) (by omega)]
  exact ih (p ++ [x]) _ (i + 1) (by simp; omega) (by rw [e]; simp) h
theorem impl_RoutingText_ev (l : List S32) (tr : List Int) (hl : l.length ≤ 1048576) (ht : tr.length ≤ 1048576) : Ev (fun k => impl_RoutingText.f k l tr) (rtextM l tr) := by
 have no : ¬ rtOk l tr → Ev (fun k => impl_RoutingText.j0 k l tr true) (rtextM l tr) := fun h => by
  unfold rtextM
  rw [if_neg h]
  apply ev_up
  simp only [impl_RoutingText.j0]
  exact ev_p (by trivial) (Ev.now _)
 have yes : rtOk l tr → Ev (fun k => impl_RoutingText.j0 k l tr false) (rtextM l tr) := fun h => by
  obtain ⟨⟨h1, h2, h3⟩, h4⟩ := h
  have hg := chan_f1 h1
  obtain ⟨N, hN, hN2⟩ := great_nat h2
  obtain ⟨W, hW, hW2⟩ := wid_nat h1
  unfold rtextM
  rw [if_pos ⟨⟨h1, h2, h3⟩, h4⟩]
  apply ev_up
  simp only [impl_RoutingText.j0]
  refine ev_n (by decide) ?_
  have e : (greatM (-1) tr + 1).toNat = N := by omega
  have e2 : (greatM (-1) (l.map (·.f1)) + 1).toNat = W := by omega
  rw [e, e2]
  refine impl_RoutingText_l0 l tr (chanM_length h1) hg _ l [] (-1) 0 rfl rfl ?_
  have := impl_RoutingText_l1 l tr (chanM_length h1) h3 (tracksM_bounds h2).2 W hW2 N hN hN2 N 0 [] (by omega) (by simp)
  rw [List.nil_append] at this
  rw [show greatM (-1) (l.map (·.f1)) = (W : Int) - 1 by omega]
  exact this
 unfold impl_RoutingText.f
 refine Ev.bind (impl_AreChannelWires_ev l (by omega)) (ev_ite (fun h1 => ?_) (fun h1 => no (fun h => h1 h.1.1)))
 refine Ev.bind (impl_areTracks_ev tr (by omega)) (ev_ite (fun h2 => ev_ite (fun h4 => ?_) (fun h4 => no (fun h => h4 (by rw [h.1.2.2])))) (fun h2 => no (fun h => h2 h.1.2.1)))
 have h4' : tr.length = l.length := by omega
 refine Ev.bind (impl_isRouting_ev l tr hl h4') ?_
 by_cases h5 : routM l tr = true
 ·rw [h5]
  exact yes ⟨⟨h1, h2, h4'⟩, h5⟩
 ·rw [show routM l tr = false by simpa using h5]
  exact no (fun h => h5 h.2)
/-! #### FnTracks -/
def sumW (r : List S32) : Int := (r.map (fun w => w.f1 - w.f0 + 1)).sum
theorem fnTracks_l3 (l : List S32) (hl : l.length ≤ 20) (hg : ∀ w ∈ l, goodWire w = true) (L : Int) (r : List S32) : ∀ (p : List S32) (i acc : Int), i = p.length → l = p ++ r → 0 ≤ acc → acc ≤ 100 * i → L = acc + sumW r →
  Ev (fun k => laws_FnTracks.l3 k L acc l l.length i) true := by
 induction r with
 | nil =>
  intro p i acc hi e h0 h1 hL
  have hlen : l.length = p.length := by rw [e]; simp
  apply ev_up
  simp only [laws_FnTracks.l3]
  refine ev_n (by omega) (ev_eq (Ev.now _) ?_)
  have hs : sumW [] = 0 := rfl
  rw [beq_iff_eq]
  omega
 | cons w r ih =>
  intro p i acc hi e h0 h1 hL
  have hlen : l.length = p.length + r.length + 1 := by rw [e]; simp; omega
  have hx : rd_T32 l i = w := by rw [e]; exact rdWireA hi
  have hw := of_decide_eq_true (hg w (by rw [e]; simp))
  have hs : sumW (w :: r) = w.f1 - w.f0 + 1 + sumW r := by unfold sumW; rw [List.map_cons, List.sum_cons]
  apply ev_up
  simp only [laws_FnTracks.l3]
  refine ev_p (by omega) (ev_p (by omega) (ev_p (by omega) ?_))
  rw [hx, w64 (n := w.f1 - w.f0) (by omega) (by omega), w64 (n := w.f1 - w.f0 + 1) (by omega) (by omega), w64 (n := acc + (w.f1 - w.f0 + 1)) (by omega) (by omega), w64 (n := i + 1) (by omega) (by omega)]
  exact ih (p ++ [w]) (i + 1) _ (by simp; omega) (by rw [e]; simp) (by omega) (by omega) (by omega)
theorem fnTracks_l2 (l : List S32) (xs : List Int) (hx : ∀ x ∈ xs, 0 ≤ x ∧ x ≤ 255) (hxl : xs.length ≤ 10000000) (L : Int) (hn : Ev (fun k => laws_FnTracks.l3 k L 0 l l.length 0) true) (r : List Int) : ∀ (p : List Int) (i acc : Int), i = p.length → xs = p ++ r → 0 ≤ acc → acc ≤ i → L = acc + (r.countP big : Nat) →
  Ev (fun k => laws_FnTracks.l2 k l (strOfNums xs) acc 0 i) true := by
 induction r with
 | nil =>
  intro p i acc hi e h0 h1 hL
  have hlen : xs.length = p.length := by rw [e]; simp
  apply ev_up
  simp only [laws_FnTracks.l2]
  have : L = acc := by simpa using hL
  rw [strOfNums_size]
  rw [← this]
  exact ev_n (by omega) hn
 | cons x r ih =>
  intro p i acc hi e h0 h1 hL
  have hlen : xs.length = p.length + r.length + 1 := by rw [e]; simp; omega
  have hb : bt (strOfNums xs) i = x := by rw [e]; exact bt_str hi (hx x (by rw [e]; simp))
  rw [List.countP_cons] at hL
  have ih' := fun a h2 h3 h4 => ih (p ++ [x]) (i + 1) a (by simp; omega) (by rw [e]; simp) h2 h3 h4
  apply ev_up
  simp only [laws_FnTracks.l2]
  rw [strOfNums_size, hb]
  refine ev_p (by omega) (ev_p (by omega) ?_)
  rw [w64 (n := i + 1) (by omega) (by omega), w64 (n := acc + 1) (by omega) (by omega)]
  refine ev_ite (fun h => ?_) (fun h => ?_)
  ·rw [if_pos (show big x = true from decide_eq_true (by omega))] at hL
   exact ih' (acc + 1) (by omega) (by omega) (by omega)
  ·rw [if_neg (by unfold big; rw [decide_eq_true_eq]; omega)] at hL
   exact ih' acc h0 (by omega) (by omega)
theorem fnTracks_j6 (l : List S32) (one : Bool) (text : ByteArray) (d : List Int) (hd : d.length ≤ 1000) (hn : Ev (fun k => laws_FnTracks.j7 k l one text false) true) : Ev (fun k => laws_FnTracks.j6 k l one text d (tracksUsedM d).2 (tracksUsedM d).1) true := by
 apply ev_up
 simp only [laws_FnTracks.j6]
 by_cases h : tracksM d = true
 ·have e : tracksUsedM d = (((usedS d).length : Int), true) := by unfold tracksUsedM; rw [if_pos h]
  have h1 : (usedS d).length ≤ d.length := by
   have := usedS_len d []
   simpa [usedS] using this
  rw [e]
  refine ev_p rfl (ev_n (by dsimp only; omega) (ev_ite (fun h0 => ?_) (fun _ => hn)))
  have h2 : ¬ 0 < d.length := fun hh => by
   have := usedS_pos hh
   dsimp only at h0
   omega
  rw [decide_eq_false (by omega)]
  exact hn
 ·have e : tracksUsedM d = (0, false) := by unfold tracksUsedM; rw [if_neg h]
  rw [e]
  exact ev_n (by simp) hn
theorem fnTracks_l1 (l : List S32) (one : Bool) (text : ByteArray) (d : List Int) (seven : Bool) (used : Int) (c : List Int) (h count : Int) (hh : 1 ≤ h ∧ h ≤ 20) (hc : ∀ x ∈ c, 0 ≤ x ∧ x ≤ 19) (hcl : c.length ≤ 20) (hcount : ∀ y ∈ c.map (· / h), y < count)
  (hn : Ev (fun k => laws_FnTracks.j6 k l one text d seven used) true) (r : List Int) : ∀ (p : List Int) (i : Int), i = p.length → c = p ++ r →
  Ev (fun k => laws_FnTracks.l1 k l one text c h count d seven used (c.map (· / h)) (c.map (· / h)).length i) true := by
 induction r with
 | nil =>
  intro p i hi e
  have hlen : c.length = p.length := by rw [e]; simp
  apply ev_up
  simp only [laws_FnTracks.l1]
  exact ev_n (by rw [List.length_map]; omega) hn
 | cons x r ih =>
  intro p i hi e
  have hlen : c.length = p.length + r.length + 1 := by rw [e]; simp; omega
  have hx : rd c i = x := by rw [e]; exact rdA hi
  have hm : rd (c.map (· / h)) i = x / h := by
   rw [e, List.map_append, List.map_cons]
   exact rdA (by rw [List.length_map]; exact hi)
  have hxb := hc x (by rw [e]; simp)
  have hcx := hcount (x / h) (List.mem_map.2 ⟨x, by rw [e]; simp, rfl⟩)
  have hd0 : 0 ≤ x / h := Int.ediv_nonneg hxb.1 (by omega)
  have hd1 : x / h ≤ x := Int.ediv_le_self h hxb.1
  have ih' := ih (p ++ [x]) (i + 1) (by simp; omega) (by rw [e]; simp)
  apply ev_up
  simp only [laws_FnTracks.l1]
  have hml : (c.map (· / h)).length = c.length := List.length_map _
  refine ev_p (by omega) (ev_p (by omega) (ev_p (by omega) (ev_p (by omega) (ev_n (by omega) ?_))))
  rw [hm, hx, Int.tdiv_eq_ediv_of_nonneg hxb.1, w64 (n := x / h) (by omega) (by omega), w64 (n := i + 1) (by omega) (by omega)]
  exact ev_p rfl (ev_n (by omega) ih')
theorem fnTracks_j4 (l : List S32) (one : Bool) (text : ByteArray) (d : List Int) (seven : Bool) (used : Int) (c : List Int) (h : Int) (hn : Ev (fun k => laws_FnTracks.j6 k l one text d seven used) true) :
  Ev (fun k => laws_FnTracks.j4 k l one text c h (layersM c h).2.2 (layersM c h).1 (layersM c h).2.1 d seven used) true := by
 apply ev_up
 simp only [laws_FnTracks.j4]
 by_cases hc : tracksM c = true ∧ 1 ≤ h ∧ h ≤ 20
 ·have e : layersM c h = (c.map (· / h), greatM (-1) (c.map (· / h)) + 1, true) := by unfold layersM; rw [if_pos hc]
  obtain ⟨hb, ht⟩ := tracksM_bounds hc.1
  rw [e]
  refine ev_p rfl (fnTracks_l1 l one text d seven used c h _ hc.2 ht hb (fun y hy => ?_) hn c [] 0 rfl rfl)
  have := (greatM_ge (c.map (· / h)) (-1)).2 y hy
  show y < greatM (-1) (c.map (· / h)) + 1
  omega
 ·have e : layersM c h = ([], 0, false) := by unfold layersM; rw [if_neg hc]
  rw [e]
  exact ev_n (by simp) hn
theorem fnTracks_l0 (l : List S32) (one : Bool) (text : ByteArray) (d : List Int) (seven : Bool) (used : Int) (c : List Int) (h : Int) (five : Bool) (layers : List Int) (count : Int) (a : List S32) (b free : List Int) (w : S32) (ha : a.length ≤ 1000) (hb : b.length ≤ 1000) (hf : free.length ≤ 100000)
  (hk : ∀ t, t ∈ free → (isRoutingM (a ++ [w]) (b ++ [t])).2 = true → (isRoutingM (a ++ [w]) (b ++ [t])).1 = true) (hn : Ev (fun k => laws_FnTracks.j4 k l one text c h five layers count d seven used) true) (dd : Nat) : ∀ x : Int, x + dd = 20 → 0 ≤ x →
  Ev (fun k => laws_FnTracks.l0 k l one text b free c h five layers count d seven used (a ++ [w]) x) true := by
 induction dd with
 | zero =>
  intro x hx h0
  apply ev_up
  simp only [laws_FnTracks.l0]
  exact ev_n (by omega) hn
 | succ dd ih =>
  intro x hx h0
  have ih' := ih (x + 1) (by omega) (by omega)
  have hi := impl_IsRouting_ev (a ++ [w]) (b ++ [x]) (by simp; omega) (by simp; omega)
  have hs := spec_IsRouting_ev (a ++ [w]) (b ++ [x]) (by simp; omega) (by simp; omega)
  have hkx := hk x
  generalize isRoutingM (a ++ [w]) (b ++ [x]) = R at hi hs hkx
  apply ev_up
  simp only [laws_FnTracks.l0, Option.bind_some, List.nil_append]
  refine ev_p (by omega) (ev_p (by simp; omega) (ev_p (by simp; omega) (Ev.bind hi (ev_p (by simp; omega) (ev_p (by simp; omega) (Ev.bind hs ?_))))))
  apply ev_up
  simp only [laws_FnTracks.j3]
  rw [w64 (n := x + 1) (by omega) (by omega)]
  refine ev_n (by simp) (ev_n (by simp) (ev_ite (fun h2 => Ev.bind (qHas_ev free x (by omega)) (ev_ite (fun h3 => ev_p (hkx (of_decide_eq_true h3) h2) ih') (fun _ => ih'))) (fun _ => ih')))
theorem fnTracks_j1 (l : List S32) (one : Bool) (text : ByteArray) (d : List Int) (seven : Bool) (used : Int) (c : List Int) (h : Int) (five : Bool) (layers : List Int) (count : Int) (a : List S32) (b free : List Int) (x y : Int) (go : Bool) (ha : a.length ≤ 1000) (hb : b.length ≤ 1000) (hf : free.length ≤ 100000)
  (hk : go = true → ∀ t, t ∈ free → (isRoutingM (a ++ [⟨x, y⟩]) (b ++ [t])).2 = true → (isRoutingM (a ++ [⟨x, y⟩]) (b ++ [t])).1 = true) (hn : Ev (fun k => laws_FnTracks.j4 k l one text c h five layers count d seven used) true) :
  Ev (fun k => laws_FnTracks.j1 k l one text a b free c h five layers count d seven used go x y) true := by
 apply ev_up
 simp only [laws_FnTracks.j1, Option.bind_some, List.nil_append]
 refine ev_ite (fun hg => ?_) (fun _ => hn)
 refine ev_p (by simp; omega) (ev_p (by simp; omega) ?_)
 exact fnTracks_l0 l one text d seven used c h five layers count a b free ⟨x, y⟩ ha hb hf (hk hg) hn 20 0 (by omega) (by omega)
theorem fnTracks_j0 (l : List S32) (one : Bool) (text : ByteArray) (d : List Int) (seven : Bool) (used : Int) (c : List Int) (h : Int) (five : Bool) (layers : List Int) (count : Int) (a : List S32) (b : List Int) (x y : Int) (ha : a.length ≤ 1000) (hb : b.length ≤ 1000)
  (hn : Ev (fun k => laws_FnTracks.j4 k l one text c h five layers count d seven used) true) :
  Ev (fun k => laws_FnTracks.j0 k l one text a b (freeM a b x y).2 (freeM a b x y).1 c h five layers count d seven used false x y) true := by
 have hfl := freeM_length a b x y
 apply ev_up
 simp only [laws_FnTracks.j0]
 refine ev_n (by simp) (ev_ite (fun h3 => ?_) (fun _ => ?_))
 ·refine fnTracks_j1 l one text d seven used c h five layers count a b _ x y _ ha hb (by omega) (fun _ t ht hr => ?_) hn
  have hok : freeOk a b x y := Classical.byContradiction fun hh => by
   unfold freeM at h3
   rw [if_neg hh] at h3
   exact absurd h3 (by decide)
  exact free_keeps hok ht hr
 ·exact fnTracks_j1 l one text d seven used c h five layers count a b _ x y false ha hb (by omega) (fun hh => absurd hh (by decide)) hn
theorem chM_chars (l : List S32) (tr : List Int) (t c d : Nat) : ∀ (a : Int) (j : Nat), 0 ≤ a ∧ a ≤ 255 → j + d ≤ 100 → 0 ≤ chM l tr t c a j d ∧ chM l tr t c a j d ≤ 255 := by
 induction d with
 | zero => intro a j ha _; exact ha
 | succ d ih =>
  intro a j ha hj
  rw [chM]
  refine ih _ (j + 1) ?_ (by omega)
  split <;> omega
theorem rowM_chars (l : List S32) (tr : List Int) (hl : l.length ≤ 20) (t d : Nat) : ∀ c, ∀ x ∈ rowM l tr t c d, 0 ≤ x ∧ x ≤ 255 := by
 induction d with
 | zero => intro c x hx; simp [rowM] at hx
 | succ d ih =>
  intro c x hx
  rw [rowM] at hx
  rcases List.mem_cons.1 hx with e | e
  ·rw [e]
   exact chM_chars l tr t c l.length 46 0 (by omega) (by omega)
  ·exact ih (c + 1) x e
theorem txtR_chars (l : List S32) (tr : List Int) (hl : l.length ≤ 20) (W d : Nat) : ∀ t, (∀ x ∈ txtR l tr W t d, 0 ≤ x ∧ x ≤ 255) ∧ (txtR l tr W t d).length = d * (W + 1) := by
 induction d with
 | zero => intro t; exact ⟨fun x hx => by simp [txtR] at hx, by simp [txtR]⟩
 | succ d ih =>
  intro t
  obtain ⟨h1, h2⟩ := ih (t + 1)
  rw [txtR]
  refine ⟨fun x hx => ?_, ?_⟩
  ·rcases List.mem_append.1 hx with e | e
   ·exact rowM_chars l tr hl t W 0 x e
   ·rcases List.mem_cons.1 e with e | e
    ·rw [e]; omega
    ·exact h1 x e
  ·rw [List.length_append, List.length_cons, h2, rowM_length, Nat.succ_mul]
   omega
theorem sum_wires (l : List S32) (hg : ∀ w ∈ l, goodWire w = true) (r : List S32) : ∀ p, l = p ++ r → ((sumN (fun j => ((rd_T32 l (j : Int)).f1 - (rd_T32 l (j : Int)).f0 + 1).toNat) p.length r.length : Nat) : Int) = sumW r := by
 induction r with
 | nil => intro p _; rfl
 | cons w r ih =>
  intro p e
  have hx : rd_T32 l (p.length : Int) = w := by rw [e]; exact rdWireA rfl
  have hw := of_decide_eq_true (hg w (by rw [e]; simp))
  have hs : sumW (w :: r) = w.f1 - w.f0 + 1 + sumW r := by unfold sumW; rw [List.map_cons, List.sum_cons]
  have ih' := ih (p ++ [w]) (by rw [e]; simp)
  rw [List.length_append, List.length_singleton] at ih'
  rw [List.length_cons, sumN, hx, hs]
  omega
theorem fnTracks_text {l : List S32} {tr : List Int} (h : rtOk l tr) : Ev (fun k => laws_FnTracks.j7 k l true (rtextM l tr).1 false) true := by
 have e : rtextM l tr = (strOfNums (txtR l tr (greatM (-1) (l.map (·.f1)) + 1).toNat 0 (greatM (-1) tr + 1).toNat), true) := by unfold rtextM; rw [if_pos h]
 obtain ⟨⟨hc, ht, hlen⟩, hr⟩ := h
 obtain ⟨h20, hg⟩ := chanM_of hc
 have hb := (tracksM_bounds ht).2
 obtain ⟨N, hN, hN1⟩ := great_nat ht
 have hW := greatM_bound (l := l.map (·.f1)) (g := -1) (by omega) (by omega) (fun x hx => by
  obtain ⟨w, hw, rfl⟩ := List.mem_map.1 hx
  exact chan_f1 hc w hw)
 have htot := letters_total hg hlen hb hr
 rw [e]
 dsimp only
 obtain ⟨W, hWe⟩ : ∃ W, W = (greatM (-1) (l.map (·.f1)) + 1).toNat := ⟨_, rfl⟩
 obtain ⟨T, hTe⟩ : ∃ T, T = (greatM (-1) tr + 1).toNat := ⟨_, rfl⟩
 rw [← hWe, ← hTe] at htot ⊢
 obtain ⟨h1, h2⟩ := txtR_chars l tr h20 W T 0
 have h3 : T * (W + 1) ≤ 1001 * 1002 := Nat.mul_le_mul (by omega) (by omega)
 have hs := sum_wires l hg l [] rfl
 rw [List.length_nil] at hs
 apply ev_up
 simp only [laws_FnTracks.j7]
 refine ev_n (by simp) (ev_p (by trivial) ?_)
 exact fnTracks_l2 l _ h1 (by omega) (sumW l) (fnTracks_l3 l h20 hg (sumW l) l [] 0 0 rfl rfl (by omega) (by omega) (by omega)) (txtR l tr W 0 T) [] 0 0 rfl rfl (by omega) (by omega) (by rw [htot]; omega)
set_option maxHeartbeats 1600000 in
theorem FnTracks : laws_FnTracks.Pure := by
 intro l0 l1 _ h0 hb0 _ h1 hb1
 have hc0 := bytes_of h0 hb0
 have hc1 := bytes_of h1 hb1
 obtain ⟨l, tr, hd, hl, htr⟩ := DrawIsRouting_ok hc0
 obtain ⟨a, b, x, y, hd2, ha, hb⟩ := DrawFreeTracks_ok hc1
 obtain ⟨c, h, hd3, hc⟩ := DrawLayersOf_ok hc1
 obtain ⟨d, hd4, hdl⟩ := DrawTracksUsed_ok hc1
 apply ev_get
 unfold laws_FnTracks.f
 refine ev_ite (fun _ => Ev.now _) (fun _ => ?_)
 have hri := impl_IsRouting_ev l tr (by omega) (by omega)
 have hrs := spec_IsRouting_ev l tr (by omega) (by omega)
 have hti := impl_RoutingText_ev l tr (by omega) (by omega)
 have hts := spec_RoutingText_ev l tr (by omega) (by omega)
 have hfi := impl_FreeTracks_ev a b x y (by omega) (by omega)
 have hfs := spec_FreeTracks_ev a b x y (by omega) (by omega)
 have hli := impl_LayersOf_ev c h (by omega)
 have hls := spec_LayersOf_ev c h (by omega)
 have hui := impl_TracksUsed_ev d (by omega)
 have hus := spec_TracksUsed_ev d (by omega)
 have hfl := freeM_length a b x y
 have hll := layersM_length c h
 refine Ev.bind hd (Ev.bind hri (Ev.bind hrs (Ev.bind hti (Ev.bind hts (Ev.bind hd2 (Ev.bind hfi (Ev.bind hfs (Ev.bind hd3 (Ev.bind hli (Ev.bind hls (Ev.bind hd4 (Ev.bind hui (Ev.bind hus ?_)))))))))))))
 dsimp only
 refine ev_n (by simp) (ev_n (by simp) (ev_n (by simp) (ev_p rfl (ev_n (by simp) (Ev.bind (qInts_self _ (by omega)) (ev_p rfl (ev_n (by simp) (Ev.bind (qInts_self _ (by omega)) (ev_p rfl (ev_p rfl (ev_n (by simp) (ev_p rfl ?_))))))))))))
 have rest : ∀ one text, Ev (fun k => laws_FnTracks.j7 k l one text false) true → Ev (fun k => laws_FnTracks.j0 k l one text a b (freeM a b x y).2 (freeM a b x y).1 c h (layersM c h).2.2 (layersM c h).1 (layersM c h).2.1 d (tracksUsedM d).2 (tracksUsedM d).1 false x y) true := fun one text h7 =>
  fnTracks_j0 l one text d _ _ c h _ _ _ a b x y ha hb (fnTracks_j4 l one text d _ _ c h (fnTracks_j6 l one text d (by omega) h7))
 by_cases hr : rtOk l tr
 ·have e1 : isRoutingM l tr = (true, true) := by unfold isRoutingM; rw [if_pos hr.1, hr.2]
  have e2 : (rtextM l tr).2 = true := by unfold rtextM; rw [if_pos hr]
  have h7 := fnTracks_text hr
  rw [e1, e2]
  exact ev_p rfl (rest true _ h7)
 ·have e2 : rtextM l tr = (⟨#[]⟩, false) := by unfold rtextM; rw [if_neg hr]
  have h7 : ∀ text, Ev (fun k => laws_FnTracks.j7 k l false text false) true := fun text => by
   apply ev_up
   simp only [laws_FnTracks.j7]
   exact ev_n (by simp) (ev_n (by simp) (Ev.now _))
  rw [e2]
  refine ev_ite (fun hh => ?_) (fun hh => ?_)
  ·have e3 : (isRoutingM l tr).1 = false := by
    unfold isRoutingM at hh ⊢
    split at hh
    ·rename_i hc2
     rw [if_pos hc2]
     cases hq : routM l tr with
     | false => rfl
     | true => exact absurd ⟨hc2, hq⟩ hr
    ·simp at hh
   rw [e3]
   exact rest false _ (h7 _)
  ·exact rest false _ (h7 _)
end Go.Proofs.Ytbkighlfgaifeaa.Pure
