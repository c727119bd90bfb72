/- The pure part of the law FnRoutings: what the program and the reference compute is the same, for all arguments. Conditions: the numbers are of Go's int, the lengths of slices are. -/
import Derived.Test.YtbkighlfgaifeaaSFnRoutingsx13
import Derived.Test.YtbkighlfgaifeaaVRoKit
set_option linter.unusedVariables false
set_option linter.unusedSimpArgs false
namespace Go.Proofs.Ytbkighlfgaifeaa.Pure
open Go.RowKit Go.Proofs.Ytbkighlfgaifeaa.QFnRoutings Go.Proofs.YtbkighlfgaifeaaW.PrintWords Go.Proofs.YtbkighlfgaifeaaW.PrintLast Go.Proofs.Ytbkighlfgaifeaa.Open Go.Proofs.Ytbkighlfgaifeaa.Kit

/-! #### rdMem -/
theorem rd_mem {ds : List Int} {i : Int} (h0 : 0 ≤ i) (h1 : i < ds.length) : rd ds i ∈ ds := by
  obtain ⟨n, rfl⟩ := nat_of h0
  have hn : n < ds.length := by omega
  rw [rdN hn]
  exact List.getElem_mem hn


/-! #### drawD -/
/-- What a cursor reads: bytes. -/
def bytesOk (code : List Int) : Prop := code.length ≤ 140737488355328 ∧ ∀ x ∈ code, 0 ≤ x ∧ x ≤ 255
theorem bits255 (y : Int) : 0 ≤ wrap64 (Go.bits .and .u64 y 255) ∧ wrap64 (Go.bits .and .u64 y 255) ≤ 255 := by
  show 0 ≤ wrap64 (IntKind.u64.wrap ((BitVec.ofInt 64 y &&& BitVec.ofInt 64 255).toNat : Int)) ∧ wrap64 (IntKind.u64.wrap ((BitVec.ofInt 64 y &&& BitVec.ofInt 64 255).toNat : Int)) ≤ 255
  have h : (BitVec.ofInt 64 y &&& BitVec.ofInt 64 255).toNat ≤ 255 := by
    rw [BitVec.toNat_and]
    exact Nat.le_trans Nat.and_le_right (by decide)
  generalize (BitVec.ofInt 64 y &&& BitVec.ofInt 64 255).toNat = m at h
  rw [u64w (by omega) (by omega), w64 (n := (m : Int)) (by omega) (by omega)]
  omega
theorem next_ok {code : List Int} (hc : bytesOk code) (at_ mix : Int) (h0 : 0 ≤ at_) (h1 : at_ ≤ 1000000000) : ∃ r m, spec_l1Cur_next.f code at_ mix = some (r, at_ + 1, m) ∧ 0 ≤ r ∧ r ≤ 255 := by
  unfold spec_l1Cur_next.f
  rw [w64 (n := at_ + 1) (by omega) (by omega)]
  by_cases c1 : at_ < (code.length : Int)
  · have hm := hc.2 (rd code at_) (rd_mem h0 c1)
    rw [if_pos c1, if_pos h0, if_pos (by omega), w64 (n := rd code at_) (by omega) (by omega)]
    exact ⟨_, _, rfl, hm.1, hm.2⟩
  · rw [if_neg c1, if_neg (by omega)]
    exact ⟨_, _, rfl, (bits255 _).1, (bits255 _).2⟩
theorem pick_ok {code : List Int} (hc : bytesOk code) (at_ mix n : Int) (h0 : 0 ≤ at_) (h1 : at_ ≤ 999999990) : ∃ r a m, spec_l1Cur_pick.f code at_ mix n = some (r, a, m) ∧ (at_ ≤ a ∧ a ≤ at_ + 2) ∧ 0 ≤ r ∧ (r = 0 ∨ r < n) := by
  unfold spec_l1Cur_pick.f
  by_cases c : n ≤ 1
  · rw [if_pos c]
    exact ⟨0, at_, mix, rfl, by omega, by omega, .inl rfl⟩
  · rw [if_neg c]
    obtain ⟨r, m, e, hr0, hr1⟩ := next_ok hc at_ mix h0 (by omega)
    rw [e, Option.bind_some]
    by_cases c2 : n > 200
    · obtain ⟨r2, m2, e2, hs0, hs1⟩ := next_ok hc (at_ + 1) m (by omega) (by omega)
      rw [if_pos c2, e2, Option.bind_some, if_neg (by omega)]
      dsimp only
      rw [w64 (n := r * 256) (by omega) (by omega), w64 (n := r * 256 + r2) (by omega) (by omega)]
      exact ⟨_, _, _, rfl, by omega, Int.tmod_nonneg _ (by omega), .inr (Int.tmod_lt_of_pos _ (by omega))⟩
    · rw [if_neg c2, if_neg (by omega)]
      dsimp only
      exact ⟨_, _, _, rfl, by omega, Int.tmod_nonneg _ (by omega), .inr (Int.tmod_lt_of_pos _ (by omega))⟩
theorem among_ok {code : List Int} (hc : bytesOk code) (at_ mix : Int) (l : List Int) (hl : 0 < l.length) (h0 : 0 ≤ at_) (h1 : at_ ≤ 999999990) : ∃ r a m, spec_l1Cur_among.f code at_ mix l = some (r, a, m) ∧ (at_ ≤ a ∧ a ≤ at_ + 2) ∧ r ∈ l := by
  unfold spec_l1Cur_among.f
  obtain ⟨r, a, m, e, ha, hr0, hr1⟩ := pick_ok hc at_ mix (l.length : Int) h0 h1
  have hr2 : r < (l.length : Int) := by omega
  rw [e, Option.bind_some]
  dsimp only
  rw [if_pos hr0, if_pos hr2]
  exact ⟨_, _, _, rfl, ha, rd_mem hr0 hr2⟩
theorem one_ok {code : List Int} (hc : bytesOk code) (at_ mix n : Int) (h0 : 0 ≤ at_) (h1 : at_ ≤ 999999990) : ∃ r a m, spec_l1Cur_one.f code at_ mix n = some (r, a, m) ∧ (at_ ≤ a ∧ a ≤ at_ + 2) := by
  unfold spec_l1Cur_one.f
  obtain ⟨r, a, m, e, ha, _⟩ := pick_ok hc at_ mix n h0 h1
  rw [e, Option.bind_some]
  exact ⟨_, _, _, rfl, ha⟩
theorem bytes_of {l : List Int} (h1 : l.length * 1 ≤ 140737488351232) (h2 : ∀ x ∈ l, (Lit.int .u8 x).wf = true) : bytesOk l := by
  refine ⟨by omega, fun x hx => ?_⟩
  have := h2 x hx
  simp [Lit.wf, IntKind.min, IntKind.max, IntKind.bits, IntKind.signed] at this
  omega

/-! #### chanD -/
theorem cwLoop_ok {code : List Int} (hc : bytesOk code) (wide : Int) : ∀ (d : Nat) (l : List S32) (a m : Int), 0 ≤ a → a ≤ 999990000 → d ≤ 1000 → a + 6 * d ≤ 999990000 → ∃ l' a' m', cwLoop code wide d l a m = some (l', a', m') ∧ (a ≤ a' ∧ a' ≤ a + 6 * d) ∧ l'.length = l.length + d := by
  intro d
  induction d with
  | zero => intro l a m h0 _ _ _; exact ⟨l, a, m, rfl, by omega, by omega⟩
  | succ d ih =>
    intro l a m h0 h1 hd hs
    rw [cwLoop]
    obtain ⟨b, a1, m1, e1, ha1, _⟩ := pick_ok hc a m wide h0 (by omega)
    rw [e1, Option.bind_some]
    dsimp only
    obtain ⟨p, a2, m2, e2, ha2, _⟩ := pick_ok hc a1 m1 7 (by omega) (by omega)
    rw [e2, Option.bind_some]
    dsimp only
    obtain ⟨q, a3, m3, e3, ha3, _⟩ := among_ok hc a2 m2 [0, 1, 2, 5, p] (by simp) (by omega) (by omega)
    rw [e3, Option.bind_some]
    dsimp only
    obtain ⟨l', a', m', e, ha, hl⟩ := ih (l ++ [(⟨b, wrap64 (b + q)⟩ : S32)]) a3 m3 (by omega) (by omega) (by omega) (by omega)
    exact ⟨l', a', m', e, by omega, by rw [hl, List.length_append, List.length_singleton]; omega⟩
theorem cwSw_ok {code : List Int} (hc : bytesOk code) (l : List S32) (q sw a m : Int) (h0 : 0 ≤ a) (h1 : a ≤ 999999990) : ∃ l' a' m', cwSw code l q sw a m = some (l', a', m') ∧ (a ≤ a' ∧ a' ≤ a + 2) ∧ l'.length = l.length := by
  unfold cwSw
  split
  · obtain ⟨z, a1, m1, e1, ha1, _⟩ := among_ok hc a m [-1, (rd_T32 l q).f1, wrap64 ((rd_T32 l q).f1 + 1)] (by simp) h0 h1
    rw [e1, Option.bind_some]
    exact ⟨_, _, _, rfl, ha1, by simp⟩
  · split
    · obtain ⟨z, a1, m1, e1, ha1, _⟩ := among_ok hc a m [wrap64 ((rd_T32 l q).f0 - 1), 50, 51] (by simp) h0 h1
      rw [e1, Option.bind_some]
      exact ⟨_, _, _, rfl, ha1, by simp⟩
    · exact ⟨l, a, m, rfl, by omega, rfl⟩
theorem cwEnd_ok {code : List Int} (hc : bytesOk code) (n : Int) (l : List S32) (hl : l.length = n.toNat) (a m : Int) (h0 : 0 ≤ a) (h1 : a ≤ 999999900) : ∃ l' a' m', cwEnd code n l a m = some (l', a', m') ∧ (a ≤ a' ∧ a' ≤ a + 6) ∧ l'.length = l.length := by
  unfold cwEnd
  split
  · rename_i hn
    obtain ⟨q, a1, m1, e1, ha1, hq0, hq1⟩ := pick_ok hc a m n h0 (by omega)
    rw [e1, Option.bind_some]
    dsimp only
    rw [if_pos ⟨hq0, by omega⟩]
    obtain ⟨s, a2, m2, e2, ha2, _⟩ := pick_ok hc a1 m1 24 (by omega) (by omega)
    rw [e2, Option.bind_some]
    dsimp only
    obtain ⟨l', a', m', e, ha, hl⟩ := cwSw_ok hc l q s a2 m2 (by omega) (by omega)
    exact ⟨l', a', m', e, by omega, hl⟩
  · exact ⟨l, a, m, rfl, by omega, rfl⟩
theorem cwBody_ok {code : List Int} (hc : bytesOk code) (n a m : Int) (hn : n ≤ 1000) (h0 : 0 ≤ a) (h1 : a ≤ 1000000) : ∃ l' a' m', cwBody code n a m = some (l', a', m') ∧ (a ≤ a' ∧ a' ≤ a + 7000) ∧ l'.length ≤ 1000 := by
  unfold cwBody
  obtain ⟨w, a1, m1, e1, ha1, _⟩ := among_ok hc a m [8, 16, 44] (by simp) h0 (by omega)
  rw [e1, Option.bind_some]
  dsimp only
  rw [if_pos hn]
  obtain ⟨l, a2, m2, e2, ha2, hl2⟩ := cwLoop_ok hc w n.toNat [] a1 m1 (by omega) (by omega) (by omega) (by omega)
  rw [e2, Option.bind_some]
  dsimp only
  rw [List.length_nil, Nat.zero_add] at hl2
  obtain ⟨l', a', m', e, ha, hl⟩ := cwEnd_ok hc n l hl2 a2 m2 (by omega) (by omega)
  exact ⟨l', a', m', e, by omega, by omega⟩
theorem channelWires_ok {code : List Int} (hc : bytesOk code) (a m : Int) (h0 : 0 ≤ a) (h1 : a ≤ 900000) : ∃ l' a' m', spec_l1Cur_channelWires.f code a m = some (l', a', m') ∧ (a ≤ a' ∧ a' ≤ a + 8000) ∧ l'.length ≤ 1000 := by
  unfold spec_l1Cur_channelWires.f
  obtain ⟨b, a1, m1, e1, ha1, hb0, hb1⟩ := pick_ok hc a m 8 h0 (by omega)
  rw [e1, Option.bind_some]
  dsimp only
  obtain ⟨o, a2, m2, e2, ha2⟩ := one_ok hc a1 m1 20 (by omega) (by omega)
  rw [e2, Option.bind_some]
  dsimp only
  by_cases c : o = true
  · rw [if_pos c]
    obtain ⟨x, a3, m3, e3, ha3, hx0, hx1⟩ := pick_ok hc a2 m2 2 (by omega) (by omega)
    rw [e3, Option.bind_some]
    dsimp only
    rw [w64 (n := 20 + x) (by omega) (by omega)]
    obtain ⟨l', a', m', e, ha, hl⟩ := cwBody_ok hc (20 + x) a3 m3 (by omega) (by omega) (by omega)
    exact ⟨l', a', m', e, by omega, hl⟩
  · rw [if_neg c]
    obtain ⟨l', a', m', e, ha, hl⟩ := cwBody_ok hc b a2 m2 (by omega) (by omega) (by omega)
    exact ⟨l', a', m', e, by omega, hl⟩
theorem DrawChannel_ok {code : List Int} (hc : bytesOk code) : ∃ l', spec_DrawLeftEdge.f code = some l' ∧ l'.length ≤ 1000 := by
  unfold spec_DrawLeftEdge.f spec_DrawAreChannelWires.f
  obtain ⟨l', a', m', e, _, hl⟩ := channelWires_ok hc 0 0 (by omega) (by omega)
  rw [e]
  exact ⟨l', rfl, hl⟩
theorem DrawDensityAt_ok {code : List Int} (hc : bytesOk code) : ∃ l' x, spec_DrawDensityAt.f code = some (l', x) ∧ l'.length ≤ 1000 := by
  unfold spec_DrawDensityAt.f
  obtain ⟨l', a1, m1, e1, ha1, hl⟩ := channelWires_ok hc 0 0 (by omega) (by omega)
  rw [e1, Option.bind_some]
  dsimp only
  obtain ⟨x2, a2, m2, e2, ha2, _⟩ := pick_ok hc a1 m1 20 (by omega) (by omega)
  rw [e2, Option.bind_some]
  dsimp only
  obtain ⟨x3, a3, m3, e3, ha3, _⟩ := pick_ok hc a2 m2 20 (by omega) (by omega)
  rw [e3, Option.bind_some]
  dsimp only
  obtain ⟨x4, a4, m4, e4, ha4, _⟩ := among_ok hc a3 m3 [51, (-1)] (by simp) (by omega) (by omega)
  rw [e4, Option.bind_some]
  dsimp only
  obtain ⟨x5, a5, m5, e5, ha5, _⟩ := among_ok hc a4 m4 [0, 3, x2, x3, 50, x4] (by simp) (by omega) (by omega)
  rw [e5, Option.bind_some]
  exact ⟨_, _, rfl, hl⟩

/-! #### qInts -/
theorem qInts_l0 (l : List Int) (hl : l.length ≤ 9223372036854775806) (r : List Int) : ∀ (p : List Int) (i : Int), i = p.length → l = p ++ r → Ev (fun k => laws_qInts.l0 k l l l.length i) true := by
  induction r with
  | nil =>
    intro p i hi e
    have hlen : l.length = p.length := by rw [e]; simp
    apply ev_up
    simp only [laws_qInts.l0]
    exact ev_n (by omega) (Ev.now _)
  | cons x r ih =>
    intro p i hi e
    have hlen : l.length = p.length + r.length + 1 := by rw [e]; simp; omega
    have ih' := ih (p ++ [x]) (i + 1) (by simp; omega) (by rw [e]; simp)
    apply ev_up
    simp only [laws_qInts.l0]
    refine ev_p (by omega) (ev_p (by omega) (ev_p (by omega) (ev_p (by omega) (ev_p (by trivial) ?_))))
    rw [w64 (n := i + 1) (by omega) (by omega)]
    exact ih'
theorem qInts_self (l : List Int) (hl : l.length ≤ 9223372036854775806) : Ev (fun k => laws_qInts.f k l l) true := by
  unfold laws_qInts.f
  exact ev_p rfl (qInts_l0 l hl l [] 0 rfl rfl)

/-! #### rdII -/
theorem rdIIA {p r : List (List Int)} {x : List Int} {i : Int} (hi : i = p.length) : rd_L2 (p ++ x :: r) i = x := getDA hi

/-! #### qLists -/
theorem qLists_l0 (l : List (List Int)) (hl : l.length ≤ 9223372036854775806) (hy : ∀ y ∈ l, y.length ≤ 9223372036854775806) (r : List (List Int)) : ∀ (p : List (List Int)) (i : Int), i = p.length → l = p ++ r → Ev (fun k => laws_qLists.l0 k l l l.length i) true := by
  induction r with
  | nil =>
    intro p i hi e
    have hlen : l.length = p.length := by rw [e]; simp
    apply ev_up
    simp only [laws_qLists.l0]
    exact ev_n (by omega) (Ev.now _)
  | cons x r ih =>
    intro p i hi e
    have hlen : l.length = p.length + r.length + 1 := by rw [e]; simp; omega
    have hx : rd_L2 l i = x := by rw [e]; exact getDA hi
    have ih' := ih (p ++ [x]) (i + 1) (by simp; omega) (by rw [e]; simp)
    apply ev_up
    simp only [laws_qLists.l0]
    refine ev_p (by omega) (ev_p (by omega) (ev_p (by omega) (ev_p (by omega) ?_)))
    rw [hx, w64 (n := i + 1) (by omega) (by omega)]
    exact Ev.bind (qInts_self x (hy x (by rw [e]; simp))) (ev_p rfl ih')
theorem qLists_self (l : List (List Int)) (hl : l.length ≤ 9223372036854775806) (hy : ∀ y ∈ l, y.length ≤ 9223372036854775806) : Ev (fun k => laws_qLists.f k l l) true := by
  unfold laws_qLists.f
  exact ev_p rfl (qLists_l0 l hl hy l [] 0 rfl rfl)

/-! #### qHas -/
theorem qHas_l0 (l : List Int) (v : Int) (hl : l.length ≤ 9223372036854775806) (r : List Int) : ∀ (p : List Int) (i : Int), i = p.length → l = p ++ r → Ev (fun k => laws_qHas.l0 k v l l.length i) (decide (v ∈ r)) := by
  induction r with
  | nil =>
    intro p i hi e
    have hlen : l.length = p.length := by rw [e]; simp
    apply ev_up
    simp only [laws_qHas.l0]
    refine ev_n (by omega) (ev_eq (Ev.now _) ?_)
    simp
  | cons x r ih =>
    intro p i hi e
    have hlen : l.length = p.length + r.length + 1 := by rw [e]; simp; omega
    have hx : rd l i = x := by rw [e]; exact rdA hi
    have ih' := ih (p ++ [x]) (i + 1) (by simp; omega) (by rw [e]; simp)
    apply ev_up
    simp only [laws_qHas.l0]
    refine ev_p (by omega) (ev_p (by omega) (ev_p (by omega) ?_))
    rw [hx, w64 (n := i + 1) (by omega) (by omega)]
    refine ev_ite (fun h => ?_) (fun h => ?_)
    · refine ev_eq (Ev.now _) ?_
      simp [h]
    · refine ev_eq ih' ?_
      have h2 : ¬ v = x := fun hh => h hh.symm
      simp [h2]
theorem qHas_ev (l : List Int) (v : Int) (hl : l.length ≤ 9223372036854775806) : Ev (fun k => laws_qHas.f k l v) (decide (v ∈ l)) := by
  unfold laws_qHas.f
  exact qHas_l0 l v hl l [] 0 rfl rfl

/-! #### sortM -/
/-- Where x goes in a row that is told from its end. -/
def sinkR (c : Int → Int → Int) (x : Int) : List Int → List Int
  | [] => [x]
  | y :: r => if c x y < 0 then y :: sinkR c x r else x :: y :: r
def sortR (c : Int → Int → Int) (xs : List Int) : List Int := xs.foldl (fun acc x => sinkR c x acc) []
theorem sinkR_length (c : Int → Int → Int) (x : Int) : ∀ r : List Int, (sinkR c x r).length = r.length + 1 := by
  intro r
  induction r with
  | nil => rfl
  | cons y r ih => rw [sinkR]; split <;> simp [ih]
theorem sortR_snoc (c : Int → Int → Int) (xs : List Int) (x : Int) : sortR c (xs ++ [x]) = sinkR c x (sortR c xs) := by
  unfold sortR
  rw [List.foldl_append]
  rfl
theorem sortR_length (c : Int → Int → Int) (xs : List Int) : ∀ i, i ≤ xs.length → (sortR c (xs.take i)).length = i := by
  intro i
  induction i with
  | zero => intro _; simp [sortR]
  | succ i ih =>
    intro h
    rw [List.take_add_one, List.getElem?_eq_getElem h]
    show (sortR c (xs.take i ++ [xs[i]])).length = _
    rw [sortR_snoc, sinkR_length, ih (by omega)]
theorem isSink_eq (c : Int → Int → Int) (x : Int) : ∀ (r post : List Int), Sep.isSink c r.length (r.reverse ++ x :: post) = (sinkR c x r).reverse ++ post := by
  intro r
  induction r with
  | nil => intro post; rfl
  | cons y r ih =>
    intro post
    have e0 : (y :: r).reverse ++ x :: post = r.reverse ++ y :: x :: post := by simp
    have e1 : (y :: r).reverse ++ x :: post = (r.reverse ++ [y]) ++ x :: post := by simp
    have hl : r.reverse.length = r.length := by simp
    have h1 : rd ((y :: r).reverse ++ x :: post) (r.length : Int) = y := by rw [e0]; exact rdA (by simp)
    have h2 : rd ((y :: r).reverse ++ x :: post) ((r.length : Int) + 1) = x := by rw [e1]; exact rdA (by simp)
    rw [List.length_cons, Sep.isSink, h1, h2, sinkR]
    by_cases h : c x y < 0
    · rw [if_pos h, if_pos h]
      have hs : Sep.swp ((y :: r).reverse ++ x :: post) ((r.length : Int) + 1) = r.reverse ++ x :: y :: post := by
        unfold Sep.swp
        rw [show (r.length : Int) + 1 - 1 = (r.length : Int) by omega, h1, h2, e1, setB (by simp), show (r.reverse ++ [y]) ++ y :: post = r.reverse ++ y :: y :: post by simp, setB (by simp)]
      rw [hs, ih (y :: post)]
      simp
    · rw [if_neg h, if_neg h]
      simp
theorem isTo_eq (c : Int → Int → Int) (xs : List Int) : ∀ i, i ≤ xs.length → Sep.isTo c xs i = (sortR c (xs.take i)).reverse ++ xs.drop i := by
  intro i
  induction i with
  | zero => intro _; simp [Sep.isTo, sortR]
  | succ i ih =>
    intro h
    have hs := isSink_eq c xs[i] (sortR c (xs.take i)) (xs.drop (i + 1))
    rw [sortR_length c xs i (by omega)] at hs
    rw [Sep.isTo, ih (by omega), List.drop_eq_getElem_cons h, hs, List.take_add_one, List.getElem?_eq_getElem h]
    show _ = (sortR c (xs.take i ++ [xs[i]])).reverse ++ _
    rw [sortR_snoc]
theorem isTo_all (c : Int → Int → Int) (xs : List Int) : Sep.isTo c xs xs.length = (sortR c xs).reverse := by
  rw [isTo_eq c xs _ (Nat.le_refl _), List.take_length, List.drop_length, List.append_nil]
def ltO (F : Int → Int) (a b : Int) : Prop := F a < F b ∨ (F a = F b ∧ a < b)
theorem ltO_asymm {F : Int → Int} {a b : Int} (h1 : ltO F a b) (h2 : ltO F b a) : False := by
  unfold ltO at h1 h2
  omega
theorem ltO_trans {F : Int → Int} {a b c : Int} (h1 : ltO F a b) (h2 : ltO F b c) : ltO F a c := by
  unfold ltO at h1 h2 ⊢
  omega
theorem sinkR_mem (c : Int → Int → Int) (x z : Int) : ∀ r : List Int, z ∈ sinkR c x r ↔ z = x ∨ z ∈ r := by
  intro r
  induction r with
  | nil => simp [sinkR]
  | cons y r ih =>
    rw [sinkR]
    split
    · rw [List.mem_cons, ih, List.mem_cons]
      constructor
      · rintro (h | h | h)
        · exact .inr (.inl h)
        · exact .inl h
        · exact .inr (.inr h)
      · rintro (h | h | h)
        · exact .inr (.inl h)
        · exact .inl h
        · exact .inr (.inr h)
    · rw [List.mem_cons]
theorem sinkR_sorted (c : Int → Int → Int) (F : Int → Int) (x : Int) : ∀ r : List Int, (∀ y ∈ r, (c x y < 0 ↔ F x < F y) ∧ y < x) → r.Pairwise (fun a b => ltO F b a) → (sinkR c x r).Pairwise (fun a b => ltO F b a) := by
  intro r
  induction r with
  | nil => intro _ _; simp [sinkR]
  | cons y r ih =>
    intro hc h
    rw [List.pairwise_cons] at h
    obtain ⟨h1, h2⟩ := h
    obtain ⟨hcy, hyx⟩ := hc y List.mem_cons_self
    rw [sinkR]
    by_cases hlt : c x y < 0
    · rw [if_pos hlt, List.pairwise_cons]
      refine ⟨fun b hb => ?_, ih (fun z hz => hc z (List.mem_cons_of_mem _ hz)) h2⟩
      rcases (sinkR_mem c x b r).1 hb with rfl | hb
      · exact Or.inl (hcy.1 hlt)
      · exact h1 b hb
    · rw [if_neg hlt, List.pairwise_cons, List.pairwise_cons]
      have hyx2 : ltO F y x := by
        have : ¬ F x < F y := fun h => hlt (hcy.2 h)
        unfold ltO
        omega
      refine ⟨fun b hb => ?_, h1, h2⟩
      rcases List.mem_cons.1 hb with rfl | hb
      · exact hyx2
      · exact ltO_trans (h1 b hb) hyx2
theorem iota_snoc (i : Nat) : Sep.iota (i + 1) = Sep.iota i ++ [(i : Int)] := by
  have := Sep.iota_succ (i : Int) (by omega)
  rwa [show ((i : Int) + 1).toNat = i + 1 by omega, Int.toNat_natCast] at this
theorem sort_iota (c : Int → Int → Int) (F : Int → Int) (n : Nat) (hc : ∀ x y : Int, 0 ≤ x → x < n → 0 ≤ y → y < n → (c x y < 0 ↔ F x < F y)) : ∀ i, i ≤ n → (sortR c (Sep.iota i)).Pairwise (fun a b => ltO F b a) ∧ ∀ z, z ∈ sortR c (Sep.iota i) ↔ (0 ≤ z ∧ z < (i : Int)) := by
  intro i
  induction i with
  | zero =>
    intro _
    refine ⟨by simp [sortR, Sep.iota], fun z => ?_⟩
    simp [sortR, Sep.iota]
    try omega
  | succ i ih =>
    intro h
    obtain ⟨h1, h2⟩ := ih (by omega)
    rw [iota_snoc, sortR_snoc]
    refine ⟨sinkR_sorted c F i _ (fun y hy => ?_) h1, fun z => ?_⟩
    · have := (h2 y).1 hy
      exact ⟨hc i y (by omega) (by omega) (by omega) (by omega), by omega⟩
    · rw [sinkR_mem, h2]
      omega
theorem pw_unique (R : Int → Int → Prop) (has : ∀ a b, R a b → R b a → False) : ∀ l1 l2 : List Int, l1.Pairwise R → l2.Pairwise R → (∀ z, z ∈ l1 ↔ z ∈ l2) → l1 = l2 := by
  intro l1
  induction l1 with
  | nil =>
    intro l2 _ _ h
    cases l2 with
    | nil => rfl
    | cons b l2 => exact absurd ((h b).2 List.mem_cons_self) (by simp)
  | cons a l1 ih =>
    intro l2 h1 h2 h
    cases l2 with
    | nil => exact absurd ((h a).1 List.mem_cons_self) (by simp)
    | cons b l2 =>
      rw [List.pairwise_cons] at h1 h2
      have hab : a = b := by
        rcases List.mem_cons.1 ((h a).1 List.mem_cons_self) with e | ha
        · exact e
        · rcases List.mem_cons.1 ((h b).2 List.mem_cons_self) with e | hb
          · exact e.symm
          · exact (has _ _ (h1.1 b hb) (h2.1 a ha)).elim
      subst hab
      rw [ih l2 h1.2 h2.2 (fun z => ?_)]
      constructor
      · intro hz
        rcases List.mem_cons.1 ((h z).1 (List.mem_cons_of_mem _ hz)) with rfl | hz2
        · exact (has _ _ (h1.1 _ hz) (h1.1 _ hz)).elim
        · exact hz2
      · intro hz
        rcases List.mem_cons.1 ((h z).2 (List.mem_cons_of_mem _ hz)) with rfl | hz2
        · exact (has _ _ (h2.1 _ hz) (h2.1 _ hz)).elim
        · exact hz2
/-- The indices below n, by their keys 0, .., m - 1. -/
def bucks (F : Int → Int) (n : Nat) : Nat → List Int
  | 0 => []
  | m + 1 => bucks F n m ++ (Sep.iota n).filter (fun i => decide (F i = (m : Int)))
theorem iota_pw (n : Nat) : (Sep.iota n).Pairwise (· < ·) := by
  unfold Sep.iota
  rw [List.pairwise_map]
  exact List.pairwise_lt_range.imp (fun h => by omega)
theorem iota_mem' {n : Nat} {z : Int} : z ∈ Sep.iota n ↔ (0 ≤ z ∧ z < (n : Int)) := by
  refine ⟨Sep.iota_mem, fun h => ?_⟩
  unfold Sep.iota
  exact List.mem_map.2 ⟨z.toNat, List.mem_range.2 (by omega), by omega⟩
theorem bucks_mem (F : Int → Int) (n : Nat) : ∀ (m : Nat) (z : Int), z ∈ bucks F n m ↔ (0 ≤ z ∧ z < (n : Int) ∧ 0 ≤ F z ∧ F z < (m : Int)) := by
  intro m
  induction m with
  | zero => intro z; simp [bucks]; try omega
  | succ m ih =>
    intro z
    rw [bucks, List.mem_append, ih, List.mem_filter, iota_mem', decide_eq_true_eq]
    omega
theorem bucks_pw (F : Int → Int) (n : Nat) : ∀ m : Nat, (bucks F n m).Pairwise (ltO F) := by
  intro m
  induction m with
  | zero => simp [bucks]
  | succ m ih =>
    rw [bucks, List.pairwise_append]
    refine ⟨ih, ?_, fun a ha b hb => ?_⟩
    · refine ((iota_pw n).filter _).imp_of_mem ?_
      intro a b ha hb hab
      have h1 := (List.mem_filter.1 ha).2
      have h2 := (List.mem_filter.1 hb).2
      simp only [decide_eq_true_eq] at h1 h2
      exact Or.inr ⟨by omega, hab⟩
    · have h1 := (bucks_mem F n m a).1 ha
      have h2 := (List.mem_filter.1 hb).2
      simp only [decide_eq_true_eq] at h2
      exact Or.inl (by omega)
theorem sort_bucks (c : Int → Int → Int) (F : Int → Int) (n m : Nat) (hc : ∀ x y : Int, 0 ≤ x → x < n → 0 ≤ y → y < n → (c x y < 0 ↔ F x < F y)) (hF : ∀ x : Int, 0 ≤ x → x < n → 0 ≤ F x ∧ F x < (m : Int)) :
    Sep.isTo c (Sep.iota n) n = bucks F n m := by
  have e := isTo_all c (Sep.iota n)
  rw [Sep.iota_length] at e
  rw [e]
  obtain ⟨h1, h2⟩ := sort_iota c F n hc n (Nat.le_refl _)
  refine pw_unique (ltO F) (fun _ _ => ltO_asymm) _ _ (List.pairwise_reverse.2 h1) (bucks_pw F n m) (fun z => ?_)
  rw [List.mem_reverse, h2, bucks_mem]
  constructor
  · rintro ⟨h3, h4⟩
    have := hF z h3 h4
    exact ⟨h3, h4, this.1, this.2⟩
  · rintro ⟨h3, h4, _, _⟩
    exact ⟨h3, h4⟩

/-! #### wireT -/
theorem rdWireA {p r : List S32} {x : S32} {i : Int} (hi : i = p.length) : rd_T32 (p ++ x :: r) i = x := getDA hi
instance decWire : DecidableEq S32 := fun a b => decidable_of_decidable_of_iff (p := a.f0 = b.f0 ∧ a.f1 = b.f1) ⟨fun h => by cases a; cases b; simp_all, fun h => by rw [h]; exact ⟨rfl, rfl⟩⟩

/-! #### rtOrderM -/
theorem iota_drop {n i : Nat} (h : i < n) : (Sep.iota n).drop i = (i : Int) :: (Sep.iota n).drop (i + 1) := by
  have hl : i < (Sep.iota n).length := by rw [Sep.iota_length]; exact h
  rw [List.drop_eq_getElem_cons hl]
  congr 1
  simp [Sep.iota]
theorem spec_rtOrder_l1 (l : List S32) (hl : l.length ≤ 1000) (f : Int) (hf : 0 ≤ f ∧ f ≤ 50) (R : List Int) : ∀ (d i : Nat) (acc : List Int), i + d = l.length → acc.length ≤ 100000 + i →
    (Ev (fun k => spec_rtOrder.l0 k l (acc ++ ((Sep.iota l.length).drop i).filter (fun i => decide ((rd_T32 l i).f0 = f))) (f + 1)) R) → Ev (fun k => spec_rtOrder.l1 k l acc f l (l.length : Int) (i : Int)) R := by
  intro d
  induction d with
  | zero =>
    intro i acc hi ha h
    apply ev_up
    simp only [spec_rtOrder.l1]
    refine ev_n (by omega) ?_
    rw [w64 (n := f + 1) (by omega) (by omega)]
    rw [List.drop_of_length_le (by rw [Sep.iota_length]; omega)] at h
    simpa using h
  | succ d ih =>
    intro i acc hi ha h
    apply ev_up
    simp only [spec_rtOrder.l1]
    rw [iota_drop (by omega), List.filter_cons] at h
    refine ev_p (by omega) (ev_p (by omega) (ev_p (by omega) (ev_ite (fun hc => ?_) (fun hc => ?_))))
    · rw [if_pos (by simpa using hc)] at h
      rw [w64 (n := (i : Int) + 1) (by omega) (by omega), show ((i : Int) + 1) = ((i + 1 : Nat) : Int) by omega]
      refine ev_p (by omega) (ih (i + 1) _ (by omega) (by simp; omega) ?_)
      simpa using h
    · rw [if_neg (by simpa using hc)] at h
      rw [w64 (n := (i : Int) + 1) (by omega) (by omega), show ((i : Int) + 1) = ((i + 1 : Nat) : Int) by omega]
      exact ih (i + 1) _ (by omega) (by omega) h
def keyF (l : List S32) (i : Int) : Int := (rd_T32 l i).f0
theorem spec_rtOrder_l0 (l : List S32) (hl : l.length ≤ 1000) : ∀ (d m : Nat), m + d = 51 → (bucks (keyF l) l.length m).length ≤ m * 1000 → Ev (fun k => spec_rtOrder.l0 k l (bucks (keyF l) l.length m) (m : Int)) (bucks (keyF l) l.length 51) := by
  intro d
  induction d with
  | zero =>
    intro m hm _
    obtain rfl : m = 51 := by omega
    apply ev_up
    simp only [spec_rtOrder.l0]
    exact ev_n (by omega) (Ev.now _)
  | succ d ih =>
    intro m hm hb
    apply ev_up
    simp only [spec_rtOrder.l0]
    refine ev_p (by omega) ?_
    have h0 : ((0 : Nat) : Int) = 0 := rfl
    have := spec_rtOrder_l1 l hl (m : Int) (by omega) (bucks (keyF l) l.length 51) l.length 0 (bucks (keyF l) l.length m) (by omega) (by omega)
    rw [h0] at this
    refine this ?_
    rw [List.drop_zero, show ((m : Int) + 1) = ((m + 1 : Nat) : Int) by omega]
    refine ih (m + 1) (by omega) ?_
    show (bucks (keyF l) l.length m ++ (Sep.iota l.length).filter _).length ≤ _
    rw [List.length_append]
    have h1 := List.length_filter_le (fun i => decide (keyF l i = (m : Int))) (Sep.iota l.length)
    rw [Sep.iota_length] at h1
    omega
theorem spec_rtOrder_ev (l : List S32) (hl : l.length ≤ 1000) : Ev (fun k => spec_rtOrder.f k l) (bucks (keyF l) l.length 51) := by
  unfold spec_rtOrder.f
  exact spec_rtOrder_l0 l hl 51 0 (by omega) (by simp [bucks])

/-! #### meetM -/
def meetB (a b : S32) : Bool := decide (a.f0 ≤ b.f1 ∧ b.f0 ≤ a.f1)
theorem spec_rtMeet_eq (a b : S32) : spec_rtMeet.f a.f0 a.f1 b.f0 b.f1 = some (meetB a b) := by
  unfold spec_rtMeet.f meetB
  by_cases h : a.f0 ≤ b.f1
  · rw [if_pos h]; simp [h]
  · rw [if_neg h]; simp [h]

/-! #### edgeM -/
def wAt (l : List S32) (i : Int) : S32 := rd_T32 l i
def hitsB (l : List S32) (out : List Int) (s i w : Int) : Prop := rd out w = s ∧ meetB (wAt l w) (wAt l i) = true
/-- What the reference's search for a track needs of the order's part that is done. -/
def okP (l : List S32) (out : List Int) (P : List Int) : Prop := ∀ w ∈ P, 0 ≤ w ∧ w < (l.length : Int) ∧ w < (out.length : Int)
theorem edge_no (l : List S32) (out q : List Int) (n i s len j : Int) (hi : 0 ≤ i ∧ i < (l.length : Int)) (hq : q.length ≤ 1000) (R : List Int × Bool) : ∀ (r p t : List Int), q = p ++ r ++ t → n = ((p ++ r).length : Int) → okP l out r → (∀ w ∈ r, ¬ hitsB l out s i w) →
    Ev (fun k => spec_LeftEdge.l1 k l out q n i s n q len j) R → Ev (fun k => spec_LeftEdge.l1 k l out q n i s (p.length : Int) q len j) R := by
  intro r
  induction r with
  | nil =>
    intro p t e hn _ _ h
    rw [List.append_nil] at hn
    rwa [hn] at h ⊢
  | cons w r ih =>
    intro p t e hn hok hno h
    have hlen : q.length = p.length + r.length + 1 + t.length := by rw [e]; simp; omega
    have hn2 : n = (p.length : Int) + r.length + 1 := by rw [hn]; simp; omega
    have hw : rd q (p.length : Int) = w := by rw [e, List.append_assoc]; exact rdA rfl
    obtain ⟨w0, w1, w2⟩ := hok w List.mem_cons_self
    have hrec := ih (p ++ [w]) t (by rw [e]; simp) (by rw [hn]; simp) (fun y hy => hok y (List.mem_cons_of_mem _ hy)) (fun y hy => hno y (List.mem_cons_of_mem _ hy)) h
    rw [show ((p ++ [w]).length : Int) = (p.length : Int) + 1 by simp] at hrec
    apply ev_up
    simp only [spec_LeftEdge.l1, hw]
    rw [w64 (n := (p.length : Int) + 1) (by omega) (by omega)]
    refine ev_p (by omega) (ev_p (by omega) (ev_p (by omega) (ev_p (by omega) (ev_p (by omega) (ev_ite (fun hc => ?_) (fun _ => hrec))))))
    refine ev_p (by omega) (ev_p (by omega) (ev_p (by omega) (Ev.bind (ev_c (spec_rtMeet_eq (wAt l w) (wAt l i))) (ev_n (fun hm => hno w List.mem_cons_self ⟨hc, hm⟩) hrec))))
theorem edge_yes (l : List S32) (out q : List Int) (n i s len j : Int) (hi : 0 ≤ i ∧ i < (l.length : Int)) (hq : q.length ≤ 1000) (hs : 0 ≤ s ∧ s ≤ 1000) (R : List Int × Bool) : ∀ (r p t : List Int), q = p ++ r ++ t → n = ((p ++ r).length : Int) → okP l out r → (∃ w ∈ r, hitsB l out s i w) →
    Ev (fun k => spec_LeftEdge.l1 k l out q n i (s + 1) 0 q len j) R → Ev (fun k => spec_LeftEdge.l1 k l out q n i s (p.length : Int) q len j) R := by
  intro r
  induction r with
  | nil =>
    rintro p t e hn _ ⟨w, hw, _⟩ h
    cases hw
  | cons w r ih =>
    intro p t e hn hok hex h
    have hlen : q.length = p.length + r.length + 1 + t.length := by rw [e]; simp; omega
    have hn2 : n = (p.length : Int) + r.length + 1 := by rw [hn]; simp; omega
    have hw : rd q (p.length : Int) = w := by rw [e, List.append_assoc]; exact rdA rfl
    obtain ⟨w0, w1, w2⟩ := hok w List.mem_cons_self
    have hrec : ¬ hitsB l out s i w → Ev (fun k => spec_LeftEdge.l1 k l out q n i s ((p.length : Int) + 1) q len j) R := by
      intro hno
      have := ih (p ++ [w]) t (by rw [e]; simp) (by rw [hn]; simp) (fun y hy => hok y (List.mem_cons_of_mem _ hy)) (by
        obtain ⟨y, hy, hh⟩ := hex
        rcases List.mem_cons.1 hy with rfl | hy
        · exact (hno hh).elim
        · exact ⟨y, hy, hh⟩) h
      rwa [show ((p ++ [w]).length : Int) = (p.length : Int) + 1 by simp] at this
    apply ev_up
    simp only [spec_LeftEdge.l1, hw]
    rw [w64 (n := (p.length : Int) + 1) (by omega) (by omega), w64 (n := s + 1) (by omega) (by omega)]
    refine ev_p (by omega) (ev_p (by omega) (ev_p (by omega) (ev_p (by omega) (ev_p (by omega) (ev_ite (fun hc => ?_) (fun hc => hrec (fun hh => hc hh.1)))))))
    refine ev_p (by omega) (ev_p (by omega) (ev_p (by omega) (Ev.bind (ev_c (spec_rtMeet_eq (wAt l w) (wAt l i))) (ev_ite (fun hm => ?_) (fun hm => hrec (fun hh => hm hh.2))))))
    simpa using h
theorem edge_up (l : List S32) (out : List Int) (P t : List Int) (i len j : Int) (hi : 0 ≤ i ∧ i < (l.length : Int)) (hq : (P ++ t).length ≤ 1000) (hok : okP l out P) (R : List Int × Bool) (T : Nat) (hT : T ≤ 1000) (hno : ∀ w ∈ P, ¬ hitsB l out T i w)
    (h : Ev (fun k => spec_LeftEdge.l1 k l out (P ++ t) (P.length : Int) i (T : Int) (P.length : Int) (P ++ t) len j) R) : ∀ d s : Nat, s + d = T → (∀ u : Nat, s ≤ u → u < T → ∃ w ∈ P, hitsB l out u i w) → Ev (fun k => spec_LeftEdge.l1 k l out (P ++ t) (P.length : Int) i (s : Int) 0 (P ++ t) len j) R := by
  intro d
  induction d with
  | zero =>
    intro s hs _
    obtain rfl : s = T := by omega
    exact edge_no l out (P ++ t) P.length i s len j hi hq R P [] t (by simp) (by simp) hok hno h
  | succ d ih =>
    intro s hs hyes
    have hrec := ih (s + 1) (by omega) (fun u h1 h2 => hyes u (by omega) h2)
    rw [show ((s + 1 : Nat) : Int) = (s : Int) + 1 by omega] at hrec
    exact edge_yes l out (P ++ t) P.length i s len j hi hq (by omega) R P [] t (by simp) (by simp) hok (hyes s (Nat.le_refl _) (by omega)) hrec
/-- The tracks of the wires that are done, and each track's end. -/
structure InvE (l : List S32) (P out last : List Int) : Prop where
  lt : ∀ w ∈ P, 0 ≤ rd out w ∧ rd out w < (last.length : Int)
  ex : ∀ t : Nat, t < last.length → ∃ w ∈ P, rd out w = (t : Int) ∧ (wAt l w).f1 = rd last t
  le : ∀ t : Nat, t < last.length → ∀ w ∈ P, rd out w = (t : Int) → (wAt l w).f1 ≤ rd last t
theorem leTrack_lt (f : Int) : ∀ (l : List Int) (t : Nat), t < Sep.leTrack f l → rd l (t : Int) ≥ f := by
  intro l
  induction l with
  | nil => intro t h; simp [Sep.leTrack] at h
  | cons x r ih =>
    intro t h
    rw [Sep.leTrack] at h
    split at h
    · rename_i hx
      cases t with
      | zero => simpa [rd] using hx
      | succ t =>
        have := ih t (by omega)
        simpa [rd] using this
    · omega
theorem leTrack_at (f : Int) : ∀ (l : List Int), Sep.leTrack f l < l.length → rd l (Sep.leTrack f l : Int) < f := by
  intro l
  induction l with
  | nil => intro h; simp at h
  | cons x r ih =>
    intro h
    rw [Sep.leTrack] at h ⊢
    split
    · rename_i hx
      rw [if_pos hx, List.length_cons] at h
      have := ih (by omega)
      simpa [rd] using this
    · rename_i hx
      simp [rd]
      omega
theorem rd_set {xs : List Int} {a b v : Int} (ha : 0 ≤ a) (hb : 0 ≤ b) (hl : a < (xs.length : Int)) : rd (xs.set a.toNat v) b = if b = a then v else rd xs b := by
  unfold rd
  rw [List.getD_eq_getElem?_getD, List.getD_eq_getElem?_getD, List.getElem?_set]
  by_cases h : b = a
  · subst h
    rw [if_pos rfl, if_pos rfl, if_pos (by omega)]
    rfl
  · rw [if_neg h, if_neg (by omega)]
theorem leLast_length (f g : Int) (last : List Int) : (Sep.leLast f g last).length = if Sep.leTrack f last = last.length then last.length + 1 else last.length := by
  unfold Sep.leLast
  rw [List.length_set]
  split <;> simp
theorem leLast_rd (f g : Int) (last : List Int) (t : Nat) (ht : t < (Sep.leLast f g last).length) : rd (Sep.leLast f g last) t = if t = Sep.leTrack f last then g else rd last t := by
  have hle := Sep.leTrack_le f last
  rw [leLast_length] at ht
  unfold Sep.leLast
  have h1 := rd_set (xs := if Sep.leTrack f last = last.length then last ++ [0] else last) (a := (Sep.leTrack f last : Int)) (b := (t : Int)) (v := g) (by omega) (by omega) (by split <;> simp <;> omega)
  rw [Int.toNat_natCast] at h1
  rw [h1]
  by_cases h : t = Sep.leTrack f last
  · rw [if_pos (by omega), if_pos h]
  · rw [if_neg (by omega), if_neg h]
    split
    · rename_i hc
      rw [if_pos hc] at ht
      unfold rd
      rw [List.getD_eq_getElem?_getD, List.getD_eq_getElem?_getD, List.getElem?_append_left (by omega)]
    · rfl
theorem wire_meets {l : List S32} {w i : Int} (h1 : keyF l w ≤ keyF l i) (h2 : keyF l i ≤ (wAt l i).f1) : meetB (wAt l w) (wAt l i) = true ↔ keyF l i ≤ (wAt l w).f1 := by
  unfold meetB
  rw [decide_eq_true_eq]
  unfold keyF at *
  unfold wAt at *
  omega
theorem InvE.step {l : List S32} {P out last : List Int} {i : Int} (h : InvE l P out last) (hi : 0 ≤ i ∧ i < (out.length : Int)) (hni : ∀ w ∈ P, 0 ≤ w ∧ w ≠ i) (hg : keyF l i ≤ (wAt l i).f1) :
    InvE l (P ++ [i]) (out.set i.toNat (Sep.leTrack (keyF l i) last : Int)) (Sep.leLast (keyF l i) (wAt l i).f1 last) := by
  have hle := Sep.leTrack_le (keyF l i) last
  have hlen := leLast_length (keyF l i) (wAt l i).f1 last
  have hout : ∀ w, 0 ≤ w → rd (out.set i.toNat (Sep.leTrack (keyF l i) last : Int)) w = if w = i then (Sep.leTrack (keyF l i) last : Int) else rd out w := fun w hw => rd_set hi.1 hw hi.2
  have hlast : last.length ≤ (Sep.leLast (keyF l i) (wAt l i).f1 last).length ∧ Sep.leTrack (keyF l i) last < (Sep.leLast (keyF l i) (wAt l i).f1 last).length := by
    rw [hlen]
    split <;> omega
  refine ⟨fun w hw => ?_, fun t ht => ?_, fun t ht w hw he => ?_⟩
  · rcases List.mem_append.1 hw with hw | hw
    · rw [hout w (hni w hw).1, if_neg (hni w hw).2]
      have := h.lt w hw
      omega
    · rw [List.mem_singleton.1 hw, hout i hi.1, if_pos rfl]
      omega
  · rw [leLast_rd _ _ _ _ ht]
    by_cases hc : t = Sep.leTrack (keyF l i) last
    · rw [if_pos hc]
      exact ⟨i, by simp, by rw [hout i hi.1, if_pos rfl, hc], rfl⟩
    · rw [if_neg hc]
      have htl : t < last.length := by
        rw [hlen] at ht
        split at ht <;> omega
      obtain ⟨w, hw, h1, h2⟩ := h.ex t htl
      exact ⟨w, by simp [hw], by rw [hout w (hni w hw).1, if_neg (hni w hw).2, h1], h2⟩
  · rw [leLast_rd _ _ _ _ ht]
    by_cases hc : t = Sep.leTrack (keyF l i) last
    · rw [if_pos hc]
      rcases List.mem_append.1 hw with hw | hw
      · rw [hout w (hni w hw).1, if_neg (hni w hw).2] at he
        have hlt := (h.lt w hw).2
        have h1 := h.le t (by omega) w hw he
        have h2 := leTrack_at (keyF l i) last (by omega)
        rw [← hc] at h2
        omega
      · rw [List.mem_singleton.1 hw]
        exact Int.le_refl _
    · rw [if_neg hc]
      have htl : t < last.length := by
        rw [hlen] at ht
        split at ht <;> omega
      rcases List.mem_append.1 hw with hw | hw
      · rw [hout w (hni w hw).1, if_neg (hni w hw).2] at he
        exact h.le t htl w hw he
      · rw [List.mem_singleton.1 hw, hout i hi.1, if_pos rfl] at he
        omega
theorem edge_main (l : List S32) (hl : l.length ≤ 20) (hg : ∀ i : Int, 0 ≤ i → i < (l.length : Int) → 0 ≤ keyF l i ∧ keyF l i ≤ (wAt l i).f1) : ∀ (r P out last : List Int), (P ++ r).Pairwise (ltO (keyF l)) → (∀ w ∈ P ++ r, 0 ≤ w ∧ w < (l.length : Int)) → (P ++ r).length ≤ 1000 → out.length = l.length → last.length ≤ P.length → InvE l P out last →
    Ev (fun k => spec_LeftEdge.l0 k l out (P ++ r) (P ++ r) ((P ++ r).length : Int) (P.length : Int)) ((impl_LeftEdge.run l r (out, last)).1, true) := by
  intro r
  induction r with
  | nil =>
    intro P out last _ _ _ _ _ _
    apply ev_up
    simp only [spec_LeftEdge.l0, List.append_nil]
    exact ev_n (by omega) (Ev.now _)
  | cons i r ih =>
    intro P out last hpw hm hq ho hlp hinv
    have hlen : (P ++ i :: r).length = P.length + r.length + 1 := by simp; omega
    have hri : rd (P ++ i :: r) (P.length : Int) = i := rdA rfl
    obtain ⟨hi0, hi1⟩ := hm i (by simp)
    obtain ⟨hk0, hk1⟩ := hg i hi0 hi1
    have hP : ∀ w ∈ P, 0 ≤ w ∧ w < (l.length : Int) := fun w hw => hm w (by simp [hw])
    have hPi : ∀ w ∈ P, ltO (keyF l) w i := fun w hw => (List.pairwise_append.1 hpw).2.2 w hw i (by simp)
    have hne : ∀ w ∈ P, 0 ≤ w ∧ w ≠ i := fun w hw => ⟨(hP w hw).1, fun e => by have := hPi w hw; unfold ltO at this; rw [e] at this; omega⟩
    have hkey : ∀ w ∈ P, keyF l w ≤ keyF l i := fun w hw => by have := hPi w hw; unfold ltO at this; omega
    have hle := Sep.leTrack_le (keyF l i) last
    rw [impl_LeftEdge.run_cons]
    have hF : impl_LeftEdge.F l i = keyF l i := rfl
    have hG : impl_LeftEdge.G l i = (wAt l i).f1 := rfl
    rw [hF, hG]
    have hrec := ih (P ++ [i]) (out.set i.toNat (Sep.leTrack (keyF l i) last : Int)) (Sep.leLast (keyF l i) (wAt l i).f1 last) (by simpa using hpw) (by simpa using hm) (by simpa using hq) (by rw [List.length_set, ho]) (by rw [leLast_length]; simp; split <;> omega) (hinv.step ⟨hi0, by omega⟩ hne hk1)
    rw [show (P ++ [i]) ++ r = P ++ i :: r by simp] at hrec
    apply ev_up
    simp only [spec_LeftEdge.l0, hri]
    refine ev_p (by omega) (ev_p (by omega) (ev_p (by omega) ?_))
    have hok : okP l out P := fun w hw => ⟨(hP w hw).1, (hP w hw).2, by have := (hP w hw).2; omega⟩
    refine edge_up l out P (i :: r) i _ _ ⟨hi0, hi1⟩ hq hok _ (Sep.leTrack (keyF l i) last) (by omega) ?_ ?_ (Sep.leTrack (keyF l i) last) 0 (by omega) ?_
    · rintro w hw ⟨h1, h2⟩
      rw [wire_meets (hkey w hw) hk1] at h2
      have hlt := hinv.lt w hw
      have h3 := leTrack_at (keyF l i) last (by omega)
      have h4 := hinv.le _ (by omega) w hw h1
      omega
    · apply ev_up
      simp only [spec_LeftEdge.l1]
      refine ev_n (by omega) (ev_p (by omega) (ev_p (by omega) ?_))
      rw [w64 (n := (P.length : Int) + 1) (by omega) (by omega)]
      rw [show ((P ++ [i]).length : Int) = (P.length : Int) + 1 by simp] at hrec
      exact hrec
    · intro u _ hu
      have h1 := leTrack_lt (keyF l i) last u hu
      obtain ⟨w, hw, h2, h3⟩ := hinv.ex u (by omega)
      exact ⟨w, hw, h2, (wire_meets (hkey w hw) hk1).2 (by omega)⟩

/-! #### l1In -/
theorem l1In_eq (a b c : Int) : spec_l1In.f a b c = some (decide (b ≤ a ∧ a ≤ c)) := by
  unfold spec_l1In.f
  by_cases h : b ≤ a
  · rw [if_pos h]; simp [h]
  · rw [if_neg h]; simp [h]

/-! #### chanM -/
def goodWire (x : S32) : Bool := decide (0 ≤ x.f0 ∧ x.f0 ≤ x.f1 ∧ x.f1 ≤ 50)
def chanM (l : List S32) : Bool := decide (l.length ≤ 20) && l.all goodWire
theorem spec_rtWire_eq (a b : Int) : spec_rtWire.f a b = some (goodWire ⟨a, b⟩) := by
  unfold spec_rtWire.f
  rw [l1In_eq, Option.bind_some]
  by_cases h : 0 ≤ a ∧ a ≤ b
  · rw [decide_eq_true h, if_pos rfl, l1In_eq, Option.bind_some]
    congr 1
    exact decide_eq_decide.2 ⟨fun hh => ⟨h.1, h.2, hh.2⟩, fun hh => ⟨h.2, hh.2.2⟩⟩
  · rw [decide_eq_false h, if_neg (by decide)]
    congr 1; symm
    exact decide_eq_false (fun hh => h ⟨hh.1, hh.2.1⟩)
theorem impl_isWire_eq (a b : Int) : impl_isWire.f a b = some (goodWire ⟨a, b⟩) := by
  unfold impl_isWire.f
  by_cases h1 : a ≥ 0
  · rw [if_pos h1]
    by_cases h2 : a ≤ b
    · rw [if_pos h2]
      congr 1
      exact decide_eq_decide.2 ⟨fun hh => ⟨h1, h2, hh⟩, fun hh => hh.2.2⟩
    · rw [if_neg h2]
      congr 1; symm
      exact decide_eq_false (fun hh => h2 hh.2.1)
  · rw [if_neg h1]
    congr 1; symm
    exact decide_eq_false (fun hh => h1 hh.1)

/-! #### spec_rtGood -/
theorem spec_rtGood_l0 (l : List S32) (hl : l.length ≤ 9223372036854775807) (r : List S32) : ∀ (p : List S32) (i : Int), i = p.length → l = p ++ r →
    Ev (fun k => spec_rtGood.l0 k l l l.length i) (decide (l.length ≤ 20) && r.all goodWire) := by
  induction r with
  | nil =>
    intro p i hi e
    have hlen : l.length = p.length := by rw [e]; simp
    apply ev_up
    simp only [spec_rtGood.l0]
    refine ev_n (by omega) (ev_eq (Ev.now _) ?_)
    rw [List.all_nil, Bool.and_true]
    exact decide_eq_decide.2 (by omega)
  | cons x r ih =>
    intro p i hi e
    have hlen : l.length = p.length + r.length + 1 := by rw [e]; simp; omega
    have hx : rd_T32 l i = x := by rw [e]; exact rdWireA hi
    have ih' := ih (p ++ [x]) (i + 1) (by simp; omega) (by rw [e]; simp)
    apply ev_up
    simp only [spec_rtGood.l0]
    refine ev_p (by omega) (ev_p (by omega) (ev_p (by omega) ?_))
    rw [hx, spec_rtWire_eq]
    refine Ev.bind (ev_c rfl) ?_
    have ex : (⟨x.f0, x.f1⟩ : S32) = x := rfl
    rw [ex]
    refine ev_ite (fun h => ?_) (fun h => ?_)
    · rw [w64 (by omega) (by omega)]
      refine ev_eq ih' ?_
      rw [List.all_cons, h, Bool.true_and]
    · refine ev_eq (Ev.now _) ?_
      have h' : goodWire x = false := by simpa using h
      rw [List.all_cons, h', Bool.false_and, Bool.and_false]
theorem spec_rtGood_ev (l : List S32) (hl : l.length ≤ 9223372036854775807) : Ev (fun k => spec_rtGood.f k l) (chanM l) := by
  unfold spec_rtGood.f chanM
  exact spec_rtGood_l0 l hl l [] 0 rfl rfl

/-! #### impl_AreChannelWires -/
theorem impl_AreChannelWires_l0 (l : List S32) (hl : l.length ≤ 9223372036854775807) (r : List S32) : ∀ (p : List S32) (i : Int), i = p.length → l = p ++ r →
    Ev (fun k => impl_AreChannelWires.l0 k l l.length i) (r.all goodWire) := by
  induction r with
  | nil =>
    intro p i hi e
    have hlen : l.length = p.length := by rw [e]; simp
    apply ev_up
    simp only [impl_AreChannelWires.l0]
    exact ev_n (by omega) (Ev.now _)
  | cons x r ih =>
    intro p i hi e
    have hlen : l.length = p.length + r.length + 1 := by rw [e]; simp; omega
    have hx : rd_T32 l i = x := by rw [e]; exact rdWireA hi
    have ih' := ih (p ++ [x]) (i + 1) (by simp; omega) (by rw [e]; simp)
    apply ev_up
    simp only [impl_AreChannelWires.l0]
    refine ev_p (by omega) (ev_p (by omega) (ev_p (by omega) ?_))
    rw [hx, impl_isWire_eq]
    refine Ev.bind (ev_c rfl) ?_
    have ex : (⟨x.f0, x.f1⟩ : S32) = x := rfl
    rw [ex]
    refine ev_ite (fun h => ?_) (fun h => ?_)
    · rw [w64 (by omega) (by omega)]
      refine ev_eq ih' ?_
      rw [List.all_cons, h, Bool.true_and]
    · refine ev_eq (Ev.now _) ?_
      have h' : goodWire x = false := by simpa using h
      rw [List.all_cons, h', Bool.false_and]
theorem impl_AreChannelWires_ev (l : List S32) (hl : l.length ≤ 9223372036854775807) : Ev (fun k => impl_AreChannelWires.f k l) (chanM l) := by
  unfold impl_AreChannelWires.f chanM
  refine ev_ite (fun h => ?_) (fun h => ?_)
  · rw [decide_eq_false (by omega), Bool.false_and]
    exact Ev.now _
  · rw [decide_eq_true (by omega), Bool.true_and]
    exact impl_AreChannelWires_l0 l hl l [] 0 rfl rfl

/-! #### chanOf -/
theorem chanM_of {l : List S32} (h : chanM l = true) : l.length ≤ 20 ∧ ∀ w ∈ l, goodWire w = true := by
  unfold chanM at h
  rw [Bool.and_eq_true, List.all_eq_true] at h
  exact ⟨of_decide_eq_true h.1, h.2⟩

/-! #### leftEdge -/
theorem goodKey {l : List S32} (hg : ∀ w ∈ l, goodWire w = true) (i : Int) (h0 : 0 ≤ i) (h1 : i < (l.length : Int)) : 0 ≤ keyF l i ∧ keyF l i ≤ (wAt l i).f1 ∧ (wAt l i).f1 ≤ 50 := by
  obtain ⟨m, rfl⟩ := nat_of h0
  have hl : m < l.length := by omega
  have e : rd_T32 l (m : Int) = l[m] := getDN hl
  have := hg l[m] (List.getElem_mem hl)
  unfold goodWire at this
  unfold keyF wAt
  rw [e]
  simp only [Bool.and_eq_true, decide_eq_true_eq] at this
  omega
theorem leftEdge_ord {l : List S32} (hg : ∀ w ∈ l, goodWire w = true) : impl_LeftEdge.ord l = bucks (keyF l) l.length 51 := by
  unfold impl_LeftEdge.ord
  refine sort_bucks _ (keyF l) l.length 51 (fun x y hx0 hx1 hy0 hy1 => ?_) (fun x h0 h1 => by have := goodKey hg x h0 h1; omega)
  have h1 := goodKey hg x hx0 hx1
  have h2 := goodKey hg y hy0 hy1
  show wrap64 (keyF l x - keyF l y) < 0 ↔ _
  rw [w64 (by omega) (by omega)]
  omega
def edgeR (l : List S32) : List Int := (impl_LeftEdge.run l (bucks (keyF l) l.length 51) (List.replicate l.length 0, [])).1
theorem run_length (l : List S32) : ∀ (r : List Int) (st : List Int × List Int), (impl_LeftEdge.run l r st).1.length = st.1.length := by
  intro r
  induction r with
  | nil => intro st; rfl
  | cons i r ih =>
    rintro ⟨o, la⟩
    rw [impl_LeftEdge.run_cons, ih, List.length_set]
theorem leftEdge_spec (l : List S32) (h20 : l.length ≤ 20) (hg : ∀ w ∈ l, goodWire w = true) (q : List Int) (hq : q = bucks (keyF l) l.length 51) : Ev (fun k => spec_LeftEdge.l0 k l (List.replicate l.length 0) q q (q.length : Int) 0) ((impl_LeftEdge.run l q (List.replicate l.length 0, [])).1, true) := by
  have hl : q.length = l.length := by
    rw [hq, ← leftEdge_ord hg]
    unfold impl_LeftEdge.ord
    rw [Sep.isTo_length, Sep.iota_length]
  have hm := edge_main l h20 (fun i h0 h1 => by have := goodKey hg i h0 h1; omega) q [] (List.replicate l.length 0) [] (by rw [List.nil_append, hq]; exact bucks_pw _ _ _) (fun w hw => by
    rw [List.nil_append, hq] at hw
    have := (bucks_mem (keyF l) l.length 51 w).1 hw
    omega) (by rw [List.nil_append, hl]; omega) (by simp) (by simp) ⟨fun w hw => absurd hw (by simp), fun t ht => absurd ht (by simp), fun t ht => absurd ht (by simp)⟩
  rw [List.nil_append] at hm
  exact hm
theorem leftEdge_ev (l : List S32) (hl : l.length ≤ 1048576) : ∃ R : List Int × Bool, R.2 = chanM l ∧ R.1.length ≤ 20 ∧ Ev (fun k => spec_LeftEdge.f k l) R ∧ Ev (fun k => impl_LeftEdge.f k l) R := by
  by_cases h : chanM l = true
  · obtain ⟨h20, hg⟩ := chanM_of h
    have ho := leftEdge_ord hg
    have hs := spec_rtOrder_ev l (by omega)
    obtain ⟨q, hq⟩ : ∃ q, q = bucks (keyF l) l.length 51 := ⟨_, rfl⟩
    have hr := leftEdge_spec l h20 hg q hq
    rw [← hq] at ho hs
    have hlen : ((impl_LeftEdge.run l q (List.replicate l.length 0, [])).1).length ≤ 20 := by
      rw [run_length, List.length_replicate]
      exact h20
    obtain ⟨R1, hR1⟩ : ∃ R1, R1 = (impl_LeftEdge.run l q (List.replicate l.length 0, [])).1 := ⟨_, rfl⟩
    rw [← hR1] at hr hlen
    refine ⟨(R1, true), h.symm, hlen, ?_, ?_⟩
    · unfold spec_LeftEdge.f
      refine Ev.bind (spec_rtGood_ev l (by omega)) (ev_p h (ev_p (by omega) (ev_p (by omega) (Ev.bind hs ?_))))
      rw [Int.toNat_natCast]
      exact hr
    · unfold impl_LeftEdge.f
      rw [ho, ← hR1]
      exact Ev.bind (impl_AreChannelWires_ev l (by omega)) (ev_p h (ev_p h20 (Ev.now _)))
  · refine ⟨([], false), by simpa using h, by simp, ?_, ?_⟩
    · unfold spec_LeftEdge.f
      exact Ev.bind (spec_rtGood_ev l (by omega)) (ev_n h (Ev.now _))
    · unfold impl_LeftEdge.f
      exact Ev.bind (impl_AreChannelWires_ev l (by omega)) (ev_n h (Ev.now _))

/-! #### cntL -/
theorem cnt_more {p q : Int → Bool} : ∀ {l : List Int}, (∀ x ∈ l, p x = true → q x = true) → (∃ x ∈ l, q x = true ∧ p x = false) → l.countP p + 1 ≤ l.countP q := by
  intro l
  induction l with
  | nil => rintro _ ⟨x, hx, _⟩; simp at hx
  | cons y r ih =>
    rintro h ⟨x, hx, h1, h2⟩
    have hr : ∀ x ∈ r, p x = true → q x = true := fun x hx => h x (List.mem_cons_of_mem _ hx)
    have hm : r.countP p ≤ r.countP q := List.countP_mono_left hr
    rw [List.countP_cons, List.countP_cons]
    by_cases hy : x = y
    · subst hy
      rw [h1, h2]
      simp
      exact hm
    · have hxr : x ∈ r := by
        rcases List.mem_cons.1 hx with e | e
        · exact absurd e hy
        · exact e
      have := ih hr ⟨x, hxr, h1, h2⟩
      have hyy : (if p y = true then 1 else 0) ≤ (if q y = true then 1 else 0) := by
        by_cases hp : p y = true
        · rw [if_pos hp, if_pos (h y (List.mem_cons_self ..) hp)]; exact Nat.le_refl _
        · rw [if_neg hp]; exact Nat.zero_le _
      omega
theorem cnt_one {p : Int → Bool} : ∀ {l : List Int}, l.Nodup → (∀ x ∈ l, ∀ y ∈ l, p x = true → p y = true → x = y) → l.countP p ≤ 1 := by
  intro l
  induction l with
  | nil => intro _ _; simp
  | cons y r ih =>
    intro hn h
    have hn' := List.nodup_cons.1 hn
    rw [List.countP_cons]
    by_cases hy : p y = true
    · have h0 : r.countP p = 0 := by
        rw [List.countP_eq_zero]
        intro x hx hp
        have := h x (List.mem_cons_of_mem _ hx) y (List.mem_cons_self ..) hp hy
        exact hn'.1 (this ▸ hx)
      rw [if_pos hy, h0]
      exact Nat.le_refl _
    · rw [if_neg hy, Nat.add_zero]
      exact ih hn'.2 (fun a ha b hb => h a (List.mem_cons_of_mem _ ha) b (List.mem_cons_of_mem _ hb))
theorem cnt_or {p q s : Int → Bool} : ∀ {l : List Int}, (∀ x ∈ l, s x = true → p x = true ∨ q x = true) → l.countP s ≤ l.countP p + l.countP q := by
  intro l
  induction l with
  | nil => intro _; simp
  | cons y r ih =>
    intro h
    have hr := ih (fun x hx => h x (List.mem_cons_of_mem _ hx))
    rw [List.countP_cons, List.countP_cons, List.countP_cons]
    have hy : (if s y = true then 1 else 0) ≤ (if p y = true then 1 else 0) + (if q y = true then 1 else 0) := by
      by_cases hs : s y = true
      · rw [if_pos hs]
        rcases h y (List.mem_cons_self ..) hs with e | e
        · rw [if_pos e]; omega
        · rw [if_pos e]; omega
      · rw [if_neg hs]; omega
    omega
theorem iota_nodup (n : Nat) : (Sep.iota n).Nodup := by
  have h := iota_pw n
  exact List.Pairwise.imp (fun h => by omega) h

/-! #### densityM -/
def atCol (x : Int) (w : S32) : Bool := decide (w.f0 ≤ x ∧ x ≤ w.f1)
def densityM (l : List S32) (x : Int) : Int := (l.countP (atCol x) : Nat)
theorem densityM_le (l : List S32) (x : Int) : 0 ≤ densityM l x ∧ densityM l x ≤ l.length := by
  unfold densityM
  have := List.countP_le_length (p := atCol x) (l := l)
  omega
theorem spec_rtDensity_l0 (l : List S32) (x : Int) (hl : l.length ≤ 1048576) (r : List S32) : ∀ (p : List S32) (n i : Int), i = p.length → l = p ++ r → 0 ≤ n → n ≤ i →
    Ev (fun k => spec_rtDensity.l0 k x n l l.length i) (n + (r.countP (atCol x) : Nat)) := by
  induction r with
  | nil =>
    intro p n i hi e h0 hn
    have hlen : l.length = p.length := by rw [e]; simp
    apply ev_up
    simp only [spec_rtDensity.l0]
    refine ev_n (by omega) (ev_eq (Ev.now _) ?_)
    simp
  | cons w r ih =>
    intro p n i hi e h0 hn
    have hlen : l.length = p.length + r.length + 1 := by rw [e]; simp; omega
    have hx : rd_T32 l i = w := by rw [e]; exact rdWireA hi
    apply ev_up
    simp only [spec_rtDensity.l0]
    refine ev_p (by omega) (ev_p (by omega) (ev_p (by omega) ?_))
    rw [hx, l1In_eq, w64 (n := i + 1) (by omega) (by omega), w64 (n := n + 1) (by omega) (by omega)]
    refine Ev.bind (ev_c rfl) ?_
    refine ev_ite (fun h => ?_) (fun h => ?_)
    · refine ev_eq (ih (p ++ [w]) (n + 1) (i + 1) (by simp; omega) (by rw [e]; simp) (by omega) (by omega)) ?_
      have h' : atCol x w = true := h
      simp [h']
      omega
    · refine ev_eq (ih (p ++ [w]) n (i + 1) (by simp; omega) (by rw [e]; simp) (by omega) (by omega)) ?_
      have h' : atCol x w = false := decide_eq_false (fun hh => h (decide_eq_true hh))
      simp [h']
theorem spec_rtDensity_ev (l : List S32) (x : Int) (hl : l.length ≤ 1048576) : Ev (fun k => spec_rtDensity.f k l x) (densityM l x) := by
  unfold spec_rtDensity.f densityM
  refine ev_eq (spec_rtDensity_l0 l x hl l [] 0 0 rfl rfl (by omega) (by omega)) (by omega)
theorem impl_densityAt_l0 (l : List S32) (x : Int) (hl : l.length ≤ 1048576) (r : List S32) : ∀ (p : List S32) (n i : Int), i = p.length → l = p ++ r → 0 ≤ n → n ≤ i →
    Ev (fun k => impl_densityAt.l0 k x n l l.length i) (n + (r.countP (atCol x) : Nat)) := by
  induction r with
  | nil =>
    intro p n i hi e h0 hn
    have hlen : l.length = p.length := by rw [e]; simp
    apply ev_up
    simp only [impl_densityAt.l0]
    refine ev_n (by omega) (ev_eq (Ev.now _) ?_)
    simp
  | cons w r ih =>
    intro p n i hi e h0 hn
    have hlen : l.length = p.length + r.length + 1 := by rw [e]; simp; omega
    have hx : rd_T32 l i = w := by rw [e]; exact rdWireA hi
    have no : atCol x w = false → Ev (fun k => impl_densityAt.l0 k x n l l.length (i + 1)) (n + ((w :: r).countP (atCol x) : Nat)) := fun h => by
      refine ev_eq (ih (p ++ [w]) n (i + 1) (by simp; omega) (by rw [e]; simp) (by omega) (by omega)) ?_
      simp [h]
    apply ev_up
    simp only [impl_densityAt.l0]
    refine ev_p (by omega) (ev_p (by omega) (ev_p (by omega) ?_))
    rw [hx, w64 (n := i + 1) (by omega) (by omega), w64 (n := n + 1) (by omega) (by omega)]
    refine ev_ite (fun h1 => ev_ite (fun h2 => ?_) (fun h2 => ?_)) (fun h1 => ?_)
    · refine ev_eq (ih (p ++ [w]) (n + 1) (i + 1) (by simp; omega) (by rw [e]; simp) (by omega) (by omega)) ?_
      have h' : atCol x w = true := decide_eq_true ⟨h1, h2⟩
      simp [h']
      omega
    · exact no (decide_eq_false (fun h => h2 h.2))
    · exact no (decide_eq_false (fun h => h1 h.1))
theorem impl_densityAt_ev (l : List S32) (x : Int) (hl : l.length ≤ 1048576) : Ev (fun k => impl_densityAt.f k l x) (densityM l x) := by
  unfold impl_densityAt.f densityM
  refine ev_eq (impl_densityAt_l0 l x hl l [] 0 0 rfl rfl (by omega) (by omega)) (by omega)

/-! #### edgeFacts -/
theorem atIdx (l : List S32) (x : Int) : densityM l x = ((Sep.iota l.length).countP (fun j => atCol x (wAt l j)) : Nat) := by
  unfold densityM
  have e : l = (Sep.iota l.length).map (wAt l) := by
    apply List.ext_getElem
    · simp [Sep.iota_length]
    · intro n h1 h2
      rw [List.getElem_map]
      have hn : (Sep.iota l.length)[n]'(by rw [Sep.iota_length]; exact h1) = (n : Int) := by simp [Sep.iota]
      rw [hn]
      unfold wAt rd_T32
      simp [List.getD, List.getElem?_eq_getElem h1]
  conv => lhs; rw [e]
  rw [List.countP_map]
  rfl
/-- The density of some column reaches the number of tracks. -/
def DenE (l : List S32) (last : List Int) : Prop := last = [] ∨ ∃ x : Int, 0 ≤ x ∧ x ≤ 50 ∧ (last.length : Int) ≤ densityM l x
/-- Wires of the same track do not meet. -/
def SepE (l : List S32) (P out : List Int) : Prop := ∀ w ∈ P, ∀ v ∈ P, w ≠ v → rd out w = rd out v → meetB (wAt l w) (wAt l v) = false
theorem meetB_comm (a b : S32) : meetB a b = meetB b a := by
  unfold meetB
  exact decide_eq_decide.2 ⟨fun h => ⟨h.2, h.1⟩, fun h => ⟨h.2, h.1⟩⟩
theorem SepE.step {l : List S32} {P out last : List Int} {i : Int} (hs : SepE l P out) (h : InvE l P out last) (hi : 0 ≤ i ∧ i < (out.length : Int)) (hni : ∀ w ∈ P, 0 ≤ w ∧ w ≠ i) :
    SepE l (P ++ [i]) (out.set i.toNat (Sep.leTrack (keyF l i) last : Int)) := by
  have hout : ∀ w, 0 ≤ w → rd (out.set i.toNat (Sep.leTrack (keyF l i) last : Int)) w = if w = i then (Sep.leTrack (keyF l i) last : Int) else rd out w := fun w hw => rd_set hi.1 hw hi.2
  have key : ∀ w ∈ P, rd out w = (Sep.leTrack (keyF l i) last : Int) → meetB (wAt l w) (wAt l i) = false := fun w hw he => by
    have hlt := (h.lt w hw).2
    have h1 := h.le (Sep.leTrack (keyF l i) last) (by omega) w hw he
    have h2 := leTrack_at (keyF l i) last (by omega)
    unfold meetB
    refine decide_eq_false (fun hh => ?_)
    have : keyF l i = (wAt l i).f0 := rfl
    omega
  intro w hw v hv hne he
  rcases List.mem_append.1 hw with hw | hw
  · rw [hout w (hni w hw).1, if_neg (hni w hw).2] at he
    rcases List.mem_append.1 hv with hv | hv
    · rw [hout v (hni v hv).1, if_neg (hni v hv).2] at he
      exact hs w hw v hv hne he
    · rw [List.mem_singleton.1 hv, hout i hi.1, if_pos rfl] at he
      rw [List.mem_singleton.1 hv]
      exact key w hw he
  · rw [List.mem_singleton.1 hw, hout i hi.1, if_pos rfl] at he
    rcases List.mem_append.1 hv with hv | hv
    · rw [hout v (hni v hv).1, if_neg (hni v hv).2] at he
      rw [List.mem_singleton.1 hw, meetB_comm]
      exact key v hv he.symm
    · exact absurd ((List.mem_singleton.1 hw).trans (List.mem_singleton.1 hv).symm) hne
theorem DenE.step {l : List S32} {P out last : List Int} {i : Int} (hd : DenE l last) (h : InvE l P out last) (hi : 0 ≤ i ∧ i < (l.length : Int)) (hP : ∀ w ∈ P, 0 ≤ w ∧ w < (l.length : Int) ∧ w ≠ i ∧ keyF l w ≤ keyF l i) (hg : 0 ≤ keyF l i ∧ keyF l i ≤ (wAt l i).f1 ∧ (wAt l i).f1 ≤ 50) :
    DenE l (Sep.leLast (keyF l i) (wAt l i).f1 last) := by
  have hlen := leLast_length (keyF l i) (wAt l i).f1 last
  by_cases hc : Sep.leTrack (keyF l i) last = last.length
  · rw [if_pos hc] at hlen
    refine .inr ⟨keyF l i, hg.1, by omega, ?_⟩
    rw [hlen, atIdx]
    have main : ∀ k : Nat, k ≤ last.length → k ≤ (Sep.iota l.length).countP (fun j => decide (j ∈ P ∧ rd out j < (k : Int) ∧ atCol (keyF l i) (wAt l j) = true)) := by
      intro k
      induction k with
      | zero => intro _; exact Nat.zero_le _
      | succ k ih =>
        intro hk
        have hk' := ih (by omega)
        obtain ⟨w, hw, h1, h2⟩ := h.ex k (by omega)
        have h3 := leTrack_lt (keyF l i) last k (by omega)
        have hw' := hP w hw
        have := cnt_more (p := fun j => decide (j ∈ P ∧ rd out j < (k : Int) ∧ atCol (keyF l i) (wAt l j) = true)) (q := fun j => decide (j ∈ P ∧ rd out j < ((k + 1 : Nat) : Int) ∧ atCol (keyF l i) (wAt l j) = true)) (l := Sep.iota l.length)
          (fun x _ hx => by
            have := of_decide_eq_true hx
            exact decide_eq_true ⟨this.1, by omega, this.2.2⟩)
          ⟨w, iota_mem'.2 ⟨hw'.1, hw'.2.1⟩, decide_eq_true ⟨hw, by omega, decide_eq_true ⟨hw'.2.2.2, by omega⟩⟩, decide_eq_false (fun hh => by omega)⟩
        omega
    have h1 := main last.length (Nat.le_refl _)
    have h2 := cnt_more (p := fun j => decide (j ∈ P ∧ rd out j < (last.length : Int) ∧ atCol (keyF l i) (wAt l j) = true)) (q := fun j => atCol (keyF l i) (wAt l j)) (l := Sep.iota l.length)
      (fun x _ hx => (of_decide_eq_true hx).2.2)
      ⟨i, iota_mem'.2 hi, decide_eq_true ⟨Int.le_refl _, hg.2.1⟩, decide_eq_false (fun hh => (hP i hh.1).2.2.1 rfl)⟩
    omega
  · rw [if_neg hc] at hlen
    rcases hd with hd | ⟨x, h0, h1, h2⟩
    · subst hd
      exact absurd (by simp [Sep.leTrack]) hc
    · exact .inr ⟨x, h0, h1, by rw [hlen]; exact h2⟩
theorem edge_all (l : List S32) (hg : ∀ i : Int, 0 ≤ i → i < (l.length : Int) → 0 ≤ keyF l i ∧ keyF l i ≤ (wAt l i).f1 ∧ (wAt l i).f1 ≤ 50) : ∀ (r P out last : List Int), (P ++ r).Pairwise (ltO (keyF l)) → (∀ w ∈ P ++ r, 0 ≤ w ∧ w < (l.length : Int)) → out.length = l.length → last.length ≤ P.length → InvE l P out last → SepE l P out → DenE l last →
    ∃ last', InvE l (P ++ r) (impl_LeftEdge.run l r (out, last)).1 last' ∧ SepE l (P ++ r) (impl_LeftEdge.run l r (out, last)).1 ∧ DenE l last' ∧ last'.length ≤ (P ++ r).length := by
  intro r
  induction r with
  | nil => intro P out last _ _ _ hl hI hS hD; rw [List.append_nil]; exact ⟨last, hI, hS, hD, hl⟩
  | cons i r ih =>
    intro P out last hpw hm ho hl hI hS hD
    obtain ⟨hi0, hi1⟩ := hm i (by simp)
    have hgi := hg i hi0 hi1
    have hP : ∀ w ∈ P, 0 ≤ w ∧ w < (l.length : Int) := fun w hw => hm w (by simp [hw])
    have hPi : ∀ w ∈ P, ltO (keyF l) w i := fun w hw => (List.pairwise_append.1 hpw).2.2 w hw i (by simp)
    have hne : ∀ w ∈ P, 0 ≤ w ∧ w ≠ i := fun w hw => ⟨(hP w hw).1, fun e => by have := hPi w hw; unfold ltO at this; rw [e] at this; omega⟩
    have hkey : ∀ w ∈ P, keyF l w ≤ keyF l i := fun w hw => by have := hPi w hw; unfold ltO at this; omega
    have hI2 := hI.step ⟨hi0, by omega⟩ hne hgi.2.1
    have hS2 := hS.step hI ⟨hi0, by omega⟩ hne
    have hD2 := hD.step hI ⟨hi0, hi1⟩ (fun w hw => ⟨(hP w hw).1, (hP w hw).2, (hne w hw).2, hkey w hw⟩) hgi
    have hlen := leLast_length (keyF l i) (wAt l i).f1 last
    have e : P ++ i :: r = (P ++ [i]) ++ r := by simp
    rw [e, impl_LeftEdge.run_cons]
    refine ih (P ++ [i]) _ _ (by rw [← e]; exact hpw) (by rw [← e]; exact hm) (by rw [List.length_set]; exact ho) ?_ hI2 hS2 hD2
    have : (Sep.leLast (keyF l i) (wAt l i).f1 last).length ≤ (P ++ [i]).length := by
      rw [hlen, List.length_append, List.length_singleton]
      split <;> omega
    exact this

/-! #### edgeTop -/
/-- What the left edge's tracks are: m of them, from 0 on, none with two wires that meet; and some column is as dense. -/
structure Edge (l : List S32) (e : List Int) (m : Nat) : Prop where
  len : e.length = l.length
  le : m ≤ l.length
  lt : ∀ j : Int, 0 ≤ j → j < (l.length : Int) → 0 ≤ rd e j ∧ rd e j < (m : Int)
  ex : ∀ t : Nat, t < m → ∃ j : Int, 0 ≤ j ∧ j < (l.length : Int) ∧ rd e j = (t : Int)
  sep : ∀ i j : Int, 0 ≤ i → i < (l.length : Int) → 0 ≤ j → j < (l.length : Int) → i ≠ j → rd e i = rd e j → meetB (wAt l i) (wAt l j) = false
  den : m = 0 ∨ ∃ x : Int, 0 ≤ x ∧ x ≤ 50 ∧ (m : Int) ≤ densityM l x
theorem edge_top (l : List S32) (hl : l.length ≤ 1048576) (h : chanM l = true) : ∃ m, Edge l (edgeR l) m ∧ Ev (fun k => spec_LeftEdge.f k l) (edgeR l, true) ∧ Ev (fun k => impl_LeftEdge.f k l) (edgeR l, true) := by
  obtain ⟨h20, hg⟩ := chanM_of h
  have ho := leftEdge_ord hg
  have hs := spec_rtOrder_ev l (by omega)
  have hk := fun i h0 h1 => goodKey (l := l) hg i h0 h1
  have hpw := bucks_pw (keyF l) l.length 51
  have hmem : ∀ w : Int, w ∈ bucks (keyF l) l.length 51 ↔ (0 ≤ w ∧ w < (l.length : Int)) := fun w => by
    rw [bucks_mem]
    refine ⟨fun hh => ⟨hh.1, hh.2.1⟩, fun hh => ?_⟩
    have := hk w hh.1 hh.2
    exact ⟨hh.1, hh.2, this.1, by omega⟩
  have hql : (bucks (keyF l) l.length 51).length = l.length := by
    rw [← ho]
    unfold impl_LeftEdge.ord
    rw [Sep.isTo_length, Sep.iota_length]
  have hE : edgeR l = (impl_LeftEdge.run l (bucks (keyF l) l.length 51) (List.replicate l.length 0, [])).1 := by unfold edgeR; rfl
  have hlen : (edgeR l).length = l.length := by
    rw [hE, run_length, List.length_replicate]
  obtain ⟨q, hq⟩ : ∃ q, q = bucks (keyF l) l.length 51 := ⟨_, rfl⟩
  have hr := leftEdge_spec l h20 hg q hq
  rw [← hq] at ho hs hpw hmem hql hE
  obtain ⟨last, hI, hS, hD, hL⟩ := edge_all l hk q [] (List.replicate l.length 0) [] (by rw [List.nil_append]; exact hpw) (fun w hw => (hmem w).1 hw) (by simp) (by simp)
    ⟨fun w hw => absurd hw (by simp), fun t ht => absurd ht (by simp), fun t ht => absurd ht (by simp)⟩ (fun w hw => absurd hw (by simp)) (.inl rfl)
  rw [List.nil_append, ← hE] at hI hS
  rw [List.nil_append] at hL
  rw [← hE] at hr
  generalize edgeR l = e at hI hS hr hlen hE
  have hi : Ev (fun k => impl_LeftEdge.f k l) (e, true) := by
    unfold impl_LeftEdge.f
    rw [ho, ← hE]
    exact Ev.bind (impl_AreChannelWires_ev l (by omega)) (ev_p h (ev_p h20 (Ev.now _)))
  have hsp : Ev (fun k => spec_LeftEdge.f k l) (e, true) := by
    unfold spec_LeftEdge.f
    refine Ev.bind (spec_rtGood_ev l (by omega)) (ev_p h (ev_p (by omega) (ev_p (by omega) (Ev.bind hs ?_))))
    rw [Int.toNat_natCast]
    exact hr
  refine ⟨last.length, ⟨hlen, by omega, fun j h0 h1 => hI.lt j ((hmem j).2 ⟨h0, h1⟩), fun t ht => ?_, fun i j a b c d hne he => hS i ((hmem i).2 ⟨a, b⟩) j ((hmem j).2 ⟨c, d⟩) hne he, ?_⟩, hsp, hi⟩
  · obtain ⟨w, hw, h1, _⟩ := hI.ex t ht
    exact ⟨w, ((hmem w).1 hw).1, ((hmem w).1 hw).2, h1⟩
  · rcases hD with hD | hD
    · exact .inl (by rw [hD]; rfl)
    · exact .inr hD
theorem edge_bad (l : List S32) (hl : l.length ≤ 1048576) (h : ¬ chanM l = true) : Ev (fun k => spec_LeftEdge.f k l) ([], false) ∧ Ev (fun k => impl_LeftEdge.f k l) ([], false) := by
  refine ⟨?_, ?_⟩
  · unfold spec_LeftEdge.f
    exact Ev.bind (spec_rtGood_ev l (by omega)) (ev_n h (Ev.now _))
  · unfold impl_LeftEdge.f
    exact Ev.bind (impl_AreChannelWires_ev l (by omega)) (ev_n h (Ev.now _))

/-! #### allB -/
/-- f at j, j + 1, .. : d of them. -/
def allB (f : Nat → Bool) : Nat → Nat → Bool
  | _, 0 => true
  | j, d + 1 => f j && allB f (j + 1) d
theorem allB_iff (f : Nat → Bool) (d : Nat) : ∀ j, allB f j d = true ↔ ∀ x, j ≤ x → x < j + d → f x = true := by
  induction d with
  | zero => intro j; simp [allB]; intro x h1 h2; omega
  | succ d ih =>
    intro j
    rw [allB, Bool.and_eq_true, ih]
    constructor
    · rintro ⟨h1, h2⟩ x h3 h4
      by_cases e : x = j
      · rw [e]; exact h1
      · exact h2 x (by omega) (by omega)
    · intro h
      exact ⟨h j (Nat.le_refl _) (by omega), fun x h1 h2 => h x (by omega) (by omega)⟩

/-! #### routM -/
theorem impl_wiresMeet_eq (a b : S32) : impl_wiresMeet.f a.f0 a.f1 b.f0 b.f1 = some (meetB a b) := by
  unfold impl_wiresMeet.f meetB
  by_cases h : a.f0 ≤ b.f1
  · rw [if_pos h]; simp [h]
  · rw [if_neg h]; simp [h]
/-- The wires i and k are in different tracks, or do not meet. -/
def okPair (l : List S32) (tr : List Int) (i k : Nat) : Bool := !(decide (rd tr i = rd tr k) && meetB (rd_T32 l i) (rd_T32 l k))
def routM (l : List S32) (tr : List Int) : Bool := allB (fun i => allB (okPair l tr i) 0 i) 0 l.length

/-! #### impl_isRouting -/
theorem impl_isRouting_l1 (l : List S32) (tr : List Int) (hl : l.length ≤ 1048576) (ht : tr.length = l.length) (i : Nat) (hi : i < l.length) (res : Bool) (d : Nat) : ∀ (j : Nat), j + d = i →
    (allB (okPair l tr i) j d = true → Ev (fun k => impl_isRouting.l0 k l tr l.length (wrap64 ((i : Int) + 1))) res) → (allB (okPair l tr i) j d = false → res = false) →
    Ev (fun k => impl_isRouting.l1 k l tr i j l.length i) res := by
  induction d with
  | zero =>
    intro j hj h1 h2
    apply ev_up
    simp only [impl_isRouting.l1]
    exact ev_n (by omega) (h1 rfl)
  | succ d ih =>
    intro j hj h1 h2
    apply ev_up
    simp only [impl_isRouting.l1]
    refine ev_p (by omega) (ev_p (by omega) (ev_p (by omega) (ev_p (by omega) (ev_p (by omega) ?_))))
    rw [wN (n := (j : Int) + 1) (m := j + 1) (by omega) (by omega), allB] at *
    have yes : okPair l tr i j = true → Ev (fun k => impl_isRouting.l1 k l tr i ((j + 1 : Nat) : Int) l.length i) res := fun h => by
      rw [h, Bool.true_and] at h1 h2
      exact ih (j + 1) (by omega) h1 h2
    refine ev_ite (fun c1 => ev_p (by omega) (ev_p (by omega) ?_)) (fun c1 => ?_)
    · rw [impl_wiresMeet_eq]
      refine Ev.bind (ev_c rfl) (ev_ite (fun c2 => ?_) (fun c2 => ?_))
      · have : okPair l tr i j = false := by unfold okPair; rw [decide_eq_true c1, c2]; rfl
        rw [h2 (by rw [this, Bool.false_and])]
        exact Ev.now _
      · exact yes (by unfold okPair; rw [show meetB (rd_T32 l i) (rd_T32 l j) = false by simpa using c2, Bool.and_false]; rfl)
    · exact yes (by unfold okPair; rw [decide_eq_false c1, Bool.false_and]; rfl)
theorem impl_isRouting_l0 (l : List S32) (tr : List Int) (hl : l.length ≤ 1048576) (ht : tr.length = l.length) (d : Nat) : ∀ (i : Nat), i + d = l.length →
    Ev (fun k => impl_isRouting.l0 k l tr l.length i) (allB (fun i => allB (okPair l tr i) 0 i) i d) := by
  induction d with
  | zero =>
    intro i hi
    apply ev_up
    simp only [impl_isRouting.l0]
    exact ev_n (by omega) (Ev.now _)
  | succ d ih =>
    intro i hi
    apply ev_up
    simp only [impl_isRouting.l0]
    refine ev_p (by omega) ?_
    refine impl_isRouting_l1 l tr hl ht i (by omega) _ i 0 (by omega) (fun h => ?_) (fun h => ?_)
    · rw [wN (n := (i : Int) + 1) (m := i + 1) (by omega) (by omega), allB, h, Bool.true_and]
      exact ih (i + 1) (by omega)
    · rw [allB, h, Bool.false_and]
theorem impl_isRouting_ev (l : List S32) (tr : List Int) (hl : l.length ≤ 1048576) (ht : tr.length = l.length) : Ev (fun k => impl_isRouting.f k l tr) (routM l tr) := by
  unfold impl_isRouting.f routM
  exact impl_isRouting_l0 l tr hl ht l.length 0 (by omega)

/-! #### l1All -/
def inB (a b : Int) (x : Int) : Bool := decide (a ≤ x ∧ x ≤ b)
theorem l1All_l0 (l : List Int) (a b : Int) (hl : l.length ≤ 9223372036854775807) (r : List Int) : ∀ (p : List Int) (i : Int), i = p.length → l = p ++ r →
    Ev (fun k => spec_l1All.l0 k a b l l.length i) (r.all (inB a b)) := by
  induction r with
  | nil =>
    intro p i hi e
    have hlen : l.length = p.length := by rw [e]; simp
    apply ev_up
    simp only [spec_l1All.l0]
    exact ev_n (by omega) (Ev.now _)
  | cons x r ih =>
    intro p i hi e
    have hlen : l.length = p.length + r.length + 1 := by rw [e]; simp; omega
    have hx : rd l i = x := by rw [e]; exact rdA hi
    have ih' := ih (p ++ [x]) (i + 1) (by simp; omega) (by rw [e]; simp)
    apply ev_up
    simp only [spec_l1All.l0]
    refine ev_p (by omega) (ev_p (by omega) (ev_p (by omega) ?_))
    rw [hx, l1In_eq]
    refine Ev.bind (ev_c rfl) ?_
    refine ev_ite (fun h => ?_) (fun h => ?_)
    · rw [w64 (by omega) (by omega)]
      refine ev_eq ih' ?_
      rw [List.all_cons, show inB a b x = true from h, Bool.true_and]
    · refine ev_eq (Ev.now _) ?_
      rw [List.all_cons, show inB a b x = false from decide_eq_false (fun hh => h (decide_eq_true hh)), Bool.false_and]
theorem l1All_ev (l : List Int) (a b : Int) (hl : l.length ≤ 9223372036854775807) : Ev (fun k => spec_l1All.f k l a b) (l.all (inB a b)) := by
  unfold spec_l1All.f
  exact l1All_l0 l a b hl l [] 0 rfl rfl

/-! #### tracksM -/
def tracksM (l : List Int) : Bool := decide (l.length ≤ 20) && l.all (inB 0 19)
theorem spec_rtTracks_ev (l : List Int) (hl : l.length ≤ 9223372036854775807) : Ev (fun k => spec_rtTracks.f k l) (tracksM l) := by
  unfold spec_rtTracks.f tracksM
  refine ev_ite (fun h => ?_) (fun h => ?_)
  · rw [decide_eq_true (by omega), Bool.true_and]
    exact Ev.bind (l1All_ev l 0 19 hl) (Ev.now _)
  · rw [decide_eq_false (by omega), Bool.false_and]
    exact Ev.now _
theorem tracksM_bounds {l : List Int} (h : tracksM l = true) : l.length ≤ 20 ∧ ∀ x ∈ l, 0 ≤ x ∧ x ≤ 19 := by
  unfold tracksM at h
  rw [Bool.and_eq_true, List.all_eq_true] at h
  exact ⟨of_decide_eq_true h.1, fun x hx => of_decide_eq_true (h.2 x hx)⟩

/-! #### impl_areTracks -/
theorem impl_areTracks_l0 (l : List Int) (hl : l.length ≤ 9223372036854775807) (r : List Int) : ∀ (p : List Int) (i : Int), i = p.length → l = p ++ r →
    Ev (fun k => impl_areTracks.l0 k l l.length i) (r.all (inB 0 19)) := by
  induction r with
  | nil =>
    intro p i hi e
    have hlen : l.length = p.length := by rw [e]; simp
    apply ev_up
    simp only [impl_areTracks.l0]
    exact ev_n (by omega) (Ev.now _)
  | cons x r ih =>
    intro p i hi e
    have hlen : l.length = p.length + r.length + 1 := by rw [e]; simp; omega
    have hx : rd l i = x := by rw [e]; exact rdA hi
    have ih' := ih (p ++ [x]) (i + 1) (by simp; omega) (by rw [e]; simp)
    apply ev_up
    simp only [impl_areTracks.l0]
    refine ev_p (by omega) (ev_p (by omega) (ev_p (by omega) ?_))
    rw [hx]
    refine ev_ite (fun h => ?_) (fun h => ev_ite (fun h2 => ?_) (fun h2 => ?_))
    · refine ev_eq (Ev.now _) ?_
      rw [List.all_cons, show inB 0 19 x = false from decide_eq_false (by omega), Bool.false_and]
    · refine ev_eq (Ev.now _) ?_
      rw [List.all_cons, show inB 0 19 x = false from decide_eq_false (by omega), Bool.false_and]
    · rw [w64 (by omega) (by omega)]
      refine ev_eq ih' ?_
      rw [List.all_cons, show inB 0 19 x = true from decide_eq_true (by omega), Bool.true_and]
theorem impl_areTracks_ev (l : List Int) (hl : l.length ≤ 9223372036854775807) : Ev (fun k => impl_areTracks.f k l) (tracksM l) := by
  unfold impl_areTracks.f tracksM
  refine ev_ite (fun h => ?_) (fun h => ?_)
  · rw [decide_eq_false (by omega), Bool.false_and]
    exact Ev.now _
  · rw [decide_eq_true (by omega), Bool.true_and]
    exact impl_areTracks_l0 l hl l [] 0 rfl rfl

/-! #### implIsRouting -/
def isRoutingM (l : List S32) (tr : List Int) : Bool × Bool := if chanM l = true ∧ tracksM tr = true ∧ tr.length = l.length then (routM l tr, true) else (false, false)
theorem impl_IsRouting_ev (l : List S32) (tr : List Int) (hl : l.length ≤ 1048576) (ht : tr.length ≤ 1048576) : Ev (fun k => impl_IsRouting.f k l tr) (isRoutingM l tr) := by
  unfold impl_IsRouting.f isRoutingM
  refine Ev.bind (impl_AreChannelWires_ev l (by omega)) (ev_ite (fun h1 => Ev.bind (impl_areTracks_ev tr (by omega)) (ev_ite (fun h2 => ev_ite (fun h3 => ?_) (fun h3 => ?_)) (fun h2 => ?_))) (fun h1 => ?_))
  · have h3' : tr.length = l.length := by omega
    rw [if_pos ⟨h1, h2, h3'⟩]
    exact Ev.bind (impl_isRouting_ev l tr hl h3') (Ev.now _)
  · rw [if_neg (fun hh => h3 (by rw [hh.2.2]))]
    exact Ev.now _
  · rw [if_neg (fun hh => h2 hh.2.1)]
    exact Ev.now _
  · rw [if_neg (fun hh => h1 hh.1)]
    exact Ev.now _

/-! #### putM -/
/-- A number put into an increasing list. -/
def putM : List Int → Int → List Int
  | [], x => [x]
  | y :: r, x => if y < x then y :: putM r x else if y = x then y :: r else x :: y :: r
theorem putM_mem (l : List Int) (x z : Int) : z ∈ putM l x ↔ z ∈ l ∨ z = x := by
  induction l with
  | nil => simp [putM]
  | cons y r ih =>
    unfold putM
    by_cases h1 : y < x
    · rw [if_pos h1]
      simp only [List.mem_cons, ih, or_assoc]
    · rw [if_neg h1]
      by_cases h2 : y = x
      · rw [if_pos h2]
        subst h2
        constructor
        · intro h; exact .inl h
        · rintro (h | h)
          · exact h
          · simp [h]
      · rw [if_neg h2]
        simp only [List.mem_cons]
        exact ⟨fun h => h.symm, fun h => h.symm⟩
theorem putM_sorted (l : List Int) (x : Int) (h : l.Pairwise (· < ·)) : (putM l x).Pairwise (· < ·) := by
  induction l with
  | nil => simp [putM]
  | cons y r ih =>
    rw [List.pairwise_cons] at h
    unfold putM
    by_cases h1 : y < x
    · rw [if_pos h1, List.pairwise_cons]
      refine ⟨fun z hz => ?_, ih h.2⟩
      rcases (putM_mem r x z).1 hz with hz | hz
      · exact h.1 z hz
      · omega
    · rw [if_neg h1]
      by_cases h2 : y = x
      · rw [if_pos h2, List.pairwise_cons]; exact h
      · rw [if_neg h2, List.pairwise_cons, List.pairwise_cons]
        refine ⟨fun z hz => ?_, h⟩
        rcases List.mem_cons.1 hz with hz | hz
        · omega
        · have := h.1 z hz; omega
theorem putM_length (l : List Int) (x : Int) (h : l.Pairwise (· < ·)) : (putM l x).length = if x ∈ l then l.length else l.length + 1 := by
  induction l with
  | nil => simp [putM]
  | cons y r ih =>
    rw [List.pairwise_cons] at h
    unfold putM
    by_cases h1 : y < x
    · rw [if_pos h1, List.length_cons, ih h.2, List.length_cons]
      have : (x ∈ y :: r) ↔ x ∈ r := by
        rw [List.mem_cons]
        exact ⟨fun hh => hh.resolve_left (by omega), .inr⟩
      by_cases h3 : x ∈ r
      · rw [if_pos h3, if_pos (this.2 h3)]
      · rw [if_neg h3, if_neg (fun hh => h3 (this.1 hh))]
    · rw [if_neg h1]
      by_cases h2 : y = x
      · rw [if_pos h2, if_pos (by simp [h2])]
      · rw [if_neg h2, if_neg]
        · simp
        · intro hh
          rcases List.mem_cons.1 hh with hh | hh
          · omega
          · have := h.1 x hh; omega
theorem spec_l1Put_l0 (l : List Int) (x : Int) (hl : l.length ≤ 1048576) (r : List Int) : ∀ (p : List Int) (i : Int), i = p.length → l = p ++ r →
    Ev (fun k => spec_l1Put.l0 k l x i) (p ++ putM r x) := by
  induction r with
  | nil =>
    intro p i hi e
    have hlen : l.length = p.length := by rw [e]; simp
    apply ev_up
    simp only [spec_l1Put.l0]
    refine ev_n (by omega) ?_
    simp only [Option.bind_some]
    refine ev_p (by omega) (ev_p (by omega) ?_)
    have ht : l.take i.toNat = p := by rw [e]; simp [hi]
    have hd : l.drop i.toNat = [] := by rw [e]; simp [hi]
    rw [ht, hd]
    refine ev_p (by simp; omega) (ev_p (by simp; omega) (ev_p (by simp; omega) ?_))
    refine ev_eq (Ev.now _) ?_
    simp [putM]
  | cons y r ih =>
    intro p i hi e
    have hlen : l.length = p.length + r.length + 1 := by rw [e]; simp; omega
    have hx : rd l i = y := by rw [e]; exact rdA hi
    have ih' := ih (p ++ [y]) (i + 1) (by simp; omega) (by rw [e]; simp)
    have ht : l.take i.toNat = p := by rw [e]; simp [hi]
    have hd : l.drop i.toNat = y :: r := by rw [e]; simp [hi]
    apply ev_up
    simp only [spec_l1Put.l0]
    refine ev_p (by omega) (ev_p (by omega) ?_)
    rw [hx]
    unfold putM
    refine ev_ite (fun h => ?_) (fun h => ev_ite (fun h2 => ?_) (fun h2 => ?_))
    · rw [if_pos h, w64 (by omega) (by omega)]
      refine ev_eq ih' ?_
      simp
    · rw [if_neg h, if_pos h2]
      refine ev_eq (Ev.now _) ?_
      exact e
    · rw [if_neg h, if_neg h2]
      simp only [Option.bind_some]
      rw [ht, hd]
      refine ev_p (by omega) (ev_p (by simp; omega) (ev_p (by simp; omega) (ev_p (by simp; omega) ?_)))
      refine ev_eq (Ev.now _) ?_
      simp
theorem spec_l1Put_ev (l : List Int) (x : Int) (hl : l.length ≤ 1048576) : Ev (fun k => spec_l1Put.f k l x) (putM l x) := by
  unfold spec_l1Put.f
  exact spec_l1Put_l0 l x hl l [] 0 rfl rfl

/-! #### tracksUsed -/
def usedS (l : List Int) : List Int := l.foldl putM []
theorem usedS_len (l : List Int) : ∀ a : List Int, (l.foldl putM a).length ≤ a.length + l.length := by
  induction l with
  | nil => intro a; simp
  | cons x r ih =>
    intro a
    have h1 := ih (putM a x)
    have h2 : (putM a x).length ≤ a.length + 1 := by
      clear h1 ih
      induction a with
      | nil => simp [putM]
      | cons y b ih =>
        unfold putM
        split
        · simp; omega
        · split <;> simp
    simp only [List.foldl_cons, List.length_cons]
    omega
theorem spec_TracksUsed_l0 (l : List Int) (hl : l.length ≤ 20) (r : List Int) : ∀ (p : List Int) (a : List Int) (i : Int), i = p.length → l = p ++ r → a.length ≤ p.length →
    Ev (fun k => spec_TracksUsed.l0 k a l l.length i) (((r.foldl putM a).length : Int), true) := by
  induction r with
  | nil =>
    intro p a i hi e ha
    have hlen : l.length = p.length := by rw [e]; simp
    apply ev_up
    simp only [spec_TracksUsed.l0]
    refine ev_n (by omega) ?_
    exact Ev.now _
  | cons y r ih =>
    intro p a i hi e ha
    have hlen : l.length = p.length + r.length + 1 := by rw [e]; simp; omega
    have hx : rd l i = y := by rw [e]; exact rdA hi
    have h2 := usedS_len [y] a
    have ih' := ih (p ++ [y]) (putM a y) (i + 1) (by simp; omega) (by rw [e]; simp) (by simp at h2 ⊢; omega)
    apply ev_up
    simp only [spec_TracksUsed.l0]
    refine ev_p (by omega) (ev_p (by omega) (ev_p (by omega) ?_))
    rw [hx, w64 (by omega) (by omega)]
    exact Ev.bind (spec_l1Put_ev a y (by omega)) ih'
def tracksUsedM (l : List Int) : Int × Bool := if tracksM l = true then (((usedS l).length : Int), true) else (0, false)
theorem spec_TracksUsed_ev (l : List Int) (hl : l.length ≤ 9223372036854775807) : Ev (fun k => spec_TracksUsed.f k l) (tracksUsedM l) := by
  unfold spec_TracksUsed.f tracksUsedM
  refine Ev.bind (spec_rtTracks_ev l hl) ?_
  refine ev_ite (fun h => ?_) (fun h => ?_)
  · rw [if_pos h]
    exact spec_TracksUsed_l0 l (tracksM_bounds h).1 l [] [] 0 rfl rfl (by simp)
  · rw [if_neg h]
    exact Ev.now _
theorem anyKey (y : Int) (a : List Int) : (a.map (Lit.int .i64)).any (fun z => z.sameKey (.int .i64 y)) = decide (y ∈ a) := by
  induction a with
  | nil => simp
  | cons x r ih =>
    rw [List.map_cons, List.any_cons, ih]
    by_cases h : x = y
    · simp [Lit.sameKey, h]
    · have h' : ¬ y = x := fun e => h e.symm
      simp [Lit.sameKey, h, h']
theorem used_same (l : List Int) : ∀ a b : List Int, a.Pairwise (· < ·) → a.length = b.length → (∀ x, x ∈ a ↔ x ∈ b) →
    (l.foldl putM a).length = ((l.map (Lit.int .i64)).foldl Go.Maps.addKey (b.map (Lit.int .i64))).length := by
  induction l with
  | nil => intro a b _ h _; simpa using h
  | cons x r ih =>
    intro a b hs h hm
    rw [List.foldl_cons, List.map_cons, List.foldl_cons]
    have e : Go.Maps.addKey (b.map (Lit.int .i64)) (.int .i64 x) = (if x ∈ b then b else b ++ [x]).map (Lit.int .i64) := by
      unfold Go.Maps.addKey
      rw [anyKey]
      by_cases hx : x ∈ b <;> simp [hx]
    rw [e]
    refine ih _ _ (putM_sorted a x hs) ?_ ?_
    · rw [putM_length a x hs]
      by_cases hx : x ∈ b
      · rw [if_pos hx, if_pos ((hm x).2 hx), h]
      · rw [if_neg hx, if_neg (fun hh => hx ((hm x).1 hh)), h]; simp
    · intro z
      rw [putM_mem, hm]
      by_cases hx : x ∈ b
      · rw [if_pos hx]
        exact ⟨fun hh => hh.elim id (fun e => e ▸ hx), .inl⟩
      · rw [if_neg hx]; simp
theorem impl_TracksUsed_ev (l : List Int) (hl : l.length ≤ 9223372036854775807) : Ev (fun k => impl_TracksUsed.f k l) (tracksUsedM l) := by
  unfold impl_TracksUsed.f tracksUsedM
  refine Ev.bind (impl_areTracks_ev l hl) ?_
  refine ev_ite (fun h => ?_) (fun h => ?_)
  · rw [if_pos h]
    refine ev_p ?_ (ev_eq (Ev.now _) ?_)
    · unfold impl_TracksUsed.ok
      rw [List.all_eq_true]
      intro x hx
      have := (tracksM_bounds h).2 x hx
      simp; omega
    · have := used_same l [] [] List.Pairwise.nil rfl (fun _ => Iff.rfl)
      unfold usedS impl_TracksUsed.n
      rw [this]; rfl
  · rw [if_neg h]
    exact Ev.now _

/-! #### edgeUse -/
theorem rd_in {e : List Int} {x : Int} (h : x ∈ e) : ∃ j : Int, 0 ≤ j ∧ j < (e.length : Int) ∧ rd e j = x := by
  obtain ⟨n, hn, rfl⟩ := List.getElem_of_mem h
  exact ⟨n, by omega, by omega, rdN hn⟩
theorem edge_routing {l : List S32} {e : List Int} {m : Nat} (h : chanM l = true) (he : Edge l e m) : isRoutingM l e = (true, true) := by
  obtain ⟨h20, hg⟩ := chanM_of h
  have ht : tracksM e = true := by
    unfold tracksM
    rw [decide_eq_true (by rw [he.len]; exact h20), Bool.true_and, List.all_eq_true]
    intro x hx
    obtain ⟨j, h0, h1, rfl⟩ := rd_in hx
    have h2 := he.lt j h0 (by rw [← he.len]; exact h1)
    have h3 := he.le
    exact decide_eq_true (by omega)
  have hr : routM l e = true := by
    unfold routM
    rw [allB_iff]
    intro i _ hi
    rw [allB_iff]
    intro j _ hj
    unfold okPair
    by_cases hc : rd e (i : Int) = rd e (j : Int)
    · have := he.sep i j (by omega) (by omega) (by omega) (by omega) (by omega) hc
      unfold wAt at this
      rw [this]
      simp
    · rw [decide_eq_false hc]
      simp
  unfold isRoutingM
  rw [if_pos ⟨h, ht, he.len⟩, hr]
theorem usedS_facts (l : List Int) : ∀ a : List Int, a.Pairwise (· < ·) → (l.foldl putM a).Pairwise (· < ·) ∧ ∀ z, z ∈ l.foldl putM a ↔ z ∈ a ∨ z ∈ l := by
  induction l with
  | nil => intro a ha; exact ⟨ha, fun z => by simp⟩
  | cons x r ih =>
    intro a ha
    obtain ⟨h1, h2⟩ := ih (putM a x) (putM_sorted a x ha)
    refine ⟨h1, fun z => ?_⟩
    rw [List.foldl_cons, h2, putM_mem, List.mem_cons, or_assoc]
theorem edge_used {l : List S32} {e : List Int} {m : Nat} (h : chanM l = true) (he : Edge l e m) : tracksUsedM e = ((m : Int), true) := by
  have hr := edge_routing h he
  unfold isRoutingM at hr
  split at hr
  · rename_i hc
    unfold tracksUsedM
    rw [if_pos hc.2.1]
    obtain ⟨h1, h2⟩ := usedS_facts e [] List.Pairwise.nil
    have : usedS e = Sep.iota m := by
      refine pw_unique (· < ·) (fun a b h1 h2 => by omega) _ _ h1 (iota_pw m) (fun z => ?_)
      have h2z := h2 z
      rw [iota_mem']
      refine ⟨fun hz => ?_, fun hz => ?_⟩
      · rcases h2z.1 hz with hz | hz
        · simp at hz
        · obtain ⟨j, h0, h3, rfl⟩ := rd_in hz
          exact he.lt j h0 (by rw [← he.len]; exact h3)
      · obtain ⟨t, rfl⟩ := nat_of hz.1
        obtain ⟨j, h0, h3, h4⟩ := he.ex t (by omega)
        refine h2z.2 (.inr ?_)
        rw [← h4]
        exact rd_mem h0 (by rw [he.len]; exact h3)
    rw [this, Sep.iota_length]
  · simp at hr
theorem edge_dense {l : List S32} {e : List Int} {m : Nat} (he : Edge l e m) (x : Int) : densityM l x ≤ m := by
  rw [atIdx]
  have main : ∀ k : Nat, (Sep.iota l.length).countP (fun j => decide (atCol x (wAt l j) = true ∧ rd e j < (k : Int))) ≤ k := by
    intro k
    induction k with
    | zero =>
      refine Nat.le_of_eq ?_
      rw [List.countP_eq_zero]
      intro j hj hh
      have h1 := of_decide_eq_true hh
      have h2 := iota_mem'.1 hj
      have h3 := he.lt j h2.1 h2.2
      omega
    | succ k ih =>
      have h1 := cnt_or (s := fun j => decide (atCol x (wAt l j) = true ∧ rd e j < ((k + 1 : Nat) : Int))) (p := fun j => decide (atCol x (wAt l j) = true ∧ rd e j < (k : Int))) (q := fun j => decide (atCol x (wAt l j) = true ∧ rd e j = (k : Int))) (l := Sep.iota l.length)
        (fun j _ hh => by
          have h1 := of_decide_eq_true hh
          by_cases hc : rd e j = (k : Int)
          · exact .inr (decide_eq_true ⟨h1.1, hc⟩)
          · exact .inl (decide_eq_true ⟨h1.1, by omega⟩))
      have h2 := cnt_one (p := fun j => decide (atCol x (wAt l j) = true ∧ rd e j = (k : Int))) (iota_nodup l.length) (fun a ha b hb pa pb => by
        have pa := of_decide_eq_true pa
        have pb := of_decide_eq_true pb
        have ha := iota_mem'.1 ha
        have hb := iota_mem'.1 hb
        refine Classical.byContradiction fun hne => ?_
        have := he.sep a b ha.1 ha.2 hb.1 hb.2 hne (by rw [pa.2, pb.2])
        have ca := of_decide_eq_true pa.1
        have cb := of_decide_eq_true pb.1
        unfold meetB at this
        have := of_decide_eq_false this
        omega)
      omega
  have h1 := main m
  have h2 : (Sep.iota l.length).countP (fun j => atCol x (wAt l j)) ≤ (Sep.iota l.length).countP (fun j => decide (atCol x (wAt l j) = true ∧ rd e j < (m : Int))) := List.countP_mono_left (fun j hj hc => by
    have h2 := iota_mem'.1 hj
    exact decide_eq_true ⟨hc, (he.lt j h2.1 h2.2).2⟩)
  omega

/-! #### mostDense -/
/-- From column x on: the first greatest density. -/
def denseM (l : List S32) (b m : Int) (x : Int) : Nat → Int × Int
  | 0 => (b, m)
  | d + 1 => if densityM l x > m then denseM l x (densityM l x) (x + 1) d else denseM l b m (x + 1) d
def mostDenseM (l : List S32) : Int × Int × Bool := if chanM l = true then ((denseM l 0 (-1) 0 51).1, (denseM l 0 (-1) 0 51).2, true) else (0, 0, false)
theorem spec_MostDense_l0 (l : List S32) (hl : l.length ≤ 1048576) (d : Nat) : ∀ (b m x : Int), 0 ≤ x → x + d = 51 → Ev (fun k => spec_MostDense.l0 k l b m x) ((denseM l b m x d).1, (denseM l b m x d).2, true) := by
  induction d with
  | zero =>
    intro b m x h0 hx
    apply ev_up
    simp only [spec_MostDense.l0]
    exact ev_n (by omega) (Ev.now _)
  | succ d ih =>
    intro b m x h0 hx
    apply ev_up
    simp only [spec_MostDense.l0]
    refine ev_p (by omega) (Ev.bind (spec_rtDensity_ev l x hl) ?_)
    rw [w64 (by omega) (by omega)]
    simp only [denseM]
    refine ev_ite (fun h => ?_) (fun h => ?_)
    · rw [if_pos h]
      exact ih _ _ _ (by omega) (by omega)
    · rw [if_neg h]
      exact ih _ _ _ (by omega) (by omega)
theorem impl_MostDense_l0 (l : List S32) (hl : l.length ≤ 1048576) (d : Nat) : ∀ (b m x : Int), 0 ≤ x → x + d = 51 → Ev (fun k => impl_MostDense.l0 k l b m x) ((denseM l b m x d).1, (denseM l b m x d).2, true) := by
  induction d with
  | zero =>
    intro b m x h0 hx
    apply ev_up
    simp only [impl_MostDense.l0]
    exact ev_n (by omega) (Ev.now _)
  | succ d ih =>
    intro b m x h0 hx
    apply ev_up
    simp only [impl_MostDense.l0]
    refine ev_p (by omega) (Ev.bind (impl_densityAt_ev l x hl) ?_)
    rw [w64 (by omega) (by omega)]
    simp only [denseM]
    refine ev_ite (fun h => ?_) (fun h => ?_)
    · rw [if_pos h]
      exact ih _ _ _ (by omega) (by omega)
    · rw [if_neg h]
      exact ih _ _ _ (by omega) (by omega)
theorem spec_MostDense_ev (l : List S32) (hl : l.length ≤ 1048576) : Ev (fun k => spec_MostDense.f k l) (mostDenseM l) := by
  unfold spec_MostDense.f mostDenseM
  refine Ev.bind (spec_rtGood_ev l (by omega)) (ev_ite (fun h1 => ?_) (fun h1 => ?_))
  · rw [if_pos h1]
    exact spec_MostDense_l0 l hl 51 0 (-1) 0 (by omega) (by omega)
  · rw [if_neg h1]
    exact Ev.now _
theorem impl_MostDense_ev (l : List S32) (hl : l.length ≤ 1048576) : Ev (fun k => impl_MostDense.f k l) (mostDenseM l) := by
  unfold impl_MostDense.f mostDenseM
  refine Ev.bind (impl_AreChannelWires_ev l (by omega)) (ev_ite (fun h1 => ?_) (fun h1 => ?_))
  · rw [if_pos h1]
    refine Ev.bind (impl_densityAt_ev l 0 hl) ?_
    have e : denseM l 0 (-1) 0 51 = denseM l 0 (densityM l 0) 1 50 := by
      rw [denseM, if_pos (by have := (densityM_le l 0).1; omega)]
      rfl
    rw [e]
    exact impl_MostDense_l0 l hl 50 0 (densityM l 0) 1 (by omega) (by omega)
  · rw [if_neg h1]
    exact Ev.now _

/-! #### denseFacts -/
theorem denseM_facts (l : List S32) (d : Nat) : ∀ (b m x : Int), x + d = 51 → m ≤ (denseM l b m x d).2 ∧ (∀ y, x ≤ y → y < 51 → densityM l y ≤ (denseM l b m x d).2) ∧
    (denseM l b m x d = (b, m) ∨ (x ≤ (denseM l b m x d).1 ∧ (denseM l b m x d).1 < 51 ∧ densityM l (denseM l b m x d).1 = (denseM l b m x d).2 ∧ m < (denseM l b m x d).2 ∧ ∀ y, x ≤ y → y < (denseM l b m x d).1 → densityM l y < (denseM l b m x d).2)) := by
  induction d with
  | zero =>
    intro b m x hx
    exact ⟨Int.le_refl _, fun y h0 h1 => by omega, .inl rfl⟩
  | succ d ih =>
    intro b m x hx
    rw [denseM]
    by_cases hc : densityM l x > m
    · rw [if_pos hc]
      obtain ⟨h1, h2, h3⟩ := ih x (densityM l x) (x + 1) (by omega)
      generalize denseM l x (densityM l x) (x + 1) d = R at h1 h2 h3
      refine ⟨by omega, fun y h0 h4 => ?_, .inr ?_⟩
      · by_cases hy : y = x
        · rw [hy]; exact h1
        · exact h2 y (by omega) h4
      · rcases h3 with h3 | ⟨h3, h4, h5, h6, h7⟩
        · rw [h3]
          exact ⟨Int.le_refl _, by show x < 51; omega, rfl, hc, fun y h0 h4 => by have h4' : y < x := h4; omega⟩
        · refine ⟨by omega, h4, h5, by omega, fun y h0 h8 => ?_⟩
          by_cases hy : y = x
          · rw [hy]; exact h6
          · exact h7 y (by omega) h8
    · rw [if_neg hc]
      obtain ⟨h1, h2, h3⟩ := ih b m (x + 1) (by omega)
      generalize denseM l b m (x + 1) d = R at h1 h2 h3
      refine ⟨h1, fun y h0 h4 => ?_, ?_⟩
      · by_cases hy : y = x
        · rw [hy]; omega
        · exact h2 y (by omega) h4
      · rcases h3 with h3 | ⟨h3, h4, h5, h6, h7⟩
        · exact .inl h3
        · refine .inr ⟨by omega, h4, h5, h6, fun y h0 h8 => ?_⟩
          by_cases hy : y = x
          · rw [hy]; omega
          · exact h7 y (by omega) h8
/-- The densest column, the first such, and its density. -/
theorem dense_top (l : List S32) : ∃ c m : Int, denseM l 0 (-1) 0 51 = (c, m) ∧ 0 ≤ c ∧ c < 51 ∧ 0 ≤ m ∧ densityM l c = m ∧ (∀ y, 0 ≤ y → y < 51 → densityM l y ≤ m) ∧ ∀ y, 0 ≤ y → y < 51 → densityM l y = m → c ≤ y := by
  obtain ⟨h1, h2, h3⟩ := denseM_facts l 51 0 (-1) 0 (by omega)
  generalize denseM l 0 (-1) 0 51 = R at h1 h2 h3
  have h4 := h2 0 (by omega) (by omega)
  have h5 := (densityM_le l 0).1
  obtain ⟨c, m⟩ := R
  rcases h3 with h3 | ⟨h3, h6, h7, h8, h9⟩
  · injection h3 with e1 e2
    subst e2
    dsimp only at h4
    omega
  · dsimp only at *
    refine ⟨c, m, rfl, h3, h6, by omega, h7, h2, fun y h0 h51 he => ?_⟩
    refine Classical.byContradiction fun hh => ?_
    have := h9 y h0 (by omega)
    omega

/-! #### pairsM -/
def pairR (l : List S32) (i : Nat) : Nat → Nat → List (List Int)
  | _, 0 => []
  | j, d + 1 => (if meetB (rd_T32 l (i : Int)) (rd_T32 l (j : Int)) = true then [[(i : Int), (j : Int)]] else []) ++ pairR l i (j + 1) d
theorem pairR_length (l : List S32) (i d : Nat) : ∀ j, (pairR l i j d).length ≤ d := by
  induction d with
  | zero => intro j; simp [pairR]
  | succ d ih =>
    intro j
    have := ih (j + 1)
    rw [pairR]
    split <;> simp <;> omega
theorem pairR_rows (l : List S32) (i d : Nat) : ∀ j, ∀ y ∈ pairR l i j d, y.length = 2 := by
  induction d with
  | zero => intro j y hy; simp [pairR] at hy
  | succ d ih =>
    intro j y hy
    rw [pairR, List.mem_append] at hy
    rcases hy with hy | hy
    · split at hy
      · rw [List.mem_singleton] at hy
        rw [hy]
        rfl
      · simp at hy
    · exact ih (j + 1) y hy
def pairsR (l : List S32) : Nat → Nat → List (List Int)
  | _, 0 => []
  | i, d + 1 => pairR l i (i + 1) d ++ pairsR l (i + 1) d
theorem pairsR_length (l : List S32) (N d : Nat) (hd : d ≤ N) : ∀ i, (pairsR l i d).length ≤ N * d := by
  induction d with
  | zero => intro i; simp [pairsR]
  | succ d ih =>
    intro i
    have h1 := ih (by omega) (i + 1)
    have h2 := pairR_length l i d (i + 1)
    have h3 : N * (d + 1) = N * d + N := Nat.mul_succ N d
    rw [pairsR, List.length_append]
    omega
theorem pairsR_rows (l : List S32) (d : Nat) : ∀ i, ∀ y ∈ pairsR l i d, y.length = 2 := by
  induction d with
  | zero => intro i y hy; simp [pairsR] at hy
  | succ d ih =>
    intro i y hy
    rw [pairsR, List.mem_append] at hy
    rcases hy with hy | hy
    · exact pairR_rows l i d (i + 1) y hy
    · exact ih (i + 1) y hy
def meetingPairsM (l : List S32) : List (List Int) × Bool := if chanM l = true then (pairsR l 0 l.length, true) else ([], false)
theorem chan20 {l : List S32} (h : chanM l = true) : l.length ≤ 20 := by
  unfold chanM at h
  rw [Bool.and_eq_true] at h
  exact of_decide_eq_true h.1
theorem meetingPairsM_length (l : List S32) : (meetingPairsM l).1.length ≤ 400 ∧ ∀ y ∈ (meetingPairsM l).1, y.length ≤ 2 := by
  unfold meetingPairsM
  split
  · rename_i h
    have h20 := chan20 h
    have := pairsR_length l 20 l.length h20 0
    exact ⟨by simp only; omega, fun y hy => by rw [pairsR_rows l l.length 0 y hy]; exact Nat.le_refl _⟩
  · simp

/-! #### mostM -/
/-- b is the best of the wires p that begin behind end, or -1 where there is none. -/
def BestOf (l : List S32) (fin : Int) (p : List S32) (b : Int) : Prop :=
  (b = -1 ∧ ∀ w ∈ p, w.f0 ≤ fin) ∨ (0 ≤ b ∧ b < l.length ∧ (rd_T32 l b).f0 > fin ∧ ∀ w ∈ p, w.f0 > fin → (rd_T32 l b).f1 ≤ w.f1)
theorem rdWire_mem {l : List S32} {b : Int} (h0 : 0 ≤ b) (h1 : b < l.length) : rd_T32 l b ∈ l := by
  obtain ⟨n, rfl⟩ := nat_of h0
  have hn : n < l.length := by omega
  have : rd_T32 l (n : Int) = l[n] := getDN hn
  rw [this]
  exact List.getElem_mem hn
theorem spec_MostInTrack_l1 (l : List S32) (hl : l.length ≤ 20) (acc : List Int) (fin : Int) (r : List S32) : ∀ (p : List S32) (i b : Int), i = p.length → l = p ++ r → BestOf l fin p b →
    ∃ b', BestOf l fin l b' ∧ ∀ res, Ev (fun k => spec_MostInTrack.l1 k l acc fin b' l l.length l.length) res → Ev (fun k => spec_MostInTrack.l1 k l acc fin b l l.length i) res := by
  induction r with
  | nil =>
    intro p i b hi e hb
    have hp : l = p := by rw [e]; simp
    refine ⟨b, by rw [← hp] at hb; exact hb, fun res h => ?_⟩
    rw [hi, ← hp]
    exact h
  | cons x r ih =>
    intro p i b hi e hb
    have hlen : l.length = p.length + r.length + 1 := by rw [e]; simp; omega
    have hx : rd_T32 l i = x := by rw [e]; exact rdWireA hi
    have step : ∀ b2, BestOf l fin (p ++ [x]) b2 → (∀ res, Ev (fun k => spec_MostInTrack.l1 k l acc fin b2 l l.length (wrap64 (i + 1))) res → Ev (fun k => spec_MostInTrack.l1 k l acc fin b l l.length i) res) →
        ∃ b', BestOf l fin l b' ∧ ∀ res, Ev (fun k => spec_MostInTrack.l1 k l acc fin b' l l.length l.length) res → Ev (fun k => spec_MostInTrack.l1 k l acc fin b l l.length i) res := by
      intro b2 hb2 hk
      obtain ⟨b', h1, h2⟩ := ih (p ++ [x]) (i + 1) b2 (by simp; omega) (by rw [e]; simp) hb2
      refine ⟨b', h1, fun res h => hk res ?_⟩
      rw [w64 (by omega) (by omega)]
      exact h2 res h
    have go : ∀ (g : Nat → Option (List Int × Bool)) res, (∀ k, spec_MostInTrack.l1 (k + 1) l acc fin b l l.length i = g k) → Ev g res → Ev (fun k => spec_MostInTrack.l1 k l acc fin b l l.length i) res := fun g res h e => Ev.step h e
    by_cases c1 : x.f0 > fin
    · by_cases c2 : b < 0
      · refine step i (Or.inr ⟨by omega, by omega, by rw [hx]; exact c1, fun w hw hwf => ?_⟩) (fun res h => ?_)
        · rcases hb with ⟨_, hb⟩ | hb
          · rw [hx]
            rw [List.mem_append] at hw
            rcases hw with hw | hw
            · have := hb w hw
              omega
            · simp only [List.mem_singleton] at hw
              rw [hw]
              exact Int.le_refl _
          · omega
        · apply ev_up
          simp only [spec_MostInTrack.l1]
          refine ev_p (by omega) (ev_p (by omega) (ev_p (by omega) ?_))
          rw [hx]
          exact ev_p c1 (ev_p c2 h)
      · rcases hb with ⟨hb, _⟩ | ⟨hb0, hb1, hb2, hb3⟩
        · omega
        · by_cases c3 : x.f1 < (rd_T32 l b).f1
          · refine step i (Or.inr ⟨by omega, by omega, by rw [hx]; exact c1, fun w hw hwf => ?_⟩) (fun res h => ?_)
            · rw [hx]
              rw [List.mem_append] at hw
              rcases hw with hw | hw
              · have := hb3 w hw hwf
                omega
              · simp only [List.mem_singleton] at hw
                rw [hw]
                exact Int.le_refl _
            · apply ev_up
              simp only [spec_MostInTrack.l1]
              refine ev_p (by omega) (ev_p (by omega) (ev_p (by omega) ?_))
              rw [hx]
              exact ev_p c1 (ev_n c2 (ev_p hb0 (ev_p hb1 (ev_p c3 h))))
          · refine step b (Or.inr ⟨hb0, hb1, hb2, fun w hw hwf => ?_⟩) (fun res h => ?_)
            · rw [List.mem_append] at hw
              rcases hw with hw | hw
              · exact hb3 w hw hwf
              · simp only [List.mem_singleton] at hw
                rw [hw]
                omega
            · apply ev_up
              simp only [spec_MostInTrack.l1]
              refine ev_p (by omega) (ev_p (by omega) (ev_p (by omega) ?_))
              rw [hx]
              exact ev_p c1 (ev_n c2 (ev_p hb0 (ev_p hb1 (ev_n c3 h))))
    · refine step b ?_ (fun res h => ?_)
      · rcases hb with ⟨hb, hb'⟩ | ⟨hb0, hb1, hb2, hb3⟩
        · refine Or.inl ⟨hb, fun w hw => ?_⟩
          rw [List.mem_append] at hw
          rcases hw with hw | hw
          · exact hb' w hw
          · simp only [List.mem_singleton] at hw
            rw [hw]
            omega
        · refine Or.inr ⟨hb0, hb1, hb2, fun w hw hwf => ?_⟩
          rw [List.mem_append] at hw
          rcases hw with hw | hw
          · exact hb3 w hw hwf
          · simp only [List.mem_singleton] at hw
            rw [hw] at hwf
            omega
      · apply ev_up
        simp only [spec_MostInTrack.l1]
        refine ev_p (by omega) (ev_p (by omega) (ev_p (by omega) ?_))
        rw [hx]
        exact ev_n c1 h
/-- What the chosen wires are: indices, each behind the one before, and each wire behind the end meets one of them. -/
def Chosen (l : List S32) : Int → List Int → Prop
  | fin, [] => ∀ w ∈ l, w.f0 ≤ fin
  | fin, b :: r => 0 ≤ b ∧ b < l.length ∧ (rd_T32 l b).f0 > fin ∧ (∀ w ∈ l, w.f0 > fin → (rd_T32 l b).f1 ≤ w.f1) ∧ Chosen l (rd_T32 l b).f1 r
theorem spec_MostInTrack_l0 (l : List S32) (hl : l.length ≤ 20) (hg : ∀ w ∈ l, goodWire w = true) (d : Nat) : ∀ (acc : List Int) (fin : Int), -1 ≤ fin → fin ≤ 50 → 50 - fin ≤ d → acc.length + d ≤ 100 →
    ∃ ch, Chosen l fin ch ∧ ch.length ≤ d ∧ Ev (fun k => spec_MostInTrack.l0 k l acc fin) (acc ++ ch, true) := by
  induction d with
  | zero =>
    intro acc fin h0 h1 hd ha
    obtain ⟨b, hb, hk⟩ := spec_MostInTrack_l1 l hl acc fin l [] 0 (-1) rfl rfl (Or.inl ⟨rfl, fun w hw => by simp at hw⟩)
    rcases hb with ⟨hb, hb'⟩ | ⟨hb0, hb1, hb2, hb3⟩
    · refine ⟨[], hb', by simp, ?_⟩
      apply ev_up
      simp only [spec_MostInTrack.l0]
      refine hk _ ?_
      apply ev_up
      simp only [spec_MostInTrack.l1]
      rw [List.append_nil]
      exact ev_n (by omega) (ev_p (by omega) (Ev.now _))
    · have hw := of_decide_eq_true (hg _ (rdWire_mem hb0 hb1))
      omega
  | succ d ih =>
    intro acc fin h0 h1 hd ha
    obtain ⟨b, hb, hk⟩ := spec_MostInTrack_l1 l hl acc fin l [] 0 (-1) rfl rfl (Or.inl ⟨rfl, fun w hw => by simp at hw⟩)
    rcases hb with ⟨hb, hb'⟩ | ⟨hb0, hb1, hb2, hb3⟩
    · refine ⟨[], hb', by simp, ?_⟩
      apply ev_up
      simp only [spec_MostInTrack.l0]
      refine hk _ ?_
      apply ev_up
      simp only [spec_MostInTrack.l1]
      rw [List.append_nil]
      exact ev_n (by omega) (ev_p (by omega) (Ev.now _))
    · have hw := of_decide_eq_true (hg _ (rdWire_mem hb0 hb1))
      obtain ⟨ch, hc, hcl, he⟩ := ih (acc ++ [b]) (rd_T32 l b).f1 (by omega) (by omega) (by omega) (by simp; omega)
      refine ⟨b :: ch, ⟨hb0, hb1, hb2, hb3, hc⟩, by simp; omega, ?_⟩
      apply ev_up
      simp only [spec_MostInTrack.l0]
      refine hk _ ?_
      apply ev_up
      simp only [spec_MostInTrack.l1]
      refine ev_n (by omega) (ev_n (by omega) (ev_p (by omega) (ev_p hb0 (ev_p hb1 ?_))))
      simpa using he
theorem impl_MostInTrack_l (k : Nat) : (∀ l acc fin, impl_MostInTrack.l0 k l acc fin = spec_MostInTrack.l0 k l acc fin) ∧ (∀ l acc fin b xs e i, impl_MostInTrack.l1 k l acc fin b xs e i = spec_MostInTrack.l1 k l acc fin b xs e i) := by
  induction k with
  | zero => exact ⟨fun _ _ _ => rfl, fun _ _ _ _ _ _ _ => rfl⟩
  | succ k ih =>
    constructor
    · intro l acc fin
      simp only [impl_MostInTrack.l0, spec_MostInTrack.l0, ih.2]
    · intro l acc fin b xs e i
      simp only [impl_MostInTrack.l1, spec_MostInTrack.l1, ih.1, ih.2]

/-! #### mostInTrack -/
theorem mostInTrack_ev (l : List S32) (hl : l.length ≤ 1048576) : ∃ R : List Int × Bool, R.2 = chanM l ∧ R.1.length ≤ 51 ∧ (chanM l = true → Chosen l (-1) R.1) ∧ Ev (fun k => spec_MostInTrack.f k l) R ∧ Ev (fun k => impl_MostInTrack.f k l) R := by
  unfold spec_MostInTrack.f impl_MostInTrack.f
  simp only [(impl_MostInTrack_l _).1]
  by_cases h : chanM l = true
  · obtain ⟨h20, hg⟩ := chanM_of h
    obtain ⟨ch, hc, hcl, he⟩ := spec_MostInTrack_l0 l h20 hg 51 [] (-1) (by omega) (by omega) (by omega) (by simp)
    rw [List.nil_append] at he
    exact ⟨(ch, true), h.symm, hcl, fun _ => hc, Ev.bind (spec_rtGood_ev l (by omega)) (ev_p h he), Ev.bind (impl_AreChannelWires_ev l (by omega)) (ev_p h he)⟩
  · exact ⟨([], false), by simpa using h, by simp, fun hh => absurd hh h, Ev.bind (spec_rtGood_ev l (by omega)) (ev_n h (Ev.now _)), Ev.bind (impl_AreChannelWires_ev l (by omega)) (ev_n h (Ev.now _))⟩

/-! #### pairFacts -/
theorem pairR_mem (l : List S32) (i d : Nat) : ∀ j, ∀ y ∈ pairR l i j d, ∃ b : Nat, y = [(i : Int), (b : Int)] ∧ j ≤ b ∧ b < j + d ∧ meetB (rd_T32 l (i : Int)) (rd_T32 l (b : Int)) = true := by
  induction d with
  | zero => intro j y hy; simp [pairR] at hy
  | succ d ih =>
    intro j y hy
    rw [pairR, List.mem_append] at hy
    rcases hy with hy | hy
    · split at hy
      · rename_i hm
        exact ⟨j, List.mem_singleton.1 hy, Nat.le_refl _, by omega, hm⟩
      · simp at hy
    · obtain ⟨b, h1, h2, h3, h4⟩ := ih (j + 1) y hy
      exact ⟨b, h1, by omega, by omega, h4⟩
theorem pairsR_mem (l : List S32) (d : Nat) : ∀ i, ∀ y ∈ pairsR l i d, ∃ a b : Nat, y = [(a : Int), (b : Int)] ∧ a < b ∧ b < i + d ∧ meetB (rd_T32 l (a : Int)) (rd_T32 l (b : Int)) = true := by
  induction d with
  | zero => intro i y hy; simp [pairsR] at hy
  | succ d ih =>
    intro i y hy
    rw [pairsR, List.mem_append] at hy
    rcases hy with hy | hy
    · obtain ⟨b, h1, h2, h3, h4⟩ := pairR_mem l i d (i + 1) y hy
      exact ⟨i, b, h1, by omega, by omega, h4⟩
    · obtain ⟨a, b, h1, h2, h3, h4⟩ := ih (i + 1) y hy
      exact ⟨a, b, h1, h2, by omega, h4⟩
theorem chosen_in {l : List S32} : ∀ {ch : List Int} {fin : Int}, (∀ w ∈ l, goodWire w = true) → Chosen l fin ch → ∀ b ∈ ch, 0 ≤ b ∧ b < (l.length : Int) ∧ (rd_T32 l b).f0 > fin := by
  intro ch
  induction ch with
  | nil => intro fin _ _ b hb; simp at hb
  | cons c r ih =>
    rintro fin hg ⟨h0, h1, h2, h3, h4⟩ b hb
    rcases List.mem_cons.1 hb with e | e
    · rw [e]; exact ⟨h0, by omega, h2⟩
    · obtain ⟨a1, a2, a3⟩ := ih hg h4 b e
      refine ⟨a1, a2, ?_⟩
      obtain ⟨n, rfl⟩ := nat_of h0
      have hn : n < l.length := by omega
      have hw : rd_T32 l (n : Int) ∈ l := by
        unfold rd_T32
        rw [Int.toNat_natCast, List.getD_eq_getElem?_getD, List.getElem?_eq_getElem hn]
        exact List.getElem_mem hn
      have := of_decide_eq_true (hg _ hw)
      omega
theorem chosen_apart {l : List S32} : ∀ {ch : List Int} {fin : Int}, (∀ w ∈ l, goodWire w = true) → Chosen l fin ch → ∀ a ∈ ch, ∀ b ∈ ch, a ≠ b → meetB (rd_T32 l a) (rd_T32 l b) = false := by
  intro ch
  induction ch with
  | nil => intro fin _ _ a ha; simp at ha
  | cons c r ih =>
    rintro fin hg hc a ha b hb hne
    have hin := chosen_in hg hc.2.2.2.2
    rcases List.mem_cons.1 ha with ea | ea
    · rcases List.mem_cons.1 hb with eb | eb
      · exact absurd (ea.trans eb.symm) hne
      · have := (hin b eb).2.2
        rw [ea]
        exact decide_eq_false (by omega)
    · rcases List.mem_cons.1 hb with eb | eb
      · have := (hin a ea).2.2
        rw [eb]
        exact decide_eq_false (by omega)
      · exact ih hg hc.2.2.2.2 a ea b eb hne
theorem chosen_meets {l : List S32} : ∀ {ch : List Int} {fin : Int}, (∀ w ∈ l, goodWire w = true) → Chosen l fin ch → ∀ w ∈ l, w.f0 > fin → ∃ b ∈ ch, (rd_T32 l b).f0 ≤ w.f1 ∧ w.f0 ≤ (rd_T32 l b).f1 := by
  intro ch
  induction ch with
  | nil => intro fin _ hc w hw hf; have := hc w hw; omega
  | cons c r ih =>
    rintro fin hg ⟨h0, h1, h2, h3, h4⟩ w hw hf
    by_cases hm : w.f0 ≤ (rd_T32 l c).f1
    · refine ⟨c, List.mem_cons_self .., ?_, hm⟩
      have h5 := h3 w hw hf
      obtain ⟨n, rfl⟩ := nat_of h0
      have hn : n < l.length := by omega
      have hwn : rd_T32 l (n : Int) ∈ l := by
        unfold rd_T32
        rw [Int.toNat_natCast, List.getD_eq_getElem?_getD, List.getElem?_eq_getElem hn]
        exact List.getElem_mem hn
      have := of_decide_eq_true (hg _ hwn)
      omega
    · obtain ⟨b, hb, h5⟩ := ih hg h4 w hw (by omega)
      exact ⟨b, List.mem_cons_of_mem _ hb, h5⟩

/-! #### densityAt -/
def densityAtM (l : List S32) (x : Int) : Int × Bool := if chanM l = true ∧ 0 ≤ x ∧ x ≤ 50 then (densityM l x, true) else (0, false)
theorem spec_DensityAt_ev (l : List S32) (x : Int) (hl : l.length ≤ 1048576) : Ev (fun k => spec_DensityAt.f k l x) (densityAtM l x) := by
  unfold spec_DensityAt.f densityAtM
  refine Ev.bind (spec_rtGood_ev l (by omega)) (ev_ite (fun h1 => ?_) (fun h1 => ?_))
  · rw [l1In_eq]
    refine Ev.bind (ev_c rfl) (ev_ite (fun h2 => ?_) (fun h2 => ?_))
    · rw [if_pos ⟨h1, of_decide_eq_true h2⟩]
      exact Ev.bind (spec_rtDensity_ev l x hl) (Ev.now _)
    · rw [if_neg (fun h => h2 (decide_eq_true h.2))]
      exact Ev.now _
  · rw [if_neg (fun h => h1 h.1)]
    exact Ev.now _
theorem impl_DensityAt_ev (l : List S32) (x : Int) (hl : l.length ≤ 1048576) : Ev (fun k => impl_DensityAt.f k l x) (densityAtM l x) := by
  unfold impl_DensityAt.f densityAtM
  refine Ev.bind (impl_AreChannelWires_ev l (by omega)) (ev_ite (fun h1 => ?_) (fun h1 => ?_))
  · refine ev_ite (fun h2 => ?_) (fun h2 => ev_ite (fun h3 => ?_) (fun h3 => ?_))
    · rw [if_neg (fun h => by omega)]
      exact Ev.now _
    · rw [if_neg (fun h => by omega)]
      exact Ev.now _
    · rw [if_pos ⟨h1, by omega, by omega⟩]
      exact Ev.bind (impl_densityAt_ev l x hl) (Ev.now _)
  · rw [if_neg (fun h => h1 h.1)]
    exact Ev.now _

/-! #### spec_MeetingPairs -/
theorem spec_MeetingPairs_l1 (l : List S32) (hl : l.length ≤ 20) (i : Nat) (hi : i < l.length) (R : List (List Int) × Bool) (d : Nat) : ∀ (j : Nat) (acc : List (List Int)), j + d = l.length → acc.length + d ≤ 1000000 →
    Ev (fun k => spec_MeetingPairs.l0 k l (acc ++ pairR l i j d) l l.length (wrap64 ((i : Int) + 1))) R → Ev (fun k => spec_MeetingPairs.l1 k l acc i j l l.length i (rd_T32 l (i : Int)).f0 (rd_T32 l (i : Int)).f1) R := by
  induction d with
  | zero =>
    intro j acc hj ha h
    rw [pairR, List.append_nil] at h
    apply ev_up
    simp only [spec_MeetingPairs.l1]
    exact ev_n (by omega) h
  | succ d ih =>
    intro j acc hj ha h
    rw [pairR] at h
    apply ev_up
    simp only [spec_MeetingPairs.l1]
    rw [spec_rtMeet_eq, wN (n := (j : Int) + 1) (m := j + 1) (by omega) (by omega)]
    refine ev_p (by omega) (ev_p (by omega) (Ev.bind (ev_c rfl) (ev_ite (fun c => ev_p (by omega) ?_) (fun c => ?_))))
    · rw [if_pos c] at h
      refine ih (j + 1) _ (by omega) (by simp; omega) ?_
      simpa using h
    · rw [if_neg c, List.nil_append] at h
      exact ih (j + 1) acc (by omega) (by omega) h
theorem spec_MeetingPairs_l0 (l : List S32) (hl : l.length ≤ 20) (d : Nat) : ∀ (i : Nat) (acc : List (List Int)), i + d = l.length → acc.length ≤ 20 * i →
    Ev (fun k => spec_MeetingPairs.l0 k l acc l l.length i) (acc ++ pairsR l i d, true) := by
  induction d with
  | zero =>
    intro i acc hi ha
    apply ev_up
    simp only [spec_MeetingPairs.l0]
    rw [pairsR, List.append_nil]
    exact ev_n (by omega) (Ev.now _)
  | succ d ih =>
    intro i acc hi ha
    have hp := pairR_length l i d (i + 1)
    apply ev_up
    simp only [spec_MeetingPairs.l0]
    rw [wN (n := (i : Int) + 1) (m := i + 1) (by omega) (by omega)]
    refine ev_p (by omega) (ev_p (by omega) (ev_p (by omega) ?_))
    refine spec_MeetingPairs_l1 l hl i (by omega) _ d (i + 1) acc (by omega) (by omega) ?_
    rw [wN (n := (i : Int) + 1) (m := i + 1) (by omega) (by omega)]
    refine ev_eq (ih (i + 1) _ (by omega) (by simp; omega)) ?_
    rw [pairsR, List.append_assoc]
theorem spec_MeetingPairs_ev (l : List S32) (hl : l.length ≤ 1048576) : Ev (fun k => spec_MeetingPairs.f k l) (meetingPairsM l) := by
  unfold spec_MeetingPairs.f meetingPairsM
  refine Ev.bind (spec_rtGood_ev l (by omega)) (ev_ite (fun h => ?_) (fun h => ?_))
  · rw [if_pos h]
    have := spec_MeetingPairs_l0 l (chan20 h) l.length 0 [] (by omega) (by simp)
    rw [List.nil_append] at this
    exact this
  · rw [if_neg h]
    exact Ev.now _

/-! #### impl_MeetingPairs -/
theorem impl_MeetingPairs_l1 (l : List S32) (hl : l.length ≤ 20) (i : Nat) (hi : i < l.length) (R : List (List Int) × Bool) (d : Nat) : ∀ (j : Nat) (acc : List (List Int)), j + d = l.length → acc.length + d ≤ 1000000 →
    Ev (fun k => impl_MeetingPairs.l0 k l (acc ++ pairR l i j d) l.length (wrap64 ((i : Int) + 1))) R → Ev (fun k => impl_MeetingPairs.l1 k l acc i j l.length i) R := by
  induction d with
  | zero =>
    intro j acc hj ha h
    rw [pairR, List.append_nil] at h
    apply ev_up
    simp only [impl_MeetingPairs.l1]
    exact ev_n (by omega) h
  | succ d ih =>
    intro j acc hj ha h
    rw [pairR] at h
    apply ev_up
    simp only [impl_MeetingPairs.l1]
    rw [impl_wiresMeet_eq, wN (n := (j : Int) + 1) (m := j + 1) (by omega) (by omega)]
    refine ev_p (by omega) (ev_p (by omega) (ev_p (by omega) (ev_p (by omega) (Ev.bind (ev_c rfl) (ev_ite (fun c => ev_p (by omega) ?_) (fun c => ?_))))))
    · rw [if_pos c] at h
      refine ih (j + 1) _ (by omega) (by simp; omega) ?_
      simpa using h
    · rw [if_neg c, List.nil_append] at h
      exact ih (j + 1) acc (by omega) (by omega) h
theorem impl_MeetingPairs_l0 (l : List S32) (hl : l.length ≤ 20) (d : Nat) : ∀ (i : Nat) (acc : List (List Int)), i + d = l.length → acc.length ≤ 20 * i →
    Ev (fun k => impl_MeetingPairs.l0 k l acc l.length i) (acc ++ pairsR l i d, true) := by
  induction d with
  | zero =>
    intro i acc hi ha
    apply ev_up
    simp only [impl_MeetingPairs.l0]
    rw [pairsR, List.append_nil]
    exact ev_n (by omega) (Ev.now _)
  | succ d ih =>
    intro i acc hi ha
    have hp := pairR_length l i d (i + 1)
    apply ev_up
    simp only [impl_MeetingPairs.l0]
    rw [wN (n := (i : Int) + 1) (m := i + 1) (by omega) (by omega)]
    refine ev_p (by omega) ?_
    refine impl_MeetingPairs_l1 l hl i (by omega) _ d (i + 1) acc (by omega) (by omega) ?_
    rw [wN (n := (i : Int) + 1) (m := i + 1) (by omega) (by omega)]
    refine ev_eq (ih (i + 1) _ (by omega) (by simp; omega)) ?_
    rw [pairsR, List.append_assoc]
theorem impl_MeetingPairs_ev (l : List S32) (hl : l.length ≤ 1048576) : Ev (fun k => impl_MeetingPairs.f k l) (meetingPairsM l) := by
  unfold impl_MeetingPairs.f meetingPairsM
  refine Ev.bind (impl_AreChannelWires_ev l (by omega)) (ev_ite (fun h => ?_) (fun h => ?_))
  · rw [if_pos h]
    have := impl_MeetingPairs_l0 l (chan20 h) l.length 0 [] (by omega) (by simp)
    rw [List.nil_append] at this
    exact this
  · rw [if_neg h]
    exact Ev.now _

/-! #### FnRoutings -/
theorem fnRoutings_l3 (l : List S32) (ch : List Int) (hc : ch.length ≤ 1000) (hin : ∀ b ∈ ch, 0 ≤ b ∧ b < (l.length : Int)) (idx n f0 f1 : Int) (h : Ev (fun k => laws_FnRoutings.l2 k l ch l n (wrap64 (idx + 1))) true) (r : List Int) : ∀ (p : List Int) (i : Int) (found : Bool), i = p.length → ch = p ++ r → (found = true ∨ ∃ b ∈ r, (rd_T32 l b).f0 ≤ f1 ∧ f0 ≤ (rd_T32 l b).f1) →
    Ev (fun k => laws_FnRoutings.l3 k l ch found l n idx ch ch.length i f0 f1) true := by
  induction r with
  | nil =>
    intro p i found hi e hf
    have hlen : ch.length = p.length := by rw [e]; simp
    have hft : found = true := by
      rcases hf with hf | ⟨b, hb, _⟩
      · exact hf
      · simp at hb
    apply ev_up
    simp only [laws_FnRoutings.l3]
    exact ev_n (by omega) (ev_p hft h)
  | cons b r ih =>
    intro p i found hi e hf
    have hlen : ch.length = p.length + r.length + 1 := by rw [e]; simp; omega
    have hx : rd ch i = b := by rw [e]; exact rdA hi
    obtain ⟨hb0, hb1⟩ := hin b (by rw [e]; simp)
    have ih' := fun fd hh => ih (p ++ [b]) (i + 1) fd (by simp; omega) (by rw [e]; simp) hh
    apply ev_up
    simp only [laws_FnRoutings.l3]
    refine ev_p (by omega) (ev_p (by omega) (ev_p (by omega) ?_))
    rw [hx, w64 (n := i + 1) (by omega) (by omega)]
    by_cases hft : found = true
    · exact ev_p hft (ih' true (.inl rfl))
    · refine ev_n hft (ev_p hb0 (ev_p hb1 ?_))
      have hf2 : ∃ y ∈ b :: r, (rd_T32 l y).f0 ≤ f1 ∧ f0 ≤ (rd_T32 l y).f1 := by
        rcases hf with hf | hf
        · exact absurd hf hft
        · exact hf
      obtain ⟨y, hy, hy1, hy2⟩ := hf2
      refine ev_ite (fun h1 => ?_) (fun h1 => ?_)
      · refine ih' _ ?_
        rcases List.mem_cons.1 hy with e1 | e1
        · left
          rw [← e1]
          exact decide_eq_true hy2
        · exact .inr ⟨y, e1, hy1, hy2⟩
      · refine ih' false ?_
        rcases List.mem_cons.1 hy with e1 | e1
        · rw [e1] at hy1
          exact absurd hy1 h1
        · exact .inr ⟨y, e1, hy1, hy2⟩
theorem fnRoutings_l2 (l : List S32) (hl : l.length ≤ 1000) (ch : List Int) (hc : ch.length ≤ 1000) (hin : ∀ b ∈ ch, 0 ≤ b ∧ b < (l.length : Int)) (hm : ∀ w ∈ l, ∃ b ∈ ch, (rd_T32 l b).f0 ≤ w.f1 ∧ w.f0 ≤ (rd_T32 l b).f1) (r : List S32) : ∀ (p : List S32) (i : Int), i = p.length → l = p ++ r →
    Ev (fun k => laws_FnRoutings.l2 k l ch l l.length i) true := by
  induction r with
  | nil =>
    intro p i hi e
    have hlen : l.length = p.length := by rw [e]; simp
    apply ev_up
    simp only [laws_FnRoutings.l2]
    exact ev_n (by omega) (Ev.now _)
  | cons w r ih =>
    intro p i hi e
    have hlen : l.length = p.length + r.length + 1 := by rw [e]; simp; omega
    have hx : rd_T32 l i = w := by rw [e]; exact rdWireA hi
    have ih' := ih (p ++ [w]) (i + 1) (by simp; omega) (by rw [e]; simp)
    apply ev_up
    simp only [laws_FnRoutings.l2]
    refine ev_p (by omega) (ev_p (by omega) (ev_p (by omega) ?_))
    rw [hx]
    exact fnRoutings_l3 l ch hc hin i l.length w.f0 w.f1 (by rw [w64 (n := i + 1) (by omega) (by omega)]; exact ih') ch [] 0 false rfl rfl (.inr (hm w (by rw [e]; simp)))
theorem fnRoutings_l1 (l : List S32) (hl : l.length ≤ 1000) (h : chanM l = true) (c m : Int) (ch : List Int) (hle : ∀ y, 0 ≤ y → y < 51 → densityM l y ≤ m) (hfirst : ∀ y, 0 ≤ y → y < 51 → densityM l y = m → c ≤ y) (hn : Ev (fun k => laws_FnRoutings.l2 k l ch l l.length 0) true) (d : Nat) : ∀ x : Int, 0 ≤ x → x + d = 51 →
    Ev (fun k => laws_FnRoutings.l1 k l c m ch x) true := by
  induction d with
  | zero =>
    intro x h0 hx
    apply ev_up
    simp only [laws_FnRoutings.l1]
    exact ev_n (by omega) hn
  | succ d ih =>
    intro x h0 hx
    have hd : densityAtM l x = (densityM l x, true) := by
      unfold densityAtM
      rw [if_pos ⟨h, h0, by omega⟩]
    have hi := impl_DensityAt_ev l x (by omega)
    have hs := spec_DensityAt_ev l x (by omega)
    rw [hd] at hi hs
    have ih' := ih (x + 1) (by omega) (by omega)
    have h1 := hle x h0 (by omega)
    apply ev_up
    simp only [laws_FnRoutings.l1]
    refine ev_p (by omega) (Ev.bind hi (Ev.bind hs (ev_p rfl (ev_p rfl (ev_p rfl ?_)))))
    rw [w64 (n := x + 1) (by omega) (by omega)]
    refine ev_n (by omega) (ev_ite (fun he => ev_n ?_ ih') (fun _ => ih'))
    have := hfirst x h0 (by omega) he
    omega
theorem fnRoutings_l0 (l : List S32) (hl : l.length ≤ 1000) (e : List Int) (he : e.length = l.length) (c m : Int) (ch : List Int) (hc : ch.length ≤ 1000) (ps : List (List Int)) (hpl : ps.length ≤ 1000)
    (hp : ∀ y ∈ ps, ∃ a b : Nat, y = [(a : Int), (b : Int)] ∧ a < b ∧ b < l.length ∧ rd e a ≠ rd e b ∧ (rd_T32 l (a : Int)).f0 ≤ (rd_T32 l (b : Int)).f1 ∧ (rd_T32 l (b : Int)).f0 ≤ (rd_T32 l (a : Int)).f1 ∧ ¬ ((a : Int) ∈ ch ∧ (b : Int) ∈ ch))
    (hn : Ev (fun k => laws_FnRoutings.l1 k l c m ch 0) true) (r : List (List Int)) : ∀ (p : List (List Int)) (i : Int), i = p.length → ps = p ++ r →
    Ev (fun k => laws_FnRoutings.l0 k l e c m ch ps ps.length i) true := by
  induction r with
  | nil =>
    intro p i hi ee
    have hlen : ps.length = p.length := by rw [ee]; simp
    apply ev_up
    simp only [laws_FnRoutings.l0]
    exact ev_n (by omega) hn
  | cons y r ih =>
    intro p i hi ee
    have hlen : ps.length = p.length + r.length + 1 := by rw [ee]; simp; omega
    have hx : rd_L2 ps i = y := by rw [ee]; exact getDA hi
    have ih' := ih (p ++ [y]) (i + 1) (by simp; omega) (by rw [ee]; simp)
    obtain ⟨a, b, rfl, hab, hb, h1, h2, h3, h4⟩ := hp y (by rw [ee]; simp)
    have ra : rd [(a : Int), (b : Int)] 0 = a := rfl
    have rb : rd [(a : Int), (b : Int)] 1 = b := rfl
    apply ev_up
    simp only [laws_FnRoutings.l0]
    refine ev_p (by omega) (ev_p (by omega) (ev_p (by omega) ?_))
    rw [hx, ra, rb, w64 (n := i + 1) (by omega) (by omega)]
    refine ev_p (by simp) (ev_p (by simp) (ev_p (by omega) (ev_p (by omega) (ev_p (by omega) (ev_p (by omega) (ev_n h1 (ev_p (by omega) (ev_p (by omega) (ev_n (by omega) (ev_n (by omega) (ev_n (by omega) (Ev.bind (qHas_ev ch a (by omega)) ?_))))))))))))
    refine ev_ite (fun ha => Ev.bind (qHas_ev ch b (by omega)) (ev_n (fun hbm => h4 ⟨of_decide_eq_true ha, of_decide_eq_true hbm⟩) ih')) (fun _ => ih')
set_option maxHeartbeats 1600000 in
theorem FnRoutings : laws_FnRoutings.Pure := by
  intro l0 l1 _ h0 hb0 _ h1 hb1
  have hc0 := bytes_of h0 hb0
  have hc1 := bytes_of h1 hb1
  obtain ⟨l, hd, hl⟩ := DrawChannel_ok hc0
  obtain ⟨a, x, hd2, ha⟩ := DrawDensityAt_ok hc1
  apply ev_get
  unfold laws_FnRoutings.f
  refine ev_ite (fun _ => Ev.now _) (fun _ => ?_)
  rw [hd, hd2]
  refine Ev.bind (ev_c rfl) ?_
  obtain ⟨⟨ch, mb⟩, hM2, hMl, hMc, hMs, hMi⟩ := mostInTrack_ev l (by omega)
  have hdi := impl_MostDense_ev l (by omega)
  have hds := spec_MostDense_ev l (by omega)
  have hpi := impl_MeetingPairs_ev l (by omega)
  have hps := spec_MeetingPairs_ev l (by omega)
  have hpl := meetingPairsM_length l
  have hqi := impl_DensityAt_ev a x (by omega)
  have hqs := spec_DensityAt_ev a x (by omega)
  generalize densityAtM a x = Q at hqi hqs
  have hch := impl_AreChannelWires_ev l (by omega)
  dsimp only at hM2 hMl hMc
  by_cases h : chanM l = true
  · obtain ⟨m, he, hes, hei⟩ := edge_top l (by omega) h
    generalize edgeR l = e at he hes hei
    have hel := he.len
    have hg := (chanM_of h).2
    have h20 := (chanM_of h).1
    obtain ⟨c, D, hD, hc0', hc51, hD0, hDc, hDle, hDf⟩ := dense_top l
    have hDm : (m : Int) = D := by
      have e1 := edge_dense he c
      rcases he.den with e2 | ⟨y, y0, y1, e2⟩
      · omega
      · have := hDle y y0 (by omega)
        omega
    have hrt := impl_IsRouting_ev l e (by omega) (by omega)
    rw [edge_routing h he] at hrt
    have hti := impl_TracksUsed_ev e (by omega)
    have hts := spec_TracksUsed_ev e (by omega)
    rw [edge_used h he] at hti hts
    have hch' := hMc h
    have hin := fun b hb => chosen_in hg hch' b hb
    have hmd : mostDenseM l = (c, D, true) := by unfold mostDenseM; rw [if_pos h, hD]
    have hmp : meetingPairsM l = (pairsR l 0 l.length, true) := by unfold meetingPairsM; rw [if_pos h]
    rw [hmd] at hdi hds
    rw [hmp] at hpi hps hpl
    dsimp only at hpl
    rw [h] at hM2 hch
    subst hM2
    have hl2 := fnRoutings_l2 l hl ch (by omega) (fun b hb => ⟨(hin b hb).1, (hin b hb).2.1⟩) (fun w hw => chosen_meets hg hch' w hw (by have := of_decide_eq_true (hg w hw); omega)) l [] 0 rfl rfl
    have hl1 := fnRoutings_l1 l hl h c D ch hDle hDf hl2 51 0 (by omega) (by omega)
    have hl0 := fnRoutings_l0 l hl e hel c D ch (by omega) (pairsR l 0 l.length) (by omega) (fun y hy => by
      obtain ⟨u, v, e1, e2, e3, e4⟩ := pairsR_mem l l.length 0 y hy
      have e5 := of_decide_eq_true e4
      refine ⟨u, v, e1, e2, by omega, fun hh => ?_, e5.1, e5.2, fun hh => ?_⟩
      · have := he.sep u v (by omega) (by omega) (by omega) (by omega) (by omega) hh
        unfold wAt at this
        rw [this] at e4
        exact absurd e4 (by decide)
      · have := chosen_apart hg hch' u hh.1 v hh.2 (by omega)
        rw [this] at e4
        exact absurd e4 (by decide)) hl1 (pairsR l 0 l.length) [] 0 rfl rfl
    refine Ev.bind hei (Ev.bind hes (Ev.bind hdi (Ev.bind hds (Ev.bind hpi (Ev.bind hps (Ev.bind hMi (Ev.bind hMs (Ev.bind (ev_c rfl) (Ev.bind hqi (Ev.bind hqs ?_))))))))))
    dsimp only
    refine ev_n (by simp) (Ev.bind (qInts_self _ (by omega)) (ev_p rfl (ev_n (by simp) (ev_p rfl (ev_p rfl (ev_n (by simp) (Ev.bind (qLists_self _ (by omega) (fun y hy => by have := hpl.2 y hy; omega)) (ev_p rfl (ev_n (by simp) (Ev.bind (qInts_self _ (by omega)) (ev_p rfl (ev_n (by simp) (ev_p rfl (ev_n (by simp) (ev_n (by simp) (ev_n (by simp) (Ev.bind hch (ev_n (by simp) ?_))))))))))))))))))
    refine ev_p rfl (Ev.bind hrt (Ev.bind hti (Ev.bind hts ?_)))
    dsimp only
    refine ev_p rfl (ev_p rfl (ev_p rfl (ev_p rfl (ev_p rfl (ev_p hDm ?_)))))
    exact hl0
  · obtain ⟨hes, hei⟩ := edge_bad l (by omega) h
    have hmd : mostDenseM l = (0, 0, false) := by unfold mostDenseM; rw [if_neg h]
    have hmp : meetingPairsM l = ([], false) := by unfold meetingPairsM; rw [if_neg h]
    rw [hmd] at hdi hds
    rw [hmp] at hpi hps
    have hf : chanM l = false := by simpa using h
    rw [hf] at hM2 hch
    subst hM2
    refine Ev.bind hei (Ev.bind hes (Ev.bind hdi (Ev.bind hds (Ev.bind hpi (Ev.bind hps (Ev.bind hMi (Ev.bind hMs (Ev.bind (ev_c rfl) (Ev.bind hqi (Ev.bind hqs ?_))))))))))
    dsimp only
    refine ev_n (by simp) (Ev.bind (qInts_self _ (by simp)) (ev_p rfl (ev_n (by simp) (ev_p rfl (ev_p rfl (ev_n (by simp) (Ev.bind (qLists_self _ (by simp) (fun y hy => by simp at hy)) (ev_p rfl (ev_n (by simp) (Ev.bind (qInts_self _ (by omega)) (ev_p rfl (ev_n (by simp) (ev_p rfl (ev_n (by simp) (ev_n (by simp) (ev_n (by simp) (Ev.bind hch (ev_n (by simp) ?_))))))))))))))))))
    exact ev_n (by simp) (Ev.now _)

end Go.Proofs.Ytbkighlfgaifeaa.Pure
