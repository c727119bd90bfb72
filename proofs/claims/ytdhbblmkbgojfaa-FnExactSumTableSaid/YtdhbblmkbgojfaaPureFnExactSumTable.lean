/- The pure part of the law FnExactSumTable: what the program and the reference compute is the same, for all arguments. Conditions: the numbers are of Go's int, the lengths of slices are. -/
import Derived.Test.YtdhbblmkbgojfaaQFnExactSumTablex5
import Derived.Test.YtdhbblmkbgojfaaKit
set_option linter.unusedVariables false
set_option linter.unusedSimpArgs false
namespace Go.Proofs.Ytdhbblmkbgojfaa.Pure
open Go.RowKit Go.Proofs.Ytdhbblmkbgojfaa.QFnExactSumTable Go.Proofs.YtdhbblmkbgojfaaW.PrintWords Go.Proofs.YtdhbblmkbgojfaaW.PrintLast Go.Proofs.Ytdhbblmkbgojfaa.Open Go.Proofs.Ytdhbblmkbgojfaa.Kit

/-! #### lenPre -/
theorem len_pre {n : Nat} (h : ¬ (if (n : Int) ≤ 1048576 then (1048576 : Int) - n else -1) < 0) : n ≤ 1048576 := by
  by_cases h2 : (n : Int) ≤ 1048576
  · omega
  · rw [if_neg h2] at h
    exact absurd (by decide) h

/-! #### szTermS -/
theorem szTermS_eq (l : List S74) (a : Int) (ha : 0 ≤ a) (ha2 : a ≤ 1048576) (hl : l.length ≤ 9223372036854775807) : laws_szTermS.f l a = some (if l.length ≤ a then a - l.length else -1) := by
  unfold laws_szTermS.f
  rw [w64 (by omega) (by omega)]
  by_cases h : (l.length : Int) ≤ a
  · rw [if_neg (by omega), if_pos h]
  · rw [if_pos (by omega), if_neg h]

/-! #### termT -/
theorem rdLTermA {p r : List S74} {x : S74} {i : Int} (hi : i = p.length) : rd_T74 (p ++ x :: r) i = x := getDA hi
theorem rdTermA {p r : List S70} {x : S70} {i : Int} (hi : i = p.length) : rd_T70 (p ++ x :: r) i = x := getDA hi
/-- A term of the laws as one of the program. -/
def cvTerm (x : S74) : S70 := ⟨x.f0, x.f1⟩

/-! #### toTermS -/
theorem toTermS_l0 (r : List S74) : ∀ (p : List S74) (z : List S70) (i : Int), i = p.length → z.length = r.length → p.length + r.length ≤ 9223372036854775806 →
    Ev (fun k => laws_toTermS.l0 k (p ++ r) (p.map cvTerm ++ z) i) ((p ++ r).map cvTerm) := by
  induction r with
  | nil =>
    intro p z i hi hz hb
    obtain rfl : z = [] := List.length_eq_zero_iff.1 hz
    apply ev_up
    simp only [laws_toTermS.l0]
    refine ev_n (by simp; omega) ?_
    simpa using Ev.now (p.map cvTerm)
  | cons x r ih =>
    intro p z i hi hz hb
    match z, hz with
    | y :: z, hz =>
      simp only [List.length_cons] at hz hb
      apply ev_up
      simp only [laws_toTermS.l0]
      refine ev_p (by simp; omega) (ev_p (by omega) ?_)
      rw [rdLTermA hi]
      refine Ev.bind (ev_c (show laws_toTerm.f x.f0 x.f1 = some (x.f0, x.f1) from rfl)) (ev_p (by simp; omega) ?_)
      rw [setA (by simpa using hi), w64 (by omega) (by omega), appA]
      have := ih (p ++ [x]) z (i + 1) (by simp; omega) (by omega) (by simp; omega)
      simpa [cvTerm] using this
theorem toTermS_ev (a : List S74) (h : a.length ≤ 1048576) : Ev (fun k => laws_toTermS.f k a) (a.map cvTerm) := by
  unfold laws_toTermS.f
  refine ev_p (by omega) (ev_p (by omega) ?_)
  exact toTermS_l0 a [] (List.replicate ((a.length : Int)).toNat z70) 0 rfl (by simp) (by simp; omega)

/-! #### eqTerm -/
theorem eqTerm_same (a b : Int) : laws_eqTerm.f a b a b = some true := by
  unfold laws_eqTerm.f
  rw [if_pos rfl, if_pos rfl]

/-! #### eqTermS -/
theorem eqTermS_l0 (r : List S70) : ∀ (p : List S70) (i : Int), i = p.length → p.length + r.length ≤ 9223372036854775807 →
    Ev (fun k => laws_eqTermS.l0 k (p ++ r) (p ++ r) i) true := by
  induction r with
  | nil =>
    intro p i hi hb
    apply ev_up
    simp only [laws_eqTermS.l0]
    exact ev_n (by simp; omega) (Ev.now true)
  | cons x r ih =>
    intro p i hi hb
    simp only [List.length_cons] at hb
    apply ev_up
    simp only [laws_eqTermS.l0]
    refine ev_p (by simp; omega) (ev_p (by omega) (ev_p (by simp; omega) ?_))
    rw [rdTermA hi, eqTerm_same]
    refine Ev.bind (ev_c rfl) (ev_p rfl ?_)
    rw [w64 (by omega) (by omega), appA]
    exact ih (p ++ [x]) (i + 1) (by simp; omega) (by simp; omega)
theorem eqTermS_self (a : List S70) (h : a.length ≤ 9223372036854775807) : Ev (fun k => laws_eqTermS.f k a a) true := by
  unfold laws_eqTermS.f
  exact ev_p rfl (eqTermS_l0 a [] 0 rfl (by simpa using h))

/-! #### markTermS -/
/-- Marked terms: some others, of as many. -/
theorem markTermS_l0 (r : List S70) : ∀ (p : List S70) (s i : Int), i = p.length → p.length + r.length ≤ 1048576 → 0 ≤ s → s + 2 * r.length ≤ 4194304 →
    ∃ t, Ev (fun k => laws_markTermS.l0 k (p ++ r) s i) (s + 2 * r.length, t) := by
  induction r with
  | nil =>
    intro p s i hi hb h0 hs
    refine ⟨p, ?_⟩
    apply ev_up
    simp only [laws_markTermS.l0]
    refine ev_n (by simp; omega) ?_
    simpa using Ev.now (s, p)
  | cons x r ih =>
    intro p s i hi hb h0 hs
    simp only [List.length_cons, Int.natCast_add] at hb hs
    obtain ⟨t, ht⟩ := ih (p ++ [⟨s, s + 1⟩]) (s + 1 + 1) (i + 1) (by simp; omega) (by simp; omega) (by omega) (by omega)
    refine ⟨t, ?_⟩
    apply ev_up
    simp only [laws_markTermS.l0]
    refine ev_p (by simp; omega) (ev_p (by omega) (Ev.bind (ev_c rfl) ?_))
    rw [rdTermA hi, setB hi, rdTermA hi, setA hi, w64 (n := s + 1) (by omega) (by omega), w64 (n := s + 1 + 1) (by omega) (by omega), w64 (n := i + 1) (by omega) (by omega)]
    refine ev_eq ht ?_
    simp only [List.length_cons, Prod.mk.injEq, and_true]
    omega
theorem markTermS_ev (a : List S70) (h : a.length ≤ 1048576) : ∃ t, Ev (fun k => laws_markTermS.f k a 1) (1 + 2 * a.length, t) := by
  unfold laws_markTermS.f
  exact markTermS_l0 a [] 1 0 rfl (by simpa using h) (by omega) (by omega)


/-! #### isTermM -/
/-- What both call a valid term. -/
def isTermM (n m v : Int) : Bool := decide (0 ≤ n ∧ n ≤ 4 ∧ 0 ≤ m ∧ m < 2 ^ n.toNat ∧ 0 ≤ v ∧ v.toNat &&& m.toNat = v.toNat)
theorem isTermM_nat {n m v : Int} (h : isTermM n m v = true) : ∃ a b c : Nat, n = a ∧ m = b ∧ v = c ∧ a ≤ 4 ∧ b < 2 ^ a ∧ c &&& b = c ∧ c ≤ b ∧ b < 16 := by
  unfold isTermM at h
  simp only [decide_eq_true_eq] at h
  obtain ⟨h1, h2, h3, h4, h5, h6⟩ := h
  obtain ⟨a, rfl⟩ := nat_of h1
  obtain ⟨b, rfl⟩ := nat_of h3
  obtain ⟨c, rfl⟩ := nat_of h5
  simp only [Int.toNat_natCast] at h4 h6
  have h7 : b < 2 ^ a := by exact_mod_cast h4
  have h8 : 2 ^ a ≤ 2 ^ 4 := Nat.pow_le_pow_right (by decide) (by omega)
  refine ⟨a, b, c, rfl, rfl, rfl, by omega, h7, h6, ?_, by omega⟩
  rw [← h6]
  exact Nat.and_le_right

/-! #### sumM -/
def nRow (m : Nat) (f : Nat → Nat) : List Int := (List.range m).map (fun k => ((f k : Nat) : Int))
theorem nRow_length (m : Nat) (f : Nat → Nat) : (nRow m f).length = m := by simp [nRow]
theorem nRow_set {m : Nat} {f : Nat → Nat} {k v : Nat} (h : k < m) : (nRow m f).set k (v : Int) = nRow m (fun j => if j = k then v else f j) := by
  apply List.ext_getElem
  · simp [nRow]
  · intro n h1 h2
    rw [List.getElem_set]
    simp only [nRow, List.getElem_map, List.getElem_range]
    by_cases e : n = k
    · rw [if_pos e.symm, if_pos e]
    · rw [if_neg (fun h => e h.symm), if_neg e]
theorem nRow_congr {m : Nat} {f g : Nat → Nat} (h : ∀ k, k < m → f k = g k) : nRow m f = nRow m g := by
  unfold nRow
  apply List.map_congr_left
  intro k hk
  rw [h k (by simpa using hk)]
theorem nRow_zero (m : Nat) : List.replicate m (0 : Int) = nRow m (fun _ => 0) := by
  have e1 : nRow m (fun _ => 0) = (List.range m).map (fun _ => (0 : Int)) := rfl
  rw [e1, List.map_const', List.length_range]
/-- A term covers an index. -/
def covB (x : S70) (j : Nat) : Bool := decide (j &&& x.f0.toNat = x.f1.toNat)
def sumF (p : List S70) (j : Nat) : Nat := if p.any (fun x => covB x j) then 1 else 0
def okTerm (n : Int) (x : S70) : Bool := isTermM n x.f0 x.f1
def sumTableM (n : Int) (l : List S70) : Int × List Int × Bool := if 0 ≤ n ∧ n ≤ 4 ∧ l.length ≤ 16 ∧ l.all (okTerm n) = true then (n, nRow (2 ^ n.toNat) (sumF l), true) else (0, [], false)
theorem sumTableM_length (n : Int) (l : List S70) : (sumTableM n l).2.1.length ≤ 16 := by
  unfold sumTableM
  split
  · rename_i h
    obtain ⟨a, rfl⟩ := nat_of h.1
    have h8 : 2 ^ a ≤ 2 ^ 4 := Nat.pow_le_pow_right (by decide) (by omega)
    simp only [nRow_length, Int.toNat_natCast]
    omega
  · simp

/-! #### l1In -/
theorem l1In_eq (a b c : Int) : spec_l1In.f a b c = some (decide (b ≤ a ∧ a ≤ c)) := by
  unfold spec_l1In.f
  by_cases h : b ≤ a
  · rw [if_pos h]; simp [h]
  · rw [if_neg h]; simp [h]

/-! #### ttInputs -/
theorem ttInputs_eq (a : Int) : spec_ttInputs.f a = some (decide (0 ≤ a ∧ a ≤ 4)) := by
  unfold spec_ttInputs.f
  rw [l1In_eq, Option.bind_some]

/-! #### spec_nfTerm -/
theorem spec_nfTerm_eq (n m v : Int) (hv : I64 v) : spec_nfTerm.f n m v = some (isTermM n m v) := by
  unfold spec_nfTerm.f
  rw [ttInputs_eq, Option.bind_some]
  by_cases h : 0 ≤ n ∧ n ≤ 4
  · rw [decide_eq_true h, if_pos rfl]
    obtain ⟨a, rfl⟩ := nat_of h.1
    have ha : a ≤ 4 := by omega
    rw [u64w (by omega) (by omega), if_pos (by omega), shl1 a (by omega)]
    have h8 : 2 ^ a ≤ 2 ^ 4 := Nat.pow_le_pow_right (by decide) ha
    have h9 : 0 < 2 ^ a := Nat.two_pow_pos a
    rw [w64 (by omega) (by omega), l1In_eq, Option.bind_some]
    by_cases hm : 0 ≤ m ∧ m ≤ ((2 ^ a : Nat) : Int) - 1
    · rw [decide_eq_true hm, if_pos rfl, l1In_eq, Option.bind_some]
      obtain ⟨b, rfl⟩ := nat_of hm.1
      by_cases hc : 0 ≤ v ∧ v ≤ (b : Int)
      · rw [decide_eq_true hc, if_pos rfl]
        obtain ⟨c, rfl⟩ := nat_of hc.1
        rw [andN c b (by omega) (by omega)]
        unfold isTermM
        simp only [Int.toNat_natCast]
        congr 1
        rw [Bool.eq_iff_iff]
        simp only [beq_iff_eq, decide_eq_true_eq]
        constructor
        · intro e
          refine ⟨by omega, by omega, by omega, ?_, by omega, by omega⟩
          have : b < 2 ^ a := by omega
          exact_mod_cast this
        · rintro ⟨_, _, _, _, _, e⟩
          omega
      · rw [decide_eq_false hc, if_neg (by decide)]
        congr 1
        symm
        unfold isTermM
        apply decide_eq_false
        rintro ⟨_, _, _, _, h5, h6⟩
        obtain ⟨c, rfl⟩ := nat_of h5
        simp only [Int.toNat_natCast] at h6
        have : c &&& b ≤ b := Nat.and_le_right
        omega
    · rw [decide_eq_false hm, if_neg (by decide)]
      congr 1
      symm
      unfold isTermM
      apply decide_eq_false
      rintro ⟨_, _, h3, h4, _, _⟩
      obtain ⟨b, rfl⟩ := nat_of h3
      simp only [Int.toNat_natCast] at h4
      have : b < 2 ^ a := by exact_mod_cast h4
      omega
  · rw [decide_eq_false h, if_neg (by decide)]
    congr 1
    symm
    unfold isTermM
    apply decide_eq_false
    rintro ⟨h1, h2, _⟩
    exact h ⟨h1, h2⟩

/-! #### idxN -/
/-- The indices that a term covers, from i on. -/
def idxM (N m v : Nat) : Nat → List Int
  | 0 => []
  | d + 1 => (if (N - (d + 1)) &&& m = v then [((N - (d + 1) : Nat) : Int)] else []) ++ idxM N m v d
theorem idxM_length (N m v d : Nat) : (idxM N m v d).length ≤ d := by
  induction d with
  | zero => simp [idxM]
  | succ d ih => unfold idxM; split <;> simp <;> omega
theorem idxM_mem {N m v d : Nat} {x : Int} (hd : d ≤ N) (h : x ∈ idxM N m v d) : ∃ j : Nat, x = j ∧ N - d ≤ j ∧ j < N ∧ j &&& m = v := by
  induction d with
  | zero => simp [idxM] at h
  | succ d ih =>
    unfold idxM at h
    rw [List.mem_append] at h
    rcases h with h | h
    · split at h
      · rename_i hc
        simp only [List.mem_singleton] at h
        exact ⟨N - (d + 1), h, by omega, by omega, hc⟩
      · simp at h
    · obtain ⟨j, h1, h2, h3, h4⟩ := ih (by omega) h
      exact ⟨j, h1, by omega, h3, h4⟩
theorem mem_idxM {N m v d j : Nat} (hd : d ≤ N) (h1 : N - d ≤ j) (h2 : j < N) (h3 : j &&& m = v) : (j : Int) ∈ idxM N m v d := by
  induction d with
  | zero => omega
  | succ d ih =>
    unfold idxM
    rw [List.mem_append]
    by_cases hj : j = N - (d + 1)
    · left
      rw [← hj, if_pos h3]
      simp
    · right
      exact ih (by omega) (by omega)

/-! #### spec_nfIndices -/
theorem spec_nfIndices_l0 (a m v : Nat) (ha : a ≤ 4) (hm : m < 65536) (d : Nat) : ∀ (xs : List Int) (i : Nat), i + d = 2 ^ a → xs.length ≤ i →
    Ev (fun k => spec_nfIndices.l0 k a xs i m v) (xs ++ idxM (2 ^ a) m v d) := by
  have h8 : 2 ^ a ≤ 2 ^ 4 := Nat.pow_le_pow_right (by decide) ha
  induction d with
  | zero =>
    intro xs i hi hx
    apply ev_up
    simp only [spec_nfIndices.l0]
    rw [u64w (by omega) (by omega), shl1 a (by omega)]
    refine ev_p (by omega) (ev_n (by omega) ?_)
    simpa [idxM] using Ev.now xs
  | succ d ih =>
    intro xs i hi hx
    apply ev_up
    simp only [spec_nfIndices.l0]
    rw [u64w (by omega) (by omega), shl1 a (by omega)]
    refine ev_p (by omega) (ev_p (by omega) ?_)
    rw [andN i m (by omega) (by omega), wN (m := i + 1) (by omega) (by omega)]
    have e : 2 ^ a - (d + 1) = i := by omega
    refine ev_ite (fun h => ?_) (fun h => ?_)
    · refine ev_p (by omega) ?_
      refine ev_eq (ih _ (i + 1) (by omega) (by simp; omega)) ?_
      have h' : i &&& m = v := by exact_mod_cast h
      simp [idxM, e, h']
    · refine ev_eq (ih _ (i + 1) (by omega) (by omega)) ?_
      have h' : ¬ i &&& m = v := fun h2 => h (by exact_mod_cast h2)
      simp [idxM, e, h']
theorem spec_nfIndices_ev (a m v : Nat) (ha : a ≤ 4) (hm : m < 65536) : Ev (fun k => spec_nfIndices.f k a m v) (idxM (2 ^ a) m v (2 ^ a)) := by
  unfold spec_nfIndices.f
  exact spec_nfIndices_l0 a m v ha hm (2 ^ a) [] 0 (by omega) (by simp)

/-! #### spec_SumTable -/
theorem spec_SumTable_l1 (n : Int) (m : Nat) (hm : m ≤ 16) (l : List S70) (e j : Int) (ks : List Int) (hks : ∀ x ∈ ks, 0 ≤ x ∧ x < m) (hkl : ks.length ≤ 16) (res : Int × List Int × Bool) (r : List Int) : ∀ (p : List Int) (f : Nat → Nat) (i : Int), i = p.length → ks = p ++ r →
    Ev (fun k => spec_SumTable.l0 k n l e (wrap64 (j + 1)) n (nRow m (fun a => if (a : Int) ∈ r then 1 else f a))) res → Ev (fun k => spec_SumTable.l1 k n l e j ks ks.length i n (nRow m f)) res := by
  induction r with
  | nil =>
    intro p f i hi he h
    have hlen : ks.length = p.length := by rw [he]; simp
    apply ev_up
    simp only [spec_SumTable.l1]
    refine ev_n (by omega) ?_
    simpa using h
  | cons x r ih =>
    intro p f i hi he h
    have hlen : ks.length = p.length + r.length + 1 := by rw [he]; simp; omega
    have hx : rd ks i = x := by rw [he]; exact rdA hi
    have hxb := hks x (by rw [he]; simp)
    obtain ⟨a, rfl⟩ := nat_of hxb.1
    apply ev_up
    simp only [spec_SumTable.l1]
    refine ev_p (by omega) (ev_p (by omega) (ev_p (by omega) ?_))
    rw [hx, w64 (n := i + 1) (by omega) (by omega)]
    refine ev_p (by omega) (ev_p (by rw [nRow_length]; omega) ?_)
    have es := nRow_set (f := f) (v := 1) (show a < m by omega)
    rw [Int.toNat_natCast, show (1 : Int) = ((1 : Nat) : Int) from rfl, es]
    refine ih (p ++ [(a : Int)]) _ (i + 1) (by simp; omega) (by rw [he]; simp) ?_
    have e2 : nRow m (fun b => if (b : Int) ∈ r then 1 else (if b = a then 1 else f b)) = nRow m (fun b => if (b : Int) ∈ (a : Int) :: r then 1 else f b) := by
      apply nRow_congr
      intro b _
      by_cases h1 : (b : Int) ∈ r
      · rw [if_pos h1, if_pos (List.mem_cons_of_mem _ h1)]
      · by_cases h2 : b = a
        · rw [if_neg h1, if_pos h2, if_pos (by rw [h2]; exact List.mem_cons_self)]
        · rw [if_neg h1, if_neg h2, if_neg (fun h3 => by
            rcases List.mem_cons.1 h3 with h3 | h3
            · exact h2 (by exact_mod_cast h3)
            · exact h1 h3)]
    rw [e2]
    exact h
theorem spec_SumTable_l0 (a : Nat) (ha : a ≤ 4) (l : List S70) (hl : l.length ≤ 16) (hi64 : ∀ x ∈ l, I64 x.f0 ∧ I64 x.f1) (r : List S70) : ∀ (p : List S70) (i : Int), i = p.length → l = p ++ r →
    Ev (fun k => spec_SumTable.l0 k a l l.length i a (nRow (2 ^ a) (sumF p))) (if r.all (okTerm a) = true then ((a : Int), nRow (2 ^ a) (sumF l), true) else (0, [], false)) := by
  have h8 : 2 ^ a ≤ 2 ^ 4 := Nat.pow_le_pow_right (by decide) ha
  induction r with
  | nil =>
    intro p i hi e
    have hlen : l.length = p.length := by rw [e]; simp
    have hp : l = p := by rw [e]; simp
    apply ev_up
    simp only [spec_SumTable.l0]
    refine ev_n (by omega) ?_
    rw [List.all_nil, if_pos rfl, hp]
    exact Ev.now _
  | cons x r ih =>
    intro p i hi e
    have hlen : l.length = p.length + r.length + 1 := by rw [e]; simp; omega
    have hx : rd_T70 l i = x := by rw [e]; exact rdTermA hi
    apply ev_up
    simp only [spec_SumTable.l0]
    refine ev_p (by omega) (ev_p (by omega) (ev_p (by omega) ?_))
    rw [hx, spec_nfTerm_eq a x.f0 x.f1 (hi64 x (by rw [e]; simp)).2]
    refine Ev.bind (ev_c rfl) (ev_ite (fun h => ?_) (fun h => ?_))
    · have hok : okTerm a x = true := h
      obtain ⟨a', b, c, ea, eb, ec, _, hb, _, _, hb16⟩ := isTermM_nat h
      obtain rfl : a = a' := by omega
      rw [eb, ec]
      have hi2 := idxM_length (2 ^ a) b c (2 ^ a)
      refine Ev.bind (spec_nfIndices_ev a b c ha (by omega)) ?_
      refine spec_SumTable_l1 a (2 ^ a) (by omega) l l.length i _ (fun y hy => ?_) (by omega) _ _ [] (sumF p) 0 rfl rfl ?_
      · obtain ⟨j, rfl, _, h2, _⟩ := idxM_mem (Nat.le_refl _) hy
        omega
      · rw [List.all_cons, hok, Bool.true_and, w64 (n := i + 1) (by omega) (by omega)]
        have e2 : nRow (2 ^ a) (fun j => if (j : Int) ∈ idxM (2 ^ a) b c (2 ^ a) then 1 else sumF p j) = nRow (2 ^ a) (sumF (p ++ [x])) := by
          apply nRow_congr
          intro j hj
          unfold sumF
          rw [List.any_append]
          have ex : covB x j = decide (j &&& b = c) := by unfold covB; rw [eb, ec]; rfl
          simp only [List.any_cons, List.any_nil, Bool.or_false, ex]
          by_cases hc : j &&& b = c
          · rw [if_pos (mem_idxM (Nat.le_refl _) (by omega) hj hc), decide_eq_true hc, Bool.or_true, if_pos rfl]
          · rw [if_neg (fun hm => by obtain ⟨j', e', _, _, h4⟩ := idxM_mem (Nat.le_refl _) hm; exact hc (by rw [show j = j' by omega]; exact h4)), decide_eq_false hc, Bool.or_false]
        rw [e2]
        exact ih (p ++ [x]) (i + 1) (by simp; omega) (by rw [e]; simp)
    · have hok : okTerm a x = false := by unfold okTerm; simpa using h
      rw [List.all_cons, hok, Bool.false_and, if_neg (by decide)]
      exact Ev.now _
theorem spec_SumTable_ev (n : Int) (l : List S70) (hl : l.length ≤ 1048576) (hi64 : ∀ x ∈ l, I64 x.f0 ∧ I64 x.f1) : Ev (fun k => spec_SumTable.f k n l) (sumTableM n l) := by
  have bad : ¬ (0 ≤ n ∧ n ≤ 4 ∧ l.length ≤ 16) → sumTableM n l = (0, [], false) := fun h => by
    unfold sumTableM
    rw [if_neg (fun hh => h ⟨hh.1, hh.2.1, hh.2.2.1⟩)]
  unfold spec_SumTable.f
  rw [ttInputs_eq]
  refine Ev.bind (ev_c rfl) (ev_ite (fun h => ?_) (fun h => ?_))
  · have h' := of_decide_eq_true h
    apply ev_up
    simp only [spec_SumTable.j0]
    refine ev_ite (fun h2 => ?_) (fun h2 => ?_)
    · have h2' := of_decide_eq_true h2
      rw [bad (by omega)]
      exact Ev.now _
    · have h2' : ¬ (l.length : Int) > 16 := fun hh => h2 (decide_eq_true hh)
      obtain ⟨a, rfl⟩ := nat_of h'.1
      have ha : a ≤ 4 := by omega
      have h8 : 2 ^ a ≤ 2 ^ 4 := Nat.pow_le_pow_right (by decide) ha
      have h9 : 0 < 2 ^ a := Nat.two_pow_pos a
      rw [u64w (by omega) (by omega), shl1 a (by omega)]
      refine ev_p (by omega) (ev_p (by omega) (ev_p (by omega) ?_))
      rw [Int.toNat_natCast, nRow_zero]
      have := spec_SumTable_l0 a ha l (by omega) hi64 l [] 0 rfl rfl
      refine ev_eq this ?_
      unfold sumTableM
      by_cases hall : l.all (okTerm a) = true
      · rw [if_pos hall, if_pos ⟨h'.1, h'.2, by omega, hall⟩, Int.toNat_natCast]
      · rw [if_neg hall, if_neg (fun hh => hall hh.2.2.2)]
  · apply ev_up
    simp only [spec_SumTable.j0]
    rw [bad (fun hh => h (decide_eq_true ⟨hh.1, hh.2.1⟩))]
    exact ev_p (by trivial) (Ev.now _)

/-! #### impl_IsTerm -/
theorem impl_IsTerm_eq (n m v : Int) (hv : I64 v) : impl_IsTerm.f n m v = some (isTermM n m v) := by
  unfold impl_IsTerm.f
  unfold I64 at hv
  by_cases h1 : n ≥ 0
  · rw [if_pos h1]
    by_cases h2 : n ≤ 4
    · rw [if_pos h2]
      by_cases h3 : m ≥ 0
      · rw [if_pos h3, if_pos h1]
        obtain ⟨a, rfl⟩ := nat_of h1
        obtain ⟨b, rfl⟩ := nat_of h3
        rw [shl1 a (by omega)]
        have h8 : 2 ^ a ≤ 2 ^ 4 := Nat.pow_le_pow_right (by decide) (by omega : a ≤ 4)
        by_cases h4 : (b : Int) < ((2 ^ a : Nat) : Int)
        · rw [if_pos h4]
          by_cases h5 : v ≥ 0
          · rw [if_pos h5]
            obtain ⟨c, rfl⟩ := nat_of h5
            rw [andNotN c b (by omega) (by omega)]
            congr 1
            unfold isTermM
            rw [Bool.eq_iff_iff]
            simp only [Int.toNat_natCast, beq_iff_eq, decide_eq_true_eq]
            constructor
            · intro e
              have e2 : c ^^^ (c &&& b) = 0 := by exact_mod_cast e
              refine ⟨by omega, by omega, by omega, by exact_mod_cast h4, by omega, ((xor_eq_zero _ _).1 e2).symm⟩
            · rintro ⟨_, _, _, _, _, e⟩
              rw [e]
              simp
          · rw [if_neg h5]
            congr 1; symm; unfold isTermM
            exact decide_eq_false (fun h => h5 h.2.2.2.2.1)
        · rw [if_neg h4]
          congr 1; symm; unfold isTermM
          exact decide_eq_false (fun h => h4 (by have := h.2.2.2.1; simpa using this))
      · rw [if_neg h3]
        congr 1; symm; unfold isTermM
        exact decide_eq_false (fun h => h3 h.2.2.1)
    · rw [if_neg h2]
      congr 1; symm; unfold isTermM
      exact decide_eq_false (fun h => h2 h.2.1)
  · rw [if_neg h1]
    congr 1; symm; unfold isTermM
    exact decide_eq_false (fun h => h1 h.1)

/-! #### impl_SumTable -/
theorem impl_SumTable_l2 (a : Nat) (m : Nat) (hm : m ≤ 16) (l : List S70) (hl : l.length ≤ 16) (hok : ∀ x ∈ l, okTerm a x = true) (i : Nat) (hi : i < m) (e : Int) (res : Int × List Int × Bool) (r : List S70) : ∀ (p : List S70) (f : Nat → Nat) (n : Int), n = p.length → l = p ++ r →
    Ev (fun k => impl_SumTable.l1 k l e (wrap64 ((i : Int) + 1)) a (nRow m (fun b => if b = i ∧ r.any (fun x => covB x i) = true then 1 else f b))) res → Ev (fun k => impl_SumTable.l2 k l i e i l l.length n a (nRow m f)) res := by
  induction r with
  | nil =>
    intro p f n hn he h
    have hlen : l.length = p.length := by rw [he]; simp
    apply ev_up
    simp only [impl_SumTable.l2]
    refine ev_n (by omega) ?_
    simpa using h
  | cons x r ih =>
    intro p f n hn he h
    have hlen : l.length = p.length + r.length + 1 := by rw [he]; simp; omega
    have hx : rd_T70 l n = x := by rw [he]; exact rdTermA hn
    obtain ⟨a', b, c, ea, eb, ec, _, hb, _, hcb, hb16⟩ := isTermM_nat (hok x (by rw [he]; simp))
    have ex : covB x i = decide (i &&& b = c) := by unfold covB; rw [eb, ec]; rfl
    apply ev_up
    simp only [impl_SumTable.l2]
    refine ev_p (by omega) (ev_p (by omega) (ev_p (by omega) ?_))
    rw [hx, w64 (n := n + 1) (by omega) (by omega), eb, ec, andN i b (by omega) (by omega)]
    refine ev_ite (fun hc => ?_) (fun hc => ?_)
    · have hc' : i &&& b = c := by exact_mod_cast hc
      refine ev_p (by omega) (ev_p (by rw [nRow_length]; omega) ?_)
      have es := nRow_set (f := f) (v := 1) hi
      rw [Int.toNat_natCast, show (1 : Int) = ((1 : Nat) : Int) from rfl, es]
      refine ih (p ++ [x]) _ (n + 1) (by simp; omega) (by rw [he]; simp) ?_
      have e2 : nRow m (fun b => if b = i ∧ r.any (fun x => covB x i) = true then 1 else (if b = i then 1 else f b)) = nRow m (fun b => if b = i ∧ (x :: r).any (fun x => covB x i) = true then 1 else f b) := by
        apply nRow_congr
        intro b _
        rw [List.any_cons, ex, decide_eq_true hc', Bool.true_or]
        by_cases hb : b = i
        · rw [if_pos (show b = i ∧ true = true from ⟨hb, rfl⟩)]
          split <;> first | rfl | (rw [if_pos hb])
        · rw [if_neg (fun hh => hb hh.1), if_neg hb, if_neg (fun hh => hb hh.1)]
      rw [e2]
      exact h
    · have hc' : ¬ i &&& b = c := fun hh => hc (by exact_mod_cast hh)
      refine ih (p ++ [x]) f (n + 1) (by simp; omega) (by rw [he]; simp) ?_
      rw [List.any_cons, ex, decide_eq_false hc', Bool.false_or] at h
      exact h
theorem impl_SumTable_l1 (a : Nat) (m : Nat) (hm : m ≤ 16) (l : List S70) (hl : l.length ≤ 16) (hok : ∀ x ∈ l, okTerm a x = true) (d : Nat) : ∀ (i : Nat), i + d = m →
    Ev (fun k => impl_SumTable.l1 k l m i a (nRow m (fun b => if b < i then sumF l b else 0))) ((a : Int), nRow m (sumF l), true) := by
  induction d with
  | zero =>
    intro i hi
    apply ev_up
    simp only [impl_SumTable.l1]
    refine ev_n (by omega) (ev_eq (Ev.now _) ?_)
    have : nRow m (fun b => if b < i then sumF l b else 0) = nRow m (sumF l) := nRow_congr (fun b hb => by rw [if_pos (by omega)])
    rw [this]
  | succ d ih =>
    intro i hi
    apply ev_up
    simp only [impl_SumTable.l1]
    refine ev_p (by omega) ?_
    refine impl_SumTable_l2 a m hm l hl hok i (by omega) m _ l [] _ 0 rfl rfl ?_
    rw [wN (n := (i : Int) + 1) (m := i + 1) (by omega) (by omega)]
    have : nRow m (fun b => if b = i ∧ l.any (fun x => covB x i) = true then 1 else (if b < i then sumF l b else 0)) = nRow m (fun b => if b < i + 1 then sumF l b else 0) := by
      apply nRow_congr
      intro b _
      by_cases hb : b = i
      · subst hb
        rw [if_pos (show b < b + 1 by omega)]
        by_cases hc : l.any (fun x => covB x b) = true
        · rw [if_pos ⟨rfl, hc⟩]
          unfold sumF
          rw [if_pos hc]
        · rw [if_neg (fun hh => hc hh.2), if_neg (Nat.lt_irrefl b)]
          unfold sumF
          rw [if_neg hc]
      · rw [if_neg (fun hh => hb hh.1)]
        by_cases h1 : b < i
        · rw [if_pos h1, if_pos (show b < i + 1 by omega)]
        · rw [if_neg h1, if_neg (show ¬ b < i + 1 by omega)]
    rw [this]
    exact ih (i + 1) (by omega)
theorem impl_SumTable_l0 (a : Nat) (ha : a ≤ 4) (l : List S70) (hl : l.length ≤ 16) (hi64 : ∀ x ∈ l, I64 x.f0 ∧ I64 x.f1) (r : List S70) : ∀ (p : List S70) (i : Int), i = p.length → l = p ++ r → (∀ x ∈ p, okTerm a x = true) →
    Ev (fun k => impl_SumTable.l0 k a l l l.length i) (if r.all (okTerm a) = true then ((a : Int), nRow (2 ^ a) (sumF l), true) else (0, [], false)) := by
  have h8 : 2 ^ a ≤ 2 ^ 4 := Nat.pow_le_pow_right (by decide) ha
  induction r with
  | nil =>
    intro p i hi e hp
    have hlen : l.length = p.length := by rw [e]; simp
    have hpp : l = p := by rw [e]; simp
    have h9 : 0 < 2 ^ a := Nat.two_pow_pos a
    apply ev_up
    simp only [impl_SumTable.l0]
    rw [shl1 a (by omega)]
    refine ev_n (by omega) (ev_p (by omega) (ev_p (by omega) (ev_p (by omega) (Ev.bind (ev_c rfl) ?_))))
    rw [List.all_nil, if_pos rfl, Int.toNat_natCast, nRow_zero, nRow_length]
    have := impl_SumTable_l1 a (2 ^ a) (by omega) l hl (by rw [hpp]; exact hp) (2 ^ a) 0 (by omega)
    have e2 : nRow (2 ^ a) (fun b => if b < 0 then sumF l b else 0) = nRow (2 ^ a) (fun _ => 0) := nRow_congr (fun b _ => by rw [if_neg (by omega)])
    rw [e2] at this
    exact this
  | cons x r ih =>
    intro p i hi e hp
    have hlen : l.length = p.length + r.length + 1 := by rw [e]; simp; omega
    have hx : rd_T70 l i = x := by rw [e]; exact rdTermA hi
    apply ev_up
    simp only [impl_SumTable.l0]
    refine ev_p (by omega) (ev_p (by omega) (ev_p (by omega) ?_))
    rw [hx, impl_IsTerm_eq a x.f0 x.f1 (hi64 x (by rw [e]; simp)).2, w64 (n := i + 1) (by omega) (by omega)]
    refine Ev.bind (ev_c rfl) (ev_ite (fun h => ?_) (fun h => ?_))
    · have hok : okTerm a x = true := h
      rw [List.all_cons, hok, Bool.true_and]
      refine ih (p ++ [x]) (i + 1) (by simp; omega) (by rw [e]; simp) (fun y hy => ?_)
      rw [List.mem_append] at hy
      rcases hy with hy | hy
      · exact hp y hy
      · simp only [List.mem_singleton] at hy
        rw [hy]
        exact hok
    · have hok : okTerm a x = false := by unfold okTerm; simpa using h
      rw [List.all_cons, hok, Bool.false_and, if_neg (by decide)]
      exact Ev.now _
theorem impl_SumTable_ev (n : Int) (l : List S70) (hl : l.length ≤ 1048576) (hi64 : ∀ x ∈ l, I64 x.f0 ∧ I64 x.f1) : Ev (fun k => impl_SumTable.f k n l) (sumTableM n l) := by
  have bad : ¬ (0 ≤ n ∧ n ≤ 4 ∧ l.length ≤ 16) → Ev (fun k => impl_SumTable.j0 k n l true) (sumTableM n l) := fun h => by
    unfold sumTableM
    rw [if_neg (fun hh => h ⟨hh.1, hh.2.1, hh.2.2.1⟩)]
    apply ev_up
    simp only [impl_SumTable.j0]
    exact ev_p (by trivial) (Ev.now _)
  unfold impl_SumTable.f
  refine ev_ite (fun h => bad (by omega)) (fun h1 => ev_ite (fun h => bad (by omega)) (fun h2 => ?_))
  apply ev_up
  simp only [impl_SumTable.j0]
  refine ev_ite (fun h3 => ?_) (fun h3 => ?_)
  · have h3' := of_decide_eq_true h3
    unfold sumTableM
    rw [if_neg (fun hh => by omega)]
    exact Ev.now _
  · have h3' : ¬ (l.length : Int) > 16 := fun hh => h3 (decide_eq_true hh)
    obtain ⟨a, rfl⟩ := nat_of (show 0 ≤ n by omega)
    have := impl_SumTable_l0 a (by omega) l (by omega) hi64 l [] 0 rfl rfl (fun x hx => by simp at hx)
    refine ev_eq this ?_
    unfold sumTableM
    by_cases hall : l.all (okTerm a) = true
    · rw [if_pos hall, if_pos ⟨by omega, by omega, by omega, hall⟩, Int.toNat_natCast]
    · rw [if_neg hall, if_neg (fun hh => hall hh.2.2.2)]

/-! #### eqIntS -/
theorem eqIntS_l0 (r : List Int) : ∀ (s p q : List Int) (i : Int), i = p.length → p.length = q.length → r.length = s.length → p.length + r.length ≤ 9223372036854775807 →
    Ev (fun k => laws_eqIntS.l0 k (p ++ r) (q ++ s) i) (decide (r = s)) := by
  induction r with
  | nil =>
    intro s p q i hi hpq hrs hb
    obtain rfl : s = [] := List.length_eq_zero_iff.1 hrs.symm
    apply ev_up
    simp only [laws_eqIntS.l0]
    refine ev_n (by simp; omega) ?_
    simpa using Ev.now true
  | cons x r ih =>
    intro s p q i hi hpq hrs hb
    match s, hrs with
    | y :: s, hrs =>
      simp only [List.length_cons] at hrs hb
      apply ev_up
      simp only [laws_eqIntS.l0]
      refine ev_p (by simp; omega) (ev_p (by omega) (ev_p (by simp; omega) ?_))
      rw [rdA hi, rdA (by omega)]
      refine ev_ite (fun hxy => ?_) (fun hxy => ?_)
      · subst hxy
        rw [w64 (by omega) (by omega), appA, appA (p := q)]
        refine ev_eq (ih s (p ++ [x]) (q ++ [x]) (i + 1) (by simp; omega) (by simp; omega) (by omega) (by simp; omega)) ?_
        simp
      · refine ev_eq (Ev.now false) ?_
        simp [hxy]
theorem eqIntS_ev (a b : List Int) (h : a.length ≤ 9223372036854775807) : Ev (fun k => laws_eqIntS.f k a b) (decide (a = b)) := by
  unfold laws_eqIntS.f
  refine ev_ite (fun hl => ?_) (fun hl => ?_)
  · exact eqIntS_l0 a b [] [] 0 rfl rfl (by omega) (by simpa using h)
  · refine ev_eq (Ev.now false) ?_
    symm
    apply decide_eq_false
    rintro rfl
    exact hl rfl

/-! #### eqTable -/
theorem eqTable_same (n : Int) (l : List Int) (hl : l.length ≤ 1048576) : Ev (fun k => laws_eqTable.f k n l n l) true := by
  unfold laws_eqTable.f
  have heq : Ev (fun k => laws_eqIntS.f k l l) true := by simpa using eqIntS_ev l l (by omega)
  exact ev_p rfl (Ev.bind heq (ev_p rfl (Ev.now _)))

/-! #### markIntS -/
theorem markIntS_l0 (r : List Int) : ∀ (p : List Int) (s i : Int), i = p.length → p.length + r.length ≤ 9223372036854775807 → 0 ≤ s → s + r.length ≤ 9223372036854775807 →
    Ev (fun k => laws_markIntS.l0 k (p ++ r) s i) (s + r.length, p ++ seqFrom s r.length) := by
  induction r with
  | nil =>
    intro p s i hi hb h0 hs
    apply ev_up
    simp only [laws_markIntS.l0]
    refine ev_n (by simp; omega) ?_
    simpa [seqFrom] using Ev.now (s, p)
  | cons x r ih =>
    intro p s i hi hb h0 hs
    simp only [List.length_cons, Int.natCast_add] at hb hs
    apply ev_up
    simp only [laws_markIntS.l0]
    refine ev_p (by simp; omega) (ev_p (by omega) ?_)
    rw [setA hi, w64 (by omega) (by omega), w64 (by omega) (by omega)]
    refine ev_eq (ih (p ++ [s]) (s + 1) (i + 1) (by simp; omega) (by simp; omega) (by omega) (by omega)) ?_
    simp [seqFrom]
    omega
theorem markIntS_ev (a : List Int) (s : Int) (h0 : 0 ≤ s) (h : a.length + s ≤ 9223372036854775807) : Ev (fun k => laws_markIntS.f k a s) (s + a.length, seqFrom s a.length) := by
  unfold laws_markIntS.f
  exact markIntS_l0 a [] s 0 rfl (by simp; omega) h0 (by omega)

/-! #### heldIntS -/
theorem heldIntS_l0 (n : Nat) : ∀ (p : List Int) (s i : Int), i = p.length → p.length + n ≤ 9223372036854775807 → 0 ≤ s → s + n ≤ 9223372036854775807 →
    Ev (fun k => laws_heldIntS.l0 k (p ++ seqFrom s n) s i) (s + n) := by
  induction n with
  | zero =>
    intro p s i hi hb h0 hs
    apply ev_up
    simp only [laws_heldIntS.l0]
    refine ev_n (by simp [seqFrom]; omega) ?_
    simpa [seqFrom] using Ev.now s
  | succ n ih =>
    intro p s i hi hb h0 hs
    apply ev_up
    simp only [laws_heldIntS.l0]
    have hl := seqFrom_length s (n + 1)
    refine ev_p (by simp [hl]; omega) (ev_p (by omega) ?_)
    refine ev_p (by simp only [seqFrom]; exact rdA hi) ?_
    simp only [seqFrom]
    rw [appA, w64 (by omega) (by omega), w64 (by omega) (by omega)]
    refine ev_eq (ih (p ++ [s]) (s + 1) (i + 1) (by simp; omega) (by simp; omega) (by omega) (by omega)) ?_
    omega
theorem heldIntS_ev (n : Nat) (s : Int) (h0 : 0 ≤ s) (h : n + s ≤ 9223372036854775807) : Ev (fun k => laws_heldIntS.f k (seqFrom s n) s) (s + n) := by
  unfold laws_heldIntS.f
  exact heldIntS_l0 n [] s 0 rfl (by simp; omega) h0 (by omega)

/-! #### markTable -/
theorem markTable_ev (n : Int) (l : List Int) (h : l.length ≤ 1048576) : Ev (fun k => laws_markTable.f k n l 1) (1 + l.length, seqFrom 1 l.length) := by
  unfold laws_markTable.f
  exact Ev.bind (markIntS_ev l 1 (by omega) (by omega)) (Ev.now _)
theorem heldTable_ev (n : Int) (m : Nat) (h : m ≤ 1048576) : Ev (fun k => laws_heldTable.f k n (seqFrom 1 m) 1) (1 + m) := by
  unfold laws_heldTable.f
  exact Ev.bind (heldIntS_ev m 1 (by omega) (by omega)) (ev_n (by omega) (Ev.now _))

/-! #### FnExactSumTable -/
theorem FnExactSumTable (a0 : Int) (l1 : (List (S74))) : I64 a0 → (l1.length ≤ 9223372036854775807 ∧ ∀ y2 ∈ l1, I64 y2.f0 ∧ I64 y2.f1) → ∃ k, laws_FnExactSumTable.f k a0 l1 = some true := by
  rintro _ ⟨hl, hb⟩
  apply ev_get
  unfold laws_FnExactSumTable.f
  rw [szTermS_eq l1 1048576 (by omega) (by omega) hl]
  refine Ev.bind (ev_c rfl) (ev_ite (fun _ => Ev.now _) (fun h => ?_))
  have hl2 := len_pre h
  have hto := toTermS_ev l1 hl2
  have hlm : (l1.map cvTerm).length ≤ 1048576 := by simpa using hl2
  have hbm : ∀ x ∈ l1.map cvTerm, I64 x.f0 ∧ I64 x.f1 := fun x hx => by
    obtain ⟨y, hy, rfl⟩ := List.mem_map.1 hx
    exact hb y hy
  have heq := eqTermS_self (l1.map cvTerm) (by omega)
  have hs := spec_SumTable_ev a0 (l1.map cvTerm) hlm hbm
  have hi := impl_SumTable_ev a0 (l1.map cvTerm) hlm hbm
  have hR := sumTableM_length a0 (l1.map cvTerm)
  generalize sumTableM a0 (l1.map cvTerm) = R at hs hi hR
  have heqR := eqTable_same R.1 R.2.1 (by omega)
  have hmark := markTable_ev R.1 R.2.1 (by omega)
  have hheld := heldTable_ev R.1 R.2.1.length (by omega)
  obtain ⟨t, hmt⟩ := markTermS_ev (l1.map cvTerm) hlm
  repeat (first
    | (with_reducible exact Ev.now _)
    | (with_reducible refine Ev.bind hto ?_)
    | (with_reducible refine Ev.bind hs ?_)
    | (with_reducible refine Ev.bind hi ?_)
    | (with_reducible refine Ev.bind heq ?_)
    | (with_reducible refine Ev.bind heqR ?_)
    | (with_reducible refine Ev.bind hmark ?_)
    | (with_reducible refine Ev.bind hheld ?_)
    | (with_reducible refine Ev.bind hmt ?_)
    | (with_reducible refine ev_p rfl ?_)
    | (with_reducible refine ev_p True.intro ?_)
    | (refine ev_n ?h ?_; case h => (first | omega | (simp; done) | (simp; omega)))
    | (with_reducible refine ev_up (g := fun n => laws_FnExactSumTable.j0 n _ _ _ _ _ _ _ _ _ _) ?_; simp only [laws_FnExactSumTable.j0, bne_self_eq_false])
    | (with_reducible refine ev_up (g := fun n => laws_FnExactSumTable.j1 n _ _ _ _ _ _ _ _) ?_; simp only [laws_FnExactSumTable.j1, bne_self_eq_false])
    | (with_reducible refine ev_up (g := fun n => laws_FnExactSumTable.j2 n _ _ _ _) ?_; simp only [laws_FnExactSumTable.j2, bne_self_eq_false]))

end Go.Proofs.Ytdhbblmkbgojfaa.Pure
