/- The pure part of the law FnExactTermIndices: what the program and the reference compute is the same, for all arguments. Conditions: the numbers are of Go's int, the lengths of slices are. -/
import Derived.Test.YtjoenfdnhikalaaPFnExactTermIndicesx2
import Derived.Test.YtjoenfdnhikalaaKit
namespace Go.Proofs.Ytjoenfdnhikalaa.Pure
open Go.RowKit Go.Proofs.Ytjoenfdnhikalaa.PFnExactTermIndices Go.Proofs.YtjoenfdnhikalaaW.PrintWords Go.Proofs.YtjoenfdnhikalaaW.PrintLast Go.Proofs.Ytjoenfdnhikalaa.Open Go.Proofs.Ytjoenfdnhikalaa.Kit

/-! #### isTermM -/
/-- What both call a valid term. -/
def isTermM (n m v : Int) : Bool := decide (0 ≤ n ∧ n ≤ 4 ∧ 0 ≤ m ∧ m < 2 ^ n.toNat ∧ 0 ≤ v ∧ v.toNat &&& m.toNat = v.toNat)
theorem isTermM_nat {n m v : Int} (h : isTermM n m v = true) : ∃ a b c : Nat, n = a ∧ m = b ∧ v = c ∧ a ≤ 4 ∧ b < 2 ^ a ∧ c &&& b = c ∧ c ≤ b ∧ b < 16 := by
  unfold isTermM at h
  simp only [decide_eq_true_eq] at h
  obtain ⟨h1, h2, h3, h4, h5, h6⟩ := h
  obtain ⟨a, rfl⟩ := nat_of h1
  obtain ⟨b, rfl⟩ := nat_of h3
  obtain ⟨c, rfl⟩ := nat_of h5
  simp only [Int.toNat_natCast] at h4 h6
  have h7 : b < 2 ^ a := by exact_mod_cast h4
  have h8 : 2 ^ a ≤ 2 ^ 4 := Nat.pow_le_pow_right (by decide) (by omega)
  refine ⟨a, b, c, rfl, rfl, rfl, by omega, h7, h6, ?_, by omega⟩
  rw [← h6]
  exact Nat.and_le_right

/-! #### impl_IsTerm -/
theorem impl_IsTerm_eq (n m v : Int) (hv : I64 v) : impl_IsTerm.f n m v = some (isTermM n m v) := by
  unfold impl_IsTerm.f
  unfold I64 at hv
  by_cases h1 : n ≥ 0
  · rw [if_pos h1]
    by_cases h2 : n ≤ 4
    · rw [if_pos h2]
      by_cases h3 : m ≥ 0
      · rw [if_pos h3, if_pos h1]
        obtain ⟨a, rfl⟩ := nat_of h1
        obtain ⟨b, rfl⟩ := nat_of h3
        rw [shl1 a (by omega)]
        have h8 : 2 ^ a ≤ 2 ^ 4 := Nat.pow_le_pow_right (by decide) (by omega : a ≤ 4)
        by_cases h4 : (b : Int) < ((2 ^ a : Nat) : Int)
        · rw [if_pos h4]
          by_cases h5 : v ≥ 0
          · rw [if_pos h5]
            obtain ⟨c, rfl⟩ := nat_of h5
            rw [andNotN c b (by omega) (by omega)]
            congr 1
            unfold isTermM
            rw [Bool.eq_iff_iff]
            simp only [Int.toNat_natCast, beq_iff_eq, decide_eq_true_eq]
            constructor
            · intro e
              have e2 : c ^^^ (c &&& b) = 0 := by exact_mod_cast e
              refine ⟨by omega, by omega, by omega, by exact_mod_cast h4, by omega, ((xor_eq_zero _ _).1 e2).symm⟩
            · rintro ⟨_, _, _, _, _, e⟩
              rw [e]
              simp
          · rw [if_neg h5]
            congr 1; symm; unfold isTermM
            exact decide_eq_false (fun h => h5 h.2.2.2.2.1)
        · rw [if_neg h4]
          congr 1; symm; unfold isTermM
          exact decide_eq_false (fun h => h4 (by have := h.2.2.2.1; simpa using this))
      · rw [if_neg h3]
        congr 1; symm; unfold isTermM
        exact decide_eq_false (fun h => h3 h.2.2.1)
    · rw [if_neg h2]
      congr 1; symm; unfold isTermM
      exact decide_eq_false (fun h => h2 h.2.1)
  · rw [if_neg h1]
    congr 1; symm; unfold isTermM
    exact decide_eq_false (fun h => h1 h.1)

/-! #### l1In -/
theorem l1In_eq (a b c : Int) : spec_l1In.f a b c = some (decide (b ≤ a ∧ a ≤ c)) := by
  unfold spec_l1In.f
  by_cases h : b ≤ a
  · rw [if_pos h]; simp [h]
  · rw [if_neg h]; simp [h]

/-! #### ttInputs -/
theorem ttInputs_eq (a : Int) : spec_ttInputs.f a = some (decide (0 ≤ a ∧ a ≤ 4)) := by
  unfold spec_ttInputs.f
  rw [l1In_eq, Option.bind_some]

/-! #### spec_nfTerm -/
theorem spec_nfTerm_eq (n m v : Int) (hv : I64 v) : spec_nfTerm.f n m v = some (isTermM n m v) := by
  unfold spec_nfTerm.f
  rw [ttInputs_eq, Option.bind_some]
  by_cases h : 0 ≤ n ∧ n ≤ 4
  · rw [decide_eq_true h, if_pos rfl]
    obtain ⟨a, rfl⟩ := nat_of h.1
    have ha : a ≤ 4 := by omega
    rw [u64w (by omega) (by omega), if_pos (by omega), shl1 a (by omega)]
    have h8 : 2 ^ a ≤ 2 ^ 4 := Nat.pow_le_pow_right (by decide) ha
    have h9 : 0 < 2 ^ a := Nat.two_pow_pos a
    rw [w64 (by omega) (by omega), l1In_eq, Option.bind_some]
    by_cases hm : 0 ≤ m ∧ m ≤ ((2 ^ a : Nat) : Int) - 1
    · rw [decide_eq_true hm, if_pos rfl, l1In_eq, Option.bind_some]
      obtain ⟨b, rfl⟩ := nat_of hm.1
      by_cases hc : 0 ≤ v ∧ v ≤ (b : Int)
      · rw [decide_eq_true hc, if_pos rfl]
        obtain ⟨c, rfl⟩ := nat_of hc.1
        rw [andN c b (by omega) (by omega)]
        unfold isTermM
        simp only [Int.toNat_natCast]
        congr 1
        rw [Bool.eq_iff_iff]
        simp only [beq_iff_eq, decide_eq_true_eq]
        constructor
        · intro e
          refine ⟨by omega, by omega, by omega, ?_, by omega, by omega⟩
          have : b < 2 ^ a := by omega
          exact_mod_cast this
        · rintro ⟨_, _, _, _, _, e⟩
          omega
      · rw [decide_eq_false hc, if_neg (by decide)]
        congr 1
        symm
        unfold isTermM
        apply decide_eq_false
        rintro ⟨_, _, _, _, h5, h6⟩
        obtain ⟨c, rfl⟩ := nat_of h5
        simp only [Int.toNat_natCast] at h6
        have : c &&& b ≤ b := Nat.and_le_right
        omega
    · rw [decide_eq_false hm, if_neg (by decide)]
      congr 1
      symm
      unfold isTermM
      apply decide_eq_false
      rintro ⟨_, _, h3, h4, _, _⟩
      obtain ⟨b, rfl⟩ := nat_of h3
      simp only [Int.toNat_natCast] at h4
      have : b < 2 ^ a := by exact_mod_cast h4
      omega
  · rw [decide_eq_false h, if_neg (by decide)]
    congr 1
    symm
    unfold isTermM
    apply decide_eq_false
    rintro ⟨h1, h2, _⟩
    exact h ⟨h1, h2⟩

/-! #### termIndices -/
/-- The indices that a term covers, from i on. -/
def idxM (N m v : Nat) : Nat → List Int
  | 0 => []
  | d + 1 => (if (N - (d + 1)) &&& m = v then [((N - (d + 1) : Nat) : Int)] else []) ++ idxM N m v d
theorem idxM_length (N m v d : Nat) : (idxM N m v d).length ≤ d := by
  induction d with
  | zero => simp [idxM]
  | succ d ih => unfold idxM; split <;> simp <;> omega
theorem spec_nfIndices_l0 (a m v : Nat) (ha : a ≤ 4) (hm : m < 16) (d : Nat) : ∀ (xs : List Int) (i : Nat), i + d = 2 ^ a → xs.length ≤ i →
    Ev (fun k => spec_nfIndices.l0 k a xs i m v) (xs ++ idxM (2 ^ a) m v d) := by
  have h8 : 2 ^ a ≤ 2 ^ 4 := Nat.pow_le_pow_right (by decide) ha
  induction d with
  | zero =>
    intro xs i hi hx
    apply ev_up
    simp only [spec_nfIndices.l0]
    rw [u64w (by omega) (by omega), shl1 a (by omega)]
    refine ev_p (by omega) (ev_n (by omega) ?_)
    simpa [idxM] using Ev.now xs
  | succ d ih =>
    intro xs i hi hx
    apply ev_up
    simp only [spec_nfIndices.l0]
    rw [u64w (by omega) (by omega), shl1 a (by omega)]
    refine ev_p (by omega) (ev_p (by omega) ?_)
    rw [andN i m (by omega) (by omega), wN (m := i + 1) (by omega) (by omega)]
    have e : 2 ^ a - (d + 1) = i := by omega
    refine ev_ite (fun h => ?_) (fun h => ?_)
    · refine ev_p (by omega) ?_
      refine ev_eq (ih _ (i + 1) (by omega) (by simp; omega)) ?_
      have h' : i &&& m = v := by exact_mod_cast h
      simp [idxM, e, h']
    · refine ev_eq (ih _ (i + 1) (by omega) (by omega)) ?_
      have h' : ¬ i &&& m = v := fun h2 => h (by exact_mod_cast h2)
      simp [idxM, e, h']
theorem impl_TermIndices_l0 (a m v : Nat) (ha : a ≤ 4) (hm : m < 16) (d : Nat) : ∀ (xs : List Int) (i : Nat), i + d = 2 ^ a → xs.length ≤ i →
    Ev (fun k => impl_TermIndices.l0 k a xs i m v) (xs ++ idxM (2 ^ a) m v d, true) := by
  have h8 : 2 ^ a ≤ 2 ^ 4 := Nat.pow_le_pow_right (by decide) ha
  induction d with
  | zero =>
    intro xs i hi hx
    apply ev_up
    simp only [impl_TermIndices.l0]
    rw [shl1 a (by omega)]
    refine ev_p (by omega) (ev_n (by omega) ?_)
    simpa [idxM] using Ev.now (xs, true)
  | succ d ih =>
    intro xs i hi hx
    apply ev_up
    simp only [impl_TermIndices.l0]
    rw [shl1 a (by omega)]
    refine ev_p (by omega) (ev_p (by omega) ?_)
    rw [andN i m (by omega) (by omega), wN (m := i + 1) (by omega) (by omega)]
    have e : 2 ^ a - (d + 1) = i := by omega
    refine ev_ite (fun h => ?_) (fun h => ?_)
    · refine ev_p (by omega) ?_
      refine ev_eq (ih _ (i + 1) (by omega) (by simp; omega)) ?_
      have h' : i &&& m = v := by exact_mod_cast h
      simp [idxM, e, h']
    · refine ev_eq (ih _ (i + 1) (by omega) (by omega)) ?_
      have h' : ¬ i &&& m = v := fun h2 => h (by exact_mod_cast h2)
      simp [idxM, e, h']
/-- What both give for TermIndices. -/
def termIndicesM (n m v : Int) : List Int × Bool := if isTermM n m v then (idxM (2 ^ n.toNat) m.toNat v.toNat (2 ^ n.toNat), true) else ([], false)
theorem termIndicesM_length (n m v : Int) : (termIndicesM n m v).1.length ≤ 16 := by
  unfold termIndicesM
  by_cases h : isTermM n m v = true
  · rw [if_pos h]
    obtain ⟨a, b, c, rfl, rfl, rfl, ha, hb, _⟩ := isTermM_nat h
    have h8 : 2 ^ a ≤ 2 ^ 4 := Nat.pow_le_pow_right (by decide) ha
    have := idxM_length (2 ^ a) b c (2 ^ a)
    simp only [Int.toNat_natCast]
    omega
  · rw [if_neg h]
    simp
theorem spec_TermIndices_ev (n m v : Int) (hv : I64 v) : Ev (fun k => spec_TermIndices.f k n m v) (termIndicesM n m v) := by
  unfold spec_TermIndices.f
  rw [spec_nfTerm_eq n m v hv]
  refine Ev.bind (ev_c rfl) ?_
  refine ev_ite (fun h => ?_) (fun h => ?_)
  · unfold termIndicesM
    rw [if_pos h]
    obtain ⟨a, b, c, rfl, rfl, rfl, ha, hb, _, _, hb16⟩ := isTermM_nat h
    refine Ev.bind (a := idxM (2 ^ a) b c (2 ^ a)) ?_ (Ev.now _)
    unfold spec_nfIndices.f
    exact spec_nfIndices_l0 a b c ha hb16 (2 ^ a) [] 0 (by omega) (by simp)
  · unfold termIndicesM
    rw [if_neg h]
    exact Ev.now _
theorem impl_TermIndices_ev (n m v : Int) (hv : I64 v) : Ev (fun k => impl_TermIndices.f k n m v) (termIndicesM n m v) := by
  unfold impl_TermIndices.f
  rw [impl_IsTerm_eq n m v hv]
  refine Ev.bind (ev_c rfl) ?_
  refine ev_ite (fun h => ?_) (fun h => ?_)
  · unfold termIndicesM
    rw [if_pos h]
    obtain ⟨a, b, c, rfl, rfl, rfl, ha, hb, _, _, hb16⟩ := isTermM_nat h
    exact impl_TermIndices_l0 a b c ha hb16 (2 ^ a) [] 0 (by omega) (by simp)
  · unfold termIndicesM
    rw [if_neg h]
    exact Ev.now _

/-! #### eqIntS -/
theorem eqIntS_l0 (r : List Int) : ∀ (s p q : List Int) (i : Int), i = p.length → p.length = q.length → r.length = s.length → p.length + r.length ≤ 9223372036854775807 →
    Ev (fun k => laws_eqIntS.l0 k (p ++ r) (q ++ s) i) (decide (r = s)) := by
  induction r with
  | nil =>
    intro s p q i hi hpq hrs hb
    obtain rfl : s = [] := List.length_eq_zero_iff.1 hrs.symm
    apply ev_up
    simp only [laws_eqIntS.l0]
    refine ev_n (by simp; omega) ?_
    simpa using Ev.now true
  | cons x r ih =>
    intro s p q i hi hpq hrs hb
    match s, hrs with
    | y :: s, hrs =>
      simp only [List.length_cons] at hrs hb
      apply ev_up
      simp only [laws_eqIntS.l0]
      refine ev_p (by simp; omega) (ev_p (by omega) (ev_p (by simp; omega) ?_))
      rw [rdA hi, rdA (by omega)]
      refine ev_ite (fun hxy => ?_) (fun hxy => ?_)
      · subst hxy
        rw [w64 (by omega) (by omega), appA, appA (p := q)]
        refine ev_eq (ih s (p ++ [x]) (q ++ [x]) (i + 1) (by simp; omega) (by simp; omega) (by omega) (by simp; omega)) ?_
        simp
      · refine ev_eq (Ev.now false) ?_
        simp [hxy]
theorem eqIntS_ev (a b : List Int) (h : a.length ≤ 9223372036854775807) : Ev (fun k => laws_eqIntS.f k a b) (decide (a = b)) := by
  unfold laws_eqIntS.f
  refine ev_ite (fun hl => ?_) (fun hl => ?_)
  · exact eqIntS_l0 a b [] [] 0 rfl rfl (by omega) (by simpa using h)
  · refine ev_eq (Ev.now false) ?_
    symm
    apply decide_eq_false
    rintro rfl
    exact hl rfl

/-! #### markIntS -/
theorem markIntS_l0 (r : List Int) : ∀ (p : List Int) (s i : Int), i = p.length → p.length + r.length ≤ 9223372036854775807 → 0 ≤ s → s + r.length ≤ 9223372036854775807 →
    Ev (fun k => laws_markIntS.l0 k (p ++ r) s i) (s + r.length, p ++ seqFrom s r.length) := by
  induction r with
  | nil =>
    intro p s i hi hb h0 hs
    apply ev_up
    simp only [laws_markIntS.l0]
    refine ev_n (by simp; omega) ?_
    simpa [seqFrom] using Ev.now (s, p)
  | cons x r ih =>
    intro p s i hi hb h0 hs
    simp only [List.length_cons, Int.natCast_add] at hb hs
    apply ev_up
    simp only [laws_markIntS.l0]
    refine ev_p (by simp; omega) (ev_p (by omega) ?_)
    rw [setA hi, w64 (by omega) (by omega), w64 (by omega) (by omega)]
    refine ev_eq (ih (p ++ [s]) (s + 1) (i + 1) (by simp; omega) (by simp; omega) (by omega) (by omega)) ?_
    simp [seqFrom]
    omega
theorem markIntS_ev (a : List Int) (s : Int) (h0 : 0 ≤ s) (h : a.length + s ≤ 9223372036854775807) : Ev (fun k => laws_markIntS.f k a s) (s + a.length, seqFrom s a.length) := by
  unfold laws_markIntS.f
  exact markIntS_l0 a [] s 0 rfl (by simp; omega) h0 (by omega)

/-! #### heldIntS -/
theorem heldIntS_l0 (n : Nat) : ∀ (p : List Int) (s i : Int), i = p.length → p.length + n ≤ 9223372036854775807 → 0 ≤ s → s + n ≤ 9223372036854775807 →
    Ev (fun k => laws_heldIntS.l0 k (p ++ seqFrom s n) s i) (s + n) := by
  induction n with
  | zero =>
    intro p s i hi hb h0 hs
    apply ev_up
    simp only [laws_heldIntS.l0]
    refine ev_n (by simp [seqFrom]; omega) ?_
    simpa [seqFrom] using Ev.now s
  | succ n ih =>
    intro p s i hi hb h0 hs
    apply ev_up
    simp only [laws_heldIntS.l0]
    have hl := seqFrom_length s (n + 1)
    refine ev_p (by simp [hl]; omega) (ev_p (by omega) ?_)
    refine ev_p (by simp only [seqFrom]; exact rdA hi) ?_
    simp only [seqFrom]
    rw [appA, w64 (by omega) (by omega), w64 (by omega) (by omega)]
    refine ev_eq (ih (p ++ [s]) (s + 1) (i + 1) (by simp; omega) (by simp; omega) (by omega) (by omega)) ?_
    omega
theorem heldIntS_ev (n : Nat) (s : Int) (h0 : 0 ≤ s) (h : n + s ≤ 9223372036854775807) : Ev (fun k => laws_heldIntS.f k (seqFrom s n) s) (s + n) := by
  unfold laws_heldIntS.f
  exact heldIntS_l0 n [] s 0 rfl (by simp; omega) h0 (by omega)

/-! #### FnExactTermIndices -/
theorem FnExactTermIndices (a0 : Int) (a1_0 : Int) (a1_1 : Int) : I64 a0 → I64 a1_0 → I64 a1_1 → ∃ k, laws_FnExactTermIndices.f k a0 a1_0 a1_1 = some true := by
  intro h0 h1 h2
  apply ev_get
  have hl := termIndicesM_length a0 a1_0 a1_1
  have hs := spec_TermIndices_ev a0 a1_0 a1_1 h2
  have hi := impl_TermIndices_ev a0 a1_0 a1_1 h2
  generalize termIndicesM a0 a1_0 a1_1 = R at hl hs hi
  have heq : Ev (fun k => laws_eqIntS.f k R.1 R.1) true := by simpa using eqIntS_ev R.1 R.1 (by omega)
  have hmark := markIntS_ev R.1 1 (by omega) (by omega)
  have hheld := heldIntS_ev R.1.length 1 (by omega) (by omega)
  unfold laws_FnExactTermIndices.f
  simp only [laws_toTerm.f, Option.bind_some]
  refine Ev.bind hs (Ev.bind hi (Ev.bind heq (ev_p rfl ?_)))
  simp only [bne_self_eq_false]
  apply ev_up
  simp only [laws_FnExactTermIndices.j0]
  refine ev_n (by decide) (Ev.bind hmark (Ev.bind hheld (ev_n (by omega) (ev_p rfl ?_))))
  simp only [laws_toTerm.f, Option.bind_some]
  refine Ev.bind hi (Ev.bind heq (ev_p rfl ?_))
  simp only [bne_self_eq_false]
  apply ev_up
  simp only [laws_FnExactTermIndices.j1]
  refine ev_n (by decide) (Ev.bind hheld (ev_n (by omega) (ev_p rfl (Ev.now _))))

end Go.Proofs.Ytjoenfdnhikalaa.Pure
