/- The pure part of the law FnExactTermText: what the program and the reference compute is the same, for all arguments. Conditions: the numbers are of Go's int, the lengths of slices are. -/
import Derived.Test.YtjoenfdnhikalaaPFnExactTermTextx2
import Derived.Test.YtjoenfdnhikalaaKit
namespace Go.Proofs.Ytjoenfdnhikalaa.Pure
open Go.RowKit Go.Proofs.Ytjoenfdnhikalaa.PFnExactTermText Go.Proofs.YtjoenfdnhikalaaW.PrintWords Go.Proofs.YtjoenfdnhikalaaW.PrintLast Go.Proofs.Ytjoenfdnhikalaa.Open Go.Proofs.Ytjoenfdnhikalaa.Kit

/-! #### isTermM -/
/-- What both call a valid term. -/
def isTermM (n m v : Int) : Bool := decide (0 ≤ n ∧ n ≤ 4 ∧ 0 ≤ m ∧ m < 2 ^ n.toNat ∧ 0 ≤ v ∧ v.toNat &&& m.toNat = v.toNat)
theorem isTermM_nat {n m v : Int} (h : isTermM n m v = true) : ∃ a b c : Nat, n = a ∧ m = b ∧ v = c ∧ a ≤ 4 ∧ b < 2 ^ a ∧ c &&& b = c ∧ c ≤ b ∧ b < 16 := by
  unfold isTermM at h
  simp only [decide_eq_true_eq] at h
  obtain ⟨h1, h2, h3, h4, h5, h6⟩ := h
  obtain ⟨a, rfl⟩ := nat_of h1
  obtain ⟨b, rfl⟩ := nat_of h3
  obtain ⟨c, rfl⟩ := nat_of h5
  simp only [Int.toNat_natCast] at h4 h6
  have h7 : b < 2 ^ a := by exact_mod_cast h4
  have h8 : 2 ^ a ≤ 2 ^ 4 := Nat.pow_le_pow_right (by decide) (by omega)
  refine ⟨a, b, c, rfl, rfl, rfl, by omega, h7, h6, ?_, by omega⟩
  rw [← h6]
  exact Nat.and_le_right

/-! #### impl_IsTerm -/
theorem impl_IsTerm_eq (n m v : Int) (hv : I64 v) : impl_IsTerm.f n m v = some (isTermM n m v) := by
  unfold impl_IsTerm.f
  unfold I64 at hv
  by_cases h1 : n ≥ 0
  · rw [if_pos h1]
    by_cases h2 : n ≤ 4
    · rw [if_pos h2]
      by_cases h3 : m ≥ 0
      · rw [if_pos h3, if_pos h1]
        obtain ⟨a, rfl⟩ := nat_of h1
        obtain ⟨b, rfl⟩ := nat_of h3
        rw [shl1 a (by omega)]
        have h8 : 2 ^ a ≤ 2 ^ 4 := Nat.pow_le_pow_right (by decide) (by omega : a ≤ 4)
        by_cases h4 : (b : Int) < ((2 ^ a : Nat) : Int)
        · rw [if_pos h4]
          by_cases h5 : v ≥ 0
          · rw [if_pos h5]
            obtain ⟨c, rfl⟩ := nat_of h5
            rw [andNotN c b (by omega) (by omega)]
            congr 1
            unfold isTermM
            rw [Bool.eq_iff_iff]
            simp only [Int.toNat_natCast, beq_iff_eq, decide_eq_true_eq]
            constructor
            · intro e
              have e2 : c ^^^ (c &&& b) = 0 := by exact_mod_cast e
              refine ⟨by omega, by omega, by omega, by exact_mod_cast h4, by omega, ((xor_eq_zero _ _).1 e2).symm⟩
            · rintro ⟨_, _, _, _, _, e⟩
              rw [e]
              simp
          · rw [if_neg h5]
            congr 1; symm; unfold isTermM
            exact decide_eq_false (fun h => h5 h.2.2.2.2.1)
        · rw [if_neg h4]
          congr 1; symm; unfold isTermM
          exact decide_eq_false (fun h => h4 (by have := h.2.2.2.1; simpa using this))
      · rw [if_neg h3]
        congr 1; symm; unfold isTermM
        exact decide_eq_false (fun h => h3 h.2.2.1)
    · rw [if_neg h2]
      congr 1; symm; unfold isTermM
      exact decide_eq_false (fun h => h2 h.2.1)
  · rw [if_neg h1]
    congr 1; symm; unfold isTermM
    exact decide_eq_false (fun h => h1 h.1)

/-! #### l1In -/
theorem l1In_eq (a b c : Int) : spec_l1In.f a b c = some (decide (b ≤ a ∧ a ≤ c)) := by
  unfold spec_l1In.f
  by_cases h : b ≤ a
  · rw [if_pos h]; simp [h]
  · rw [if_neg h]; simp [h]

/-! #### ttInputs -/
theorem ttInputs_eq (a : Int) : spec_ttInputs.f a = some (decide (0 ≤ a ∧ a ≤ 4)) := by
  unfold spec_ttInputs.f
  rw [l1In_eq, Option.bind_some]

/-! #### spec_nfTerm -/
theorem spec_nfTerm_eq (n m v : Int) (hv : I64 v) : spec_nfTerm.f n m v = some (isTermM n m v) := by
  unfold spec_nfTerm.f
  rw [ttInputs_eq, Option.bind_some]
  by_cases h : 0 ≤ n ∧ n ≤ 4
  · rw [decide_eq_true h, if_pos rfl]
    obtain ⟨a, rfl⟩ := nat_of h.1
    have ha : a ≤ 4 := by omega
    rw [u64w (by omega) (by omega), if_pos (by omega), shl1 a (by omega)]
    have h8 : 2 ^ a ≤ 2 ^ 4 := Nat.pow_le_pow_right (by decide) ha
    have h9 : 0 < 2 ^ a := Nat.two_pow_pos a
    rw [w64 (by omega) (by omega), l1In_eq, Option.bind_some]
    by_cases hm : 0 ≤ m ∧ m ≤ ((2 ^ a : Nat) : Int) - 1
    · rw [decide_eq_true hm, if_pos rfl, l1In_eq, Option.bind_some]
      obtain ⟨b, rfl⟩ := nat_of hm.1
      by_cases hc : 0 ≤ v ∧ v ≤ (b : Int)
      · rw [decide_eq_true hc, if_pos rfl]
        obtain ⟨c, rfl⟩ := nat_of hc.1
        rw [andN c b (by omega) (by omega)]
        unfold isTermM
        simp only [Int.toNat_natCast]
        congr 1
        rw [Bool.eq_iff_iff]
        simp only [beq_iff_eq, decide_eq_true_eq]
        constructor
        · intro e
          refine ⟨by omega, by omega, by omega, ?_, by omega, by omega⟩
          have : b < 2 ^ a := by omega
          exact_mod_cast this
        · rintro ⟨_, _, _, _, _, e⟩
          omega
      · rw [decide_eq_false hc, if_neg (by decide)]
        congr 1
        symm
        unfold isTermM
        apply decide_eq_false
        rintro ⟨_, _, _, _, h5, h6⟩
        obtain ⟨c, rfl⟩ := nat_of h5
        simp only [Int.toNat_natCast] at h6
        have : c &&& b ≤ b := Nat.and_le_right
        omega
    · rw [decide_eq_false hm, if_neg (by decide)]
      congr 1
      symm
      unfold isTermM
      apply decide_eq_false
      rintro ⟨_, _, h3, h4, _, _⟩
      obtain ⟨b, rfl⟩ := nat_of h3
      simp only [Int.toNat_natCast] at h4
      have : b < 2 ^ a := by exact_mod_cast h4
      omega
  · rw [decide_eq_false h, if_neg (by decide)]
    congr 1
    symm
    unfold isTermM
    apply decide_eq_false
    rintro ⟨h1, h2, _⟩
    exact h ⟨h1, h2⟩

/-! #### bitN -/
theorem bit_and1 (a n : Nat) (ha : a < 2 ^ 62) (hn : n ≤ 62) : Go.bits .and .i64 (shr .i64 (a : Int) (n : Int)) 1 = (((a >>> n) % 2 : Nat) : Int) := by
  rw [shrN a n hn]
  have h : a >>> n ≤ a := Nat.shiftRight_le a n
  have := andN (a >>> n) 1 (by omega) (by omega)
  rw [Nat.and_one_is_mod] at this
  exact this

/-! #### spec_ttBit -/
theorem spec_ttBit_eq (a n : Nat) (ha : a < 2 ^ 62) (hn : n ≤ 62) : spec_ttBit.f (a : Int) (n : Int) = some (((a >>> n) % 2 : Nat) : Int) := by
  unfold spec_ttBit.f
  rw [u64w (by omega) (by omega), if_pos (by omega), bit_and1 a n ha hn]

/-! #### l1NumD -/
/-- A digit alone. -/
theorem spec_l1Num_digit (n : Nat) (hn : n < 10) : Ev (fun k => spec_l1Num.f k (n : Int)) (strOfNums [((48 + n : Nat) : Int)]) := by
  apply ev_up
  simp only [spec_l1Num.f]
  refine ev_p (by omega) ?_
  rw [w64 (by omega) (by omega)]
  refine ev_eq (Ev.now _) ?_
  congr 2
  omega
theorem strOfNums_one (n : Int) : (strOfNums [n]).size = 1 := rfl
theorem strOfNums_append (a b : List Int) : strOfNums (a ++ b) = strOfNums a ++ strOfNums b := by
  apply ByteArray.ext
  simp [strOfNums, ByteArray.data_append]
theorem strOfNums_size (a : List Int) : (strOfNums a).size = a.length := by
  simp [strOfNums, ByteArray.size]

/-! #### termText -/
/-- The characters of a term, from input i on. -/
def txtM (m v : Nat) (i : Nat) : Nat → List Int
  | 0 => []
  | d + 1 => (if (m >>> i) % 2 = 0 then 45 else ((48 + (v >>> i) % 2 : Nat) : Int)) :: txtM m v (i + 1) d
theorem spec_nfText_l0 (a m v : Nat) (ha : a ≤ 4) (hm : m < 16) (hv : v < 16) (d : Nat) : ∀ (xs : List Int) (i : Nat), i + d = a → xs.length ≤ i →
    Ev (fun k => spec_nfText.l0 k a (strOfNums xs) i m v) (strOfNums (xs ++ txtM m v i d)) := by
  induction d with
  | zero =>
    intro xs i hi hx
    apply ev_up
    simp only [spec_nfText.l0]
    refine ev_n (by omega) ?_
    simpa [txtM] using Ev.now (strOfNums xs)
  | succ d ih =>
    intro xs i hi hx
    apply ev_up
    simp only [spec_nfText.l0]
    refine ev_p (by omega) ?_
    rw [spec_ttBit_eq m i (by omega) (by omega), wN (m := i + 1) (by omega) (by omega)]
    refine Ev.bind (ev_c rfl) ?_
    refine ev_ite (fun h => ?_) (fun h => ?_)
    · refine ev_p (by rw [strOfNums_size]; omega) ?_
      have h' : (m >>> i) % 2 = 0 := by exact_mod_cast h
      rw [show (⟨#[45]⟩ : ByteArray) = strOfNums [45] from rfl, ← strOfNums_append]
      refine ev_eq (ih _ (i + 1) (by omega) (by simp; omega)) ?_
      simp [txtM, h']
    · have h' : ¬ (m >>> i) % 2 = 0 := fun e => h (by exact_mod_cast e)
      rw [spec_ttBit_eq v i (by omega) (by omega)]
      refine Ev.bind (ev_c rfl) (Ev.bind (spec_l1Num_digit _ (by omega)) (ev_p (by rw [strOfNums_size, strOfNums_size]; simp; omega) ?_))
      rw [← strOfNums_append]
      refine ev_eq (ih _ (i + 1) (by omega) (by simp; omega)) ?_
      simp [txtM, h']
theorem impl_TermText_l0 (a m v : Nat) (ha : a ≤ 4) (hm : m < 16) (hv : v < 16) (d : Nat) : ∀ (xs : List Int) (i : Nat), i + d = a → xs.length ≤ i →
    Ev (fun k => impl_TermText.l0 k a xs i m v) (strOfNums (xs ++ txtM m v i d), true) := by
  induction d with
  | zero =>
    intro xs i hi hx
    apply ev_up
    simp only [impl_TermText.l0]
    refine ev_n (by omega) ?_
    simpa [txtM] using Ev.now (strOfNums xs, true)
  | succ d ih =>
    intro xs i hi hx
    apply ev_up
    simp only [impl_TermText.l0]
    refine ev_p (by omega) (ev_p (by omega) ?_)
    rw [bit_and1 m i (by omega) (by omega), bit_and1 v i (by omega) (by omega), wN (m := i + 1) (by omega) (by omega)]
    refine ev_ite (fun h => ?_) (fun h => ?_)
    · refine ev_p (by omega) ?_
      have h' : (m >>> i) % 2 = 0 := by exact_mod_cast h
      refine ev_eq (ih _ (i + 1) (by omega) (by simp; omega)) ?_
      simp [txtM, h']
    · have h' : ¬ (m >>> i) % 2 = 0 := fun e => h (by exact_mod_cast e)
      refine ev_p (by omega) ?_
      rw [w64 (by omega) (by omega), show (48 + (((v >>> i) % 2 : Nat) : Int)) % 256 = ((48 + (v >>> i) % 2 : Nat) : Int) by omega]
      refine ev_eq (ih _ (i + 1) (by omega) (by simp; omega)) ?_
      simp [txtM, h']
def termTextM (n m v : Int) : ByteArray × Bool := if isTermM n m v then (strOfNums (txtM m.toNat v.toNat 0 n.toNat), true) else (⟨#[]⟩, false)
theorem spec_TermText_ev (n m v : Int) (hv : I64 v) : Ev (fun k => spec_TermText.f k n m v) (termTextM n m v) := by
  unfold spec_TermText.f
  rw [spec_nfTerm_eq n m v hv]
  refine Ev.bind (ev_c rfl) ?_
  refine ev_ite (fun h => ?_) (fun h => ?_)
  · unfold termTextM
    rw [if_pos h]
    obtain ⟨a, b, c, rfl, rfl, rfl, ha, hb, _, _, hb16⟩ := isTermM_nat h
    refine Ev.bind (a := strOfNums (txtM b c 0 a)) ?_ (Ev.now _)
    unfold spec_nfText.f
    exact spec_nfText_l0 a b c ha hb16 (by omega) a [] 0 (by omega) (by simp)
  · unfold termTextM
    rw [if_neg h]
    exact Ev.now _
theorem impl_TermText_ev (n m v : Int) (hv : I64 v) : Ev (fun k => impl_TermText.f k n m v) (termTextM n m v) := by
  unfold impl_TermText.f
  rw [impl_IsTerm_eq n m v hv]
  refine Ev.bind (ev_c rfl) ?_
  refine ev_ite (fun h => ?_) (fun h => ?_)
  · unfold termTextM
    rw [if_pos h]
    obtain ⟨a, b, c, rfl, rfl, rfl, ha, hb, _, _, hb16⟩ := isTermM_nat h
    exact impl_TermText_l0 a b c ha hb16 (by omega) a [] 0 (by omega) (by simp)
  · unfold termTextM
    rw [if_neg h]
    exact Ev.now _

/-! #### FnExactTermText -/
theorem FnExactTermText (a0 : Int) (a1_0 : Int) (a1_1 : Int) : I64 a0 → I64 a1_0 → I64 a1_1 → ∃ k, laws_FnExactTermText.f k a0 a1_0 a1_1 = some true := by
  intro h0 h1 h2
  apply ev_get
  have hs := spec_TermText_ev a0 a1_0 a1_1 h2
  have hi := impl_TermText_ev a0 a1_0 a1_1 h2
  unfold laws_FnExactTermText.f
  simp only [laws_toTerm.f, Option.bind_some]
  exact Ev.bind hs (Ev.bind hi (ev_p rfl (ev_n (by simp) (Ev.now _))))

end Go.Proofs.Ytjoenfdnhikalaa.Pure
