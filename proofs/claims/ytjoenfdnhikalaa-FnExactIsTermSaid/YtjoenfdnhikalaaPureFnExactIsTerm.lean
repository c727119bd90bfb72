/- The pure part of the law FnExactIsTerm: what the program and the reference compute is the same, for all arguments. Conditions: the numbers are of Go's int, the lengths of slices are. -/
import Derived.Test.YtjoenfdnhikalaaPFnExactIsTermx1
import Derived.Test.YtjoenfdnhikalaaKit
namespace Go.Proofs.Ytjoenfdnhikalaa.Pure
open Go.RowKit Go.Proofs.Ytjoenfdnhikalaa.PFnExactIsTerm Go.Proofs.YtjoenfdnhikalaaW.PrintWords Go.Proofs.YtjoenfdnhikalaaW.PrintLast Go.Proofs.Ytjoenfdnhikalaa.Open Go.Proofs.Ytjoenfdnhikalaa.Kit

/-! #### l1In -/
theorem l1In_eq (a b c : Int) : spec_l1In.f a b c = some (decide (b ≤ a ∧ a ≤ c)) := by
  unfold spec_l1In.f
  by_cases h : b ≤ a
  · rw [if_pos h]; simp [h]
  · rw [if_neg h]; simp [h]

/-! #### ttInputs -/
theorem ttInputs_eq (a : Int) : spec_ttInputs.f a = some (decide (0 ≤ a ∧ a ≤ 4)) := by
  unfold spec_ttInputs.f
  rw [l1In_eq, Option.bind_some]

/-! #### isTermM -/
/-- What both call a valid term. -/
def isTermM (n m v : Int) : Bool := decide (0 ≤ n ∧ n ≤ 4 ∧ 0 ≤ m ∧ m < 2 ^ n.toNat ∧ 0 ≤ v ∧ v.toNat &&& m.toNat = v.toNat)
theorem isTermM_nat {n m v : Int} (h : isTermM n m v = true) : ∃ a b c : Nat, n = a ∧ m = b ∧ v = c ∧ a ≤ 4 ∧ b < 2 ^ a ∧ c &&& b = c ∧ c ≤ b ∧ b < 16 := by
  unfold isTermM at h
  simp only [decide_eq_true_eq] at h
  obtain ⟨h1, h2, h3, h4, h5, h6⟩ := h
  obtain ⟨a, rfl⟩ := nat_of h1
  obtain ⟨b, rfl⟩ := nat_of h3
  obtain ⟨c, rfl⟩ := nat_of h5
  simp only [Int.toNat_natCast] at h4 h6
  have h7 : b < 2 ^ a := by exact_mod_cast h4
  have h8 : 2 ^ a ≤ 2 ^ 4 := Nat.pow_le_pow_right (by decide) (by omega)
  refine ⟨a, b, c, rfl, rfl, rfl, by omega, h7, h6, ?_, by omega⟩
  rw [← h6]
  exact Nat.and_le_right

/-! #### spec_nfTerm -/
theorem spec_nfTerm_eq (n m v : Int) (hv : I64 v) : spec_nfTerm.f n m v = some (isTermM n m v) := by
  unfold spec_nfTerm.f
  rw [ttInputs_eq, Option.bind_some]
  by_cases h : 0 ≤ n ∧ n ≤ 4
  · rw [decide_eq_true h, if_pos rfl]
    obtain ⟨a, rfl⟩ := nat_of h.1
    have ha : a ≤ 4 := by omega
    rw [u64w (by omega) (by omega), if_pos (by omega), shl1 a (by omega)]
    have h8 : 2 ^ a ≤ 2 ^ 4 := Nat.pow_le_pow_right (by decide) ha
    have h9 : 0 < 2 ^ a := Nat.two_pow_pos a
    rw [w64 (by omega) (by omega), l1In_eq, Option.bind_some]
    by_cases hm : 0 ≤ m ∧ m ≤ ((2 ^ a : Nat) : Int) - 1
    · rw [decide_eq_true hm, if_pos rfl, l1In_eq, Option.bind_some]
      obtain ⟨b, rfl⟩ := nat_of hm.1
      by_cases hc : 0 ≤ v ∧ v ≤ (b : Int)
      · rw [decide_eq_true hc, if_pos rfl]
        obtain ⟨c, rfl⟩ := nat_of hc.1
        rw [andN c b (by omega) (by omega)]
        unfold isTermM
        simp only [Int.toNat_natCast]
        congr 1
        rw [Bool.eq_iff_iff]
        simp only [beq_iff_eq, decide_eq_true_eq]
        constructor
        · intro e
          refine ⟨by omega, by omega, by omega, ?_, by omega, by omega⟩
          have : b < 2 ^ a := by omega
          exact_mod_cast this
        · rintro ⟨_, _, _, _, _, e⟩
          omega
      · rw [decide_eq_false hc, if_neg (by decide)]
        congr 1
        symm
        unfold isTermM
        apply decide_eq_false
        rintro ⟨_, _, _, _, h5, h6⟩
        obtain ⟨c, rfl⟩ := nat_of h5
        simp only [Int.toNat_natCast] at h6
        have : c &&& b ≤ b := Nat.and_le_right
        omega
    · rw [decide_eq_false hm, if_neg (by decide)]
      congr 1
      symm
      unfold isTermM
      apply decide_eq_false
      rintro ⟨_, _, h3, h4, _, _⟩
      obtain ⟨b, rfl⟩ := nat_of h3
      simp only [Int.toNat_natCast] at h4
      have : b < 2 ^ a := by exact_mod_cast h4
      omega
  · rw [decide_eq_false h, if_neg (by decide)]
    congr 1
    symm
    unfold isTermM
    apply decide_eq_false
    rintro ⟨h1, h2, _⟩
    exact h ⟨h1, h2⟩

/-! #### impl_IsTerm -/
theorem impl_IsTerm_eq (n m v : Int) (hv : I64 v) : impl_IsTerm.f n m v = some (isTermM n m v) := by
  unfold impl_IsTerm.f
  unfold I64 at hv
  by_cases h1 : n ≥ 0
  · rw [if_pos h1]
    by_cases h2 : n ≤ 4
    · rw [if_pos h2]
      by_cases h3 : m ≥ 0
      · rw [if_pos h3, if_pos h1]
        obtain ⟨a, rfl⟩ := nat_of h1
        obtain ⟨b, rfl⟩ := nat_of h3
        rw [shl1 a (by omega)]
        have h8 : 2 ^ a ≤ 2 ^ 4 := Nat.pow_le_pow_right (by decide) (by omega : a ≤ 4)
        by_cases h4 : (b : Int) < ((2 ^ a : Nat) : Int)
        · rw [if_pos h4]
          by_cases h5 : v ≥ 0
          · rw [if_pos h5]
            obtain ⟨c, rfl⟩ := nat_of h5
            rw [andNotN c b (by omega) (by omega)]
            congr 1
            unfold isTermM
            rw [Bool.eq_iff_iff]
            simp only [Int.toNat_natCast, beq_iff_eq, decide_eq_true_eq]
            constructor
            · intro e
              have e2 : c ^^^ (c &&& b) = 0 := by exact_mod_cast e
              refine ⟨by omega, by omega, by omega, by exact_mod_cast h4, by omega, ((xor_eq_zero _ _).1 e2).symm⟩
            · rintro ⟨_, _, _, _, _, e⟩
              rw [e]
              simp
          · rw [if_neg h5]
            congr 1; symm; unfold isTermM
            exact decide_eq_false (fun h => h5 h.2.2.2.2.1)
        · rw [if_neg h4]
          congr 1; symm; unfold isTermM
          exact decide_eq_false (fun h => h4 (by have := h.2.2.2.1; simpa using this))
      · rw [if_neg h3]
        congr 1; symm; unfold isTermM
        exact decide_eq_false (fun h => h3 h.2.2.1)
    · rw [if_neg h2]
      congr 1; symm; unfold isTermM
      exact decide_eq_false (fun h => h2 h.2.1)
  · rw [if_neg h1]
    congr 1; symm; unfold isTermM
    exact decide_eq_false (fun h => h1 h.1)

/-! #### FnExactIsTerm -/
theorem FnExactIsTerm (a0 : Int) (a1_0 : Int) (a1_1 : Int) : I64 a0 → I64 a1_0 → I64 a1_1 → laws_FnExactIsTerm.f a0 a1_0 a1_1 = some true := by
  intro h0 h1 h2
  unfold laws_FnExactIsTerm.f laws_toTerm.f spec_IsTerm.f
  simp only [Option.bind_some, spec_nfTerm_eq _ _ _ h2, impl_IsTerm_eq _ _ _ h2, bne_self_eq_false, Bool.false_eq_true, if_false]

end Go.Proofs.Ytjoenfdnhikalaa.Pure
