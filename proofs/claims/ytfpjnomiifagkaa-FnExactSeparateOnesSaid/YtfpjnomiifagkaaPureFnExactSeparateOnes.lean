/- The pure part of the law FnExactSeparateOnes: what the program and the reference compute is the same, for all arguments. Conditions: the numbers are of Go's int, the lengths of slices are. -/
import Derived.Test.YtfpjnomiifagkaaQFnExactSeparateOnesx9
import Derived.Test.YtfpjnomiifagkaaKit
set_option linter.unusedVariables false
set_option linter.unusedSimpArgs false
namespace Go.Proofs.Ytfpjnomiifagkaa.Pure
open Go.RowKit Go.Proofs.Ytfpjnomiifagkaa.QFnExactSeparateOnes Go.Proofs.YtfpjnomiifagkaaW.PrintWords Go.Proofs.YtfpjnomiifagkaaW.PrintLast Go.Proofs.Ytfpjnomiifagkaa.Open Go.Proofs.Ytfpjnomiifagkaa.Kit

/-! #### idxN -/
/-- The indices that a term covers, from i on. -/
def idxM (N m v : Nat) : Nat → List Int
  | 0 => []
  | d + 1 => (if (N - (d + 1)) &&& m = v then [((N - (d + 1) : Nat) : Int)] else []) ++ idxM N m v d
theorem idxM_length (N m v d : Nat) : (idxM N m v d).length ≤ d := by
  induction d with
  | zero => simp [idxM]
  | succ d ih => unfold idxM; split <;> simp <;> omega
theorem idxM_mem {N m v d : Nat} {x : Int} (hd : d ≤ N) (h : x ∈ idxM N m v d) : ∃ j : Nat, x = j ∧ N - d ≤ j ∧ j < N ∧ j &&& m = v := by
  induction d with
  | zero => simp [idxM] at h
  | succ d ih =>
    unfold idxM at h
    rw [List.mem_append] at h
    rcases h with h | h
    · split at h
      · rename_i hc
        simp only [List.mem_singleton] at h
        exact ⟨N - (d + 1), h, by omega, by omega, hc⟩
      · simp at h
    · obtain ⟨j, h1, h2, h3, h4⟩ := ih (by omega) h
      exact ⟨j, h1, by omega, h3, h4⟩
theorem mem_idxM {N m v d j : Nat} (hd : d ≤ N) (h1 : N - d ≤ j) (h2 : j < N) (h3 : j &&& m = v) : (j : Int) ∈ idxM N m v d := by
  induction d with
  | zero => omega
  | succ d ih =>
    unfold idxM
    rw [List.mem_append]
    by_cases hj : j = N - (d + 1)
    · left
      rw [← hj, if_pos h3]
      simp
    · right
      exact ih (by omega) (by omega)

/-! #### impliesM -/
def nz (l : List Int) (j : Int) : Bool := decide (rd l j ≠ 0)
/-- Whether a term covers only indices with a value that is not 0. -/
def impliesM (l : List Int) (m v : Nat) : Bool := (idxM l.length m v l.length).all (nz l)

/-! #### termT -/
theorem rdTermA {p r : List S69} {x : S69} {i : Int} (hi : i = p.length) : rd_T69 (p ++ x :: r) i = x := getDA hi

/-! #### bitN -/
theorem bit_and1 (a n : Nat) (ha : a < 2 ^ 62) (hn : n ≤ 62) : Go.bits .and .i64 (shr .i64 (a : Int) (n : Int)) 1 = (((a >>> n) % 2 : Nat) : Int) := by
  rw [shrN a n hn]
  have h : a >>> n ≤ a := Nat.shiftRight_le a n
  have := andN (a >>> n) 1 (by omega) (by omega)
  rw [Nat.and_one_is_mod] at this
  exact this

/-! #### primesM -/
/-- The bit i taken away. -/
def clrB (m i : Nat) : Nat := m - (m &&& 2 ^ i)
theorem bits_d1 : ∀ m : Fin 16, ∀ i : Fin 4, (m.1 &&& 2 ^ i.1 ≠ 0 → (m.1 >>> i.1) % 2 = 1) ∧ ((m.1 >>> i.1) % 2 = 1 → ¬ m.1 &&& 2 ^ i.1 = 0) ∧ ((m.1 >>> i.1) % 2 = 1 → 2 ^ i.1 ≤ m.1 ∧ m.1 - 2 ^ i.1 = clrB m.1 i.1) ∧ clrB m.1 i.1 < 16 ∧ m.1 ^^^ (m.1 &&& 2 ^ i.1) = clrB m.1 i.1 ∧ (m.1 &&& 2 ^ i.1) ≤ m.1 := by decide
theorem bits_f (m v i : Nat) (hm : m < 16) (hv : v < 16) (hi : i < 4) : ((m &&& 2 ^ i ≠ 0 → (m >>> i) % 2 = 1) ∧ ((m >>> i) % 2 = 1 → ¬ m &&& 2 ^ i = 0)) ∧ ((m >>> i) % 2 = 1 → (2 ^ i ≤ m ∧ m - 2 ^ i = clrB m i) ∧ (clrB m i < 16 ∧ clrB v i < 16 ∧ (v &&& 2 ^ i) ≤ v) ∧ m ^^^ (m &&& 2 ^ i) = clrB m i ∧ v ^^^ (v &&& 2 ^ i) = clrB v i) := by
  have h := bits_d1 ⟨m, hm⟩ ⟨i, hi⟩
  have h' := bits_d1 ⟨v, hv⟩ ⟨i, hi⟩
  exact ⟨⟨h.1, h.2.1⟩, fun hh => ⟨h.2.2.1 hh, ⟨h.2.2.2.1, h'.2.2.2.1, h'.2.2.2.2.2⟩, h.2.2.2.2.1, h'.2.2.2.2.1⟩⟩
/-- No term with an input less, from input i on, implies the table. -/
def primeF (l : List Int) (m v : Nat) : Bool → Nat → Nat → Bool
  | fit, _, 0 => fit
  | fit, i, d + 1 => primeF l m v (if (m >>> i) % 2 = 1 ∧ impliesM l (clrB m i) (clrB v i) = true then false else fit) (i + 1) d
def valsM (l : List Int) (a m : Nat) : Nat → Nat → List S69
  | _, 0 => []
  | v, d + 1 => (if v &&& m = v ∧ impliesM l m v = true ∧ primeF l m v true 0 a = true then [⟨(m : Int), (v : Int)⟩] else []) ++ valsM l a m (v + 1) d
theorem valsM_length (l : List Int) (a m d : Nat) : ∀ v, (valsM l a m v d).length ≤ d := by
  induction d with
  | zero => intro v; simp [valsM]
  | succ d ih =>
    intro v
    have := ih (v + 1)
    rw [valsM]
    split <;> simp <;> omega
def masksM (l : List Int) (a : Nat) : Nat → Nat → List S69
  | _, 0 => []
  | m, d + 1 => valsM l a m 0 (m + 1) ++ masksM l a (m + 1) d
theorem masksM_length (l : List Int) (a : Nat) (N d : Nat) : ∀ m, m + d ≤ N → (masksM l a m d).length ≤ N * d := by
  induction d with
  | zero => intro m _; simp [masksM]
  | succ d ih =>
    intro m h
    have h1 := ih (m + 1) (by omega)
    have h2 := valsM_length l a m (m + 1) 0
    have h3 : N * (d + 1) = N * d + N := Nat.mul_succ N d
    rw [masksM, List.length_append]
    omega

/-! #### covE -/
def covE (p : S69) (x : Nat) : Bool := decide (x &&& p.f0.toNat = p.f1.toNat)
def goodP (l : List Int) (p : S69) : Prop := ∃ m v : Nat, m < 16 ∧ v < 16 ∧ p = ⟨(m : Int), (v : Int)⟩ ∧ impliesM l m v = true
theorem valsM_good (l : List Int) (a m : Nat) (hm : m < 16) (d : Nat) : ∀ v, v + d = m + 1 → ∀ p ∈ valsM l a m v d, goodP l p := by
  induction d with
  | zero => intro v _ p hp; simp [valsM] at hp
  | succ d ih =>
    intro v hv p hp
    rw [valsM, List.mem_append] at hp
    rcases hp with hp | hp
    · split at hp
      · rename_i h
        rw [List.mem_singleton] at hp
        exact ⟨m, v, hm, by omega, hp, h.2.1⟩
      · simp at hp
    · exact ih (v + 1) (by omega) p hp
theorem masksM_good (l : List Int) (a : Nat) (d : Nat) : ∀ m, m + d ≤ 16 → ∀ p ∈ masksM l a m d, goodP l p := by
  induction d with
  | zero => intro m _ p hp; simp [masksM] at hp
  | succ d ih =>
    intro m hm p hp
    rw [masksM, List.mem_append] at hp
    rcases hp with hp | hp
    · exact valsM_good l a m (by omega) (m + 1) 0 (by omega) p hp
    · exact ih (m + 1) (by omega) p hp
/-- Prime i alone covers x. -/
def aloneE (ps : List S69) (i x : Nat) : Prop := (∃ p, ps[i]? = some p ∧ covE p x = true) ∧ ∀ k q, k ≠ i → ps[k]? = some q → covE q x = false
/-- The primes that cover x. -/
def covL (x : Nat) : List S69 → Nat → List Int
  | [], _ => []
  | p :: r, j => (if covE p x = true then [(j : Int)] else []) ++ covL x r (j + 1)
theorem covL_length (x : Nat) (r : List S69) : ∀ j, (covL x r j).length ≤ r.length := by
  induction r with
  | nil => intro j; simp [covL]
  | cons p r ih =>
    intro j
    have := ih (j + 1)
    rw [covL]
    split <;> simp <;> omega
theorem covL_bound (x : Nat) (r : List S69) : ∀ j, ∀ y ∈ covL x r j, (j : Int) ≤ y ∧ y < j + r.length := by
  induction r with
  | nil => intro j y hy; simp [covL] at hy
  | cons p r ih =>
    intro j y hy
    rw [covL, List.mem_append] at hy
    simp only [List.length_cons]
    rcases hy with hy | hy
    · split at hy
      · rw [List.mem_singleton] at hy
        omega
      · simp at hy
    · have := ih (j + 1) y hy
      omega
theorem covL_nil (x : Nat) (r : List S69) : ∀ j, covL x r j = [] ↔ ∀ (k : Nat) (q : S69), r[k]? = some q → covE q x = false := by
  induction r with
  | nil => intro j; simp [covL]
  | cons p r ih =>
    intro j
    rw [covL, List.append_eq_nil_iff, ih (j + 1)]
    constructor
    · rintro ⟨h1, h2⟩ k q hq
      cases k with
      | zero =>
        have hq' : p = q := by simpa using hq
        subst hq'
        by_cases c : covE p x = true
        · rw [if_pos c] at h1; simp at h1
        · simpa using c
      | succ k => exact h2 k q (by simpa using hq)
    · intro h
      have h0 := h 0 p rfl
      refine ⟨by rw [h0]; rfl, fun k q hq => h (k + 1) q (by simpa using hq)⟩
theorem covL_one (x : Nat) (r : List S69) : ∀ j i : Nat, covL x r j = [(i : Int)] ↔ ∃ k, i = j + k ∧ aloneE r k x := by
  induction r with
  | nil =>
    intro j i
    rw [covL]
    constructor
    · intro h; simp at h
    · rintro ⟨k, _, ⟨p, hp, _⟩, _⟩
      simp at hp
  | cons p r ih =>
    intro j i
    rw [covL]
    by_cases c : covE p x = true
    · rw [if_pos c]
      constructor
      · intro h
        have h' : (j : Int) = i ∧ covL x r (j + 1) = [] := by simpa using h
        have hn := (covL_nil x r (j + 1)).1 h'.2
        refine ⟨0, by omega, ⟨p, rfl, c⟩, fun k q hk hq => ?_⟩
        cases k with
        | zero => exact absurd rfl hk
        | succ k => exact hn k q (by simpa using hq)
      · rintro ⟨k, hk, ⟨q, hq, hc⟩, hall⟩
        cases k with
        | zero =>
          have : covL x r (j + 1) = [] := (covL_nil x r (j + 1)).2 (fun k q hq => hall (k + 1) q (by omega) (by simpa using hq))
          rw [this, List.append_nil, show i = j by omega]
        | succ k =>
          have := hall 0 p (by omega) rfl
          rw [this] at c
          exact absurd c (by decide)
    · rw [if_neg c, List.nil_append, ih (j + 1) i]
      constructor
      · rintro ⟨k, hk, ⟨q, hq, hc⟩, hall⟩
        refine ⟨k + 1, by omega, ⟨q, by simpa using hq, hc⟩, fun k' q' hk' hq' => ?_⟩
        cases k' with
        | zero =>
          have hq2 : p = q' := by simpa using hq'
          subst hq2
          simpa using c
        | succ k' => exact hall k' q' (by omega) (by simpa using hq')
      · rintro ⟨k, hk, ⟨q, hq, hc⟩, hall⟩
        cases k with
        | zero =>
          have hq2 : p = q := by simpa using hq
          subst hq2
          exact absurd hc c
        | succ k => exact ⟨k, by omega, ⟨q, by simpa using hq, hc⟩, fun k' q' hk' hq' => hall (k' + 1) q' (by omega) (by simpa using hq')⟩
/-- The bits of the indices, put together. -/
def orIdx : Nat → List Int → Nat
  | acc, [] => acc
  | acc, y :: r => orIdx (acc ||| 2 ^ y.toNat) r
theorem orIdx_bit (x : Nat) (r : List Int) : ∀ acc, (orIdx acc r).testBit x = true ↔ acc.testBit x = true ∨ ∃ y ∈ r, y.toNat = x := by
  induction r with
  | nil => intro acc; simp [orIdx]
  | cons y r ih =>
    intro acc
    rw [orIdx, ih, Nat.testBit_or, Bool.or_eq_true, Nat.testBit_two_pow, decide_eq_true_eq]
    simp only [List.mem_cons, exists_eq_or_imp]
    exact or_assoc
theorem or_lt16 {a b : Nat} (ha : a < 65536) (hb : b < 65536) : a ||| b < 65536 := Nat.or_lt_two_pow (n := 16) ha hb
theorem pow_lt16 {y : Int} (h0 : 0 ≤ y) (h1 : y < 16) : 2 ^ y.toNat < 65536 := by
  have : 2 ^ y.toNat ≤ 2 ^ 15 := Nat.pow_le_pow_right (by decide) (by omega)
  omega
theorem orIdx_lt (r : List Int) (hr : ∀ y ∈ r, 0 ≤ y ∧ y < 16) : ∀ acc, acc < 65536 → orIdx acc r < 65536 := by
  induction r with
  | nil => intro acc h; exact h
  | cons y r ih =>
    intro acc h
    have hy := hr y (by simp)
    exact ih (fun z hz => hr z (by simp [hz])) _ (or_lt16 h (pow_lt16 hy.1 hy.2))
def covN (a : Nat) (p : S69) : Nat := orIdx 0 (idxM (2 ^ a) p.f0.toNat p.f1.toNat (2 ^ a))
theorem idx_bounds {a : Nat} (ha : a ≤ 4) (m v : Nat) : ∀ y ∈ idxM (2 ^ a) m v (2 ^ a), 0 ≤ y ∧ y < 16 := fun y hy => by
  have h8 : 2 ^ a ≤ 2 ^ 4 := Nat.pow_le_pow_right (by decide) ha
  obtain ⟨j, rfl, _, h2, _⟩ := idxM_mem (Nat.le_refl _) hy
  omega
theorem covN_lt {a : Nat} (ha : a ≤ 4) (p : S69) : covN a p < 65536 := orIdx_lt _ (idx_bounds ha _ _) 0 (by decide)
theorem covN_bit {a : Nat} (p : S69) (x : Nat) : (covN a p).testBit x = true ↔ x < 2 ^ a ∧ covE p x = true := by
  unfold covN covE
  rw [orIdx_bit, decide_eq_true_eq]
  constructor
  · rintro (h | ⟨y, hy, hx⟩)
    · simp at h
    · obtain ⟨j, rfl, _, h2, h3⟩ := idxM_mem (Nat.le_refl _) hy
      rw [Int.toNat_natCast] at hx
      subst hx
      exact ⟨h2, h3⟩
  · rintro ⟨h1, h2⟩
    exact Or.inr ⟨(x : Int), mem_idxM (Nat.le_refl _) (by omega) h1 h2, Int.toNat_natCast x⟩
/-- What the other primes cover. -/
def restR (a i : Nat) : List S69 → Nat → Nat → Nat
  | [], _, acc => acc
  | p :: r, j, acc => restR a i r (j + 1) (if j = i then acc else acc ||| covN a p)
theorem restR_lt {a : Nat} (ha : a ≤ 4) (i : Nat) (r : List S69) : ∀ j acc, acc < 65536 → restR a i r j acc < 65536 := by
  induction r with
  | nil => intro j acc h; exact h
  | cons p r ih =>
    intro j acc h
    rw [restR]
    refine ih (j + 1) _ ?_
    split
    · exact h
    · exact or_lt16 h (covN_lt ha p)
theorem restR_bit (a i x : Nat) (r : List S69) : ∀ j acc, (restR a i r j acc).testBit x = true ↔ acc.testBit x = true ∨ ∃ k q, j + k ≠ i ∧ r[k]? = some q ∧ (covN a q).testBit x = true := by
  induction r with
  | nil => intro j acc; simp [restR]
  | cons p r ih =>
    intro j acc
    rw [restR, ih]
    constructor
    · rintro (h | ⟨k, q, hk, hq, hb⟩)
      · by_cases c : j = i
        · rw [if_pos c] at h
          exact Or.inl h
        · rw [if_neg c, Nat.testBit_or, Bool.or_eq_true] at h
          rcases h with h | h
          · exact Or.inl h
          · exact Or.inr ⟨0, p, by omega, rfl, h⟩
      · exact Or.inr ⟨k + 1, q, by omega, by simpa using hq, hb⟩
    · rintro (h | ⟨k, q, hk, hq, hb⟩)
      · left
        by_cases c : j = i
        · rw [if_pos c]; exact h
        · rw [if_neg c, Nat.testBit_or, h]; rfl
      · cases k with
        | zero =>
          have hq2 : p = q := by simpa using hq
          subst hq2
          left
          rw [if_neg (by omega), Nat.testBit_or, hb, Bool.or_true]
        | succ k => exact Or.inr ⟨k, q, by omega, by simpa using hq, hb⟩
theorem andNot_zero (c b : Nat) : c ^^^ (c &&& b) = 0 ↔ ∀ x, c.testBit x = true → b.testBit x = true := by
  rw [xor_eq_zero]
  constructor
  · intro h x hx
    rw [h, Nat.testBit_and, Bool.and_eq_true] at hx
    exact hx.2
  · intro h
    apply Nat.eq_of_testBit_eq
    intro x
    rw [Nat.testBit_and]
    cases hc : c.testBit x with
    | false => rfl
    | true => rw [h x hc]; rfl
/-- Prime i is essential. -/
def essB (a : Nat) (ps : List S69) (i : Nat) (p : S69) : Bool := decide (¬ covN a p ^^^ (covN a p &&& restR a i ps 0 0) = 0)
theorem essB_iff {a : Nat} {ps : List S69} {i : Nat} {p : S69} (hp : ps[i]? = some p) : essB a ps i p = true ↔ ∃ x, x < 2 ^ a ∧ aloneE ps i x := by
  unfold essB
  rw [decide_eq_true_eq, andNot_zero]
  constructor
  · intro h
    apply Classical.byContradiction
    intro hno
    apply h
    intro x hx
    have hx' := (covN_bit p x).1 hx
    rw [restR_bit]
    right
    apply Classical.byContradiction
    intro hno2
    refine hno ⟨x, hx'.1, ⟨p, hp, hx'.2⟩, fun k q hk hq => ?_⟩
    cases c : covE q x with
    | false => rfl
    | true => exact absurd ⟨k, q, by omega, hq, (covN_bit q x).2 ⟨hx'.1, c⟩⟩ hno2
  · rintro ⟨x, hx, ⟨p', hp', hc⟩, hall⟩ h
    have : p = p' := Option.some.inj (hp.symm.trans hp')
    subst this
    have h1 := h x ((covN_bit p x).2 ⟨hx, hc⟩)
    rw [restR_bit] at h1
    rcases h1 with h1 | ⟨k, q, hk, hq, hb⟩
    · simp at h1
    · have h2 := hall k q (by omega) hq
      rw [((covN_bit q x).1 hb).2] at h2
      exact absurd h2 (by decide)
/-- Marked behind the indices below x. -/
def markB (l : List Int) (ps : List S69) : Nat → Nat → Bool
  | 0, _ => false
  | x + 1, j => if rd l (x : Int) = 1 ∧ covL x ps 0 = [(j : Int)] then true else markB l ps x j
theorem markB_iff (l : List Int) (ps : List S69) (j : Nat) (x : Nat) : markB l ps x j = true ↔ ∃ y, y < x ∧ rd l (y : Int) = 1 ∧ covL y ps 0 = [(j : Int)] := by
  induction x with
  | zero => simp [markB]
  | succ x ih =>
    rw [markB]
    by_cases c : rd l (x : Int) = 1 ∧ covL x ps 0 = [(j : Int)]
    · rw [if_pos c]
      exact ⟨fun _ => ⟨x, by omega, c⟩, fun _ => rfl⟩
    · rw [if_neg c, ih]
      constructor
      · rintro ⟨y, hy, h⟩
        exact ⟨y, by omega, h⟩
      · rintro ⟨y, hy, h⟩
        by_cases e : y = x
        · subst e; exact absurd h c
        · exact ⟨y, by omega, h⟩
theorem ess_mark {a : Nat} {l : List Int} {ps : List S69} {i : Nat} {p : S69} (hl : l.length = 2 ^ a) (hb : ∀ x ∈ l, 0 ≤ x ∧ x ≤ 1) (hg : ∀ p ∈ ps, goodP l p) (hp : ps[i]? = some p) : essB a ps i p = markB l ps (2 ^ a) i := by
  rw [Bool.eq_iff_iff, essB_iff hp, markB_iff]
  constructor
  · rintro ⟨x, hx, hal⟩
    refine ⟨x, hx, ?_, (covL_one x ps 0 i).2 ⟨i, by omega, hal⟩⟩
    obtain ⟨⟨p', hp', hc⟩, _⟩ := hal
    have : p = p' := Option.some.inj (hp.symm.trans hp')
    subst this
    obtain ⟨m, v, _, _, rfl, himp⟩ := hg p (List.mem_of_getElem? hp)
    unfold impliesM at himp
    rw [List.all_eq_true] at himp
    have hcx : x &&& m = v := by simpa [covE] using hc
    have h1 := himp (x : Int) (mem_idxM (Nat.le_refl _) (by omega) (by omega) hcx)
    have h2 : rd l (x : Int) ≠ 0 := of_decide_eq_true h1
    have h3 : rd l (x : Int) = l[x]'(by omega) := getDN (by omega)
    have h4 := hb _ (List.getElem_mem (show x < l.length by omega))
    omega
  · rintro ⟨y, hy, _, hc⟩
    obtain ⟨k, hk, hal⟩ := (covL_one y ps 0 i).1 hc
    rw [show i = k by omega]
    exact ⟨y, hy, hal⟩
/-- The essential ones of r, the first of number i. -/
def essL (a : Nat) (ps : List S69) : List S69 → Nat → List S69
  | [], _ => []
  | p :: r, i => (if essB a ps i p = true then [p] else []) ++ essL a ps r (i + 1)
theorem essL_length (a : Nat) (ps : List S69) (r : List S69) : ∀ i, (essL a ps r i).length ≤ r.length := by
  induction r with
  | nil => intro i; simp [essL]
  | cons p r ih =>
    intro i
    have := ih (i + 1)
    rw [essL]
    split <;> simp <;> omega

/-! #### apartM -/
/-- One prime term covers both. -/
def nearB (ps : List S69) (x y : Nat) : Bool := ps.any (fun p => covE p x && covE p y)
def barB (ps : List S69) (cur : List Int) (x : Int) : Bool := cur.any (fun y => nearB ps y.toNat x.toNat)
/-- The first longest list of some, apart from each other and from those of cur. -/
def apartM (ps : List S69) : List Int → List Int → List Int
  | [], _ => []
  | x :: r, cur => if barB ps cur x = true then apartM ps r cur else if (apartM ps r (cur ++ [x])).length + 1 < (apartM ps r cur).length then apartM ps r cur else x :: apartM ps r (cur ++ [x])
theorem apartM_length (ps : List S69) (r : List Int) : ∀ cur, (apartM ps r cur).length ≤ r.length := by
  induction r with
  | nil => intro cur; simp [apartM]
  | cons x r ih =>
    intro cur
    have h1 := ih cur
    have h2 := ih (cur ++ [x])
    rw [apartM]
    split
    · simp; omega
    · split
      · simp; omega
      · simp; omega
/-- The ones from i on. -/
def onesF (l : List Int) : Nat → Nat → List Int
  | _, 0 => []
  | i, d + 1 => (if rd l (i : Int) = 1 then [(i : Int)] else []) ++ onesF l (i + 1) d
theorem onesF_length (l : List Int) (d : Nat) : ∀ i, (onesF l i d).length ≤ d := by
  induction d with
  | zero => intro i; simp [onesF]
  | succ d ih =>
    intro i
    have := ih (i + 1)
    rw [onesF]
    split <;> simp <;> omega
theorem onesF_bound (l : List Int) (d : Nat) : ∀ i, ∀ y ∈ onesF l i d, (i : Int) ≤ y ∧ y < i + d := by
  induction d with
  | zero => intro i y hy; simp [onesF] at hy
  | succ d ih =>
    intro i y hy
    rw [onesF, List.mem_append] at hy
    rcases hy with hy | hy
    · split at hy
      · rw [List.mem_singleton] at hy
        omega
      · simp at hy
    · have := ih (i + 1) y hy
      omega
def pickM (cur best m : List Int) : List Int := if best.length < cur.length + m.length then cur ++ m else best
theorem pick_two (cur best m l : List Int) : pickM cur (pickM cur best l) m = pickM cur best (if l.length < m.length then m else l) := by
  unfold pickM
  by_cases c1 : best.length < cur.length + l.length
  · rw [if_pos c1]
    by_cases c2 : l.length < m.length
    · rw [if_pos c2, if_pos (by simp; omega), if_pos (by omega)]
    · rw [if_neg c2, if_neg (by simp; omega), if_pos c1]
  · rw [if_neg c1]
    by_cases c2 : l.length < m.length
    · rw [if_pos c2]
    · rw [if_neg c2, if_neg (by omega), if_neg c1]
theorem pickM_nil (best m : List Int) : pickM [] best m = if best.length < m.length then m else best := by
  unfold pickM
  simp

/-! #### nearM -/
def nearS (a : Nat) (p : S69) (j v : Nat) : Nat := if (covN a p).testBit j = true then v ||| covN a p else v
theorem nearS_lt {a : Nat} (ha : a ≤ 4) (p : S69) (j v : Nat) (h : v < 65536) : nearS a p j v < 65536 := by
  unfold nearS
  split
  · exact or_lt16 h (covN_lt ha p)
  · exact h
def nearF (a : Nat) : List S69 → Nat → Nat → Nat
  | [], _, v => v
  | p :: r, j, v => nearF a r j (nearS a p j v)
theorem nearF_append (a : Nat) (p : List S69) (q : S69) (j : Nat) : ∀ v, nearF a (p ++ [q]) j v = nearS a q j (nearF a p j v) := by
  induction p with
  | nil => intro v; rfl
  | cons x p ih => intro v; exact ih _
theorem nearF_lt {a : Nat} (ha : a ≤ 4) (r : List S69) (j : Nat) : ∀ v, v < 65536 → nearF a r j v < 65536 := by
  induction r with
  | nil => intro v h; exact h
  | cons p r ih => intro v h; exact ih _ (nearS_lt ha p j v h)
theorem nearF_bit {a : Nat} (r : List S69) (j x : Nat) (hj : j < 2 ^ a) (hx : x < 2 ^ a) : ∀ v, (nearF a r j v).testBit x = (v.testBit x || nearB r j x) := by
  induction r with
  | nil => intro v; simp [nearF, nearB]
  | cons p r ih =>
    intro v
    have e1 : ∀ y, y < 2 ^ a → (covN a p).testBit y = covE p y := fun y hy => by rw [Bool.eq_iff_iff, covN_bit]; exact ⟨fun h => h.2, fun h => ⟨hy, h⟩⟩
    rw [nearF, ih]
    unfold nearS nearB
    rw [List.any_cons, e1 j hj]
    by_cases c : covE p j = true
    · rw [if_pos c, Nat.testBit_or, e1 x hx, c, Bool.true_and, Bool.or_assoc]
    · rw [if_neg c, show covE p j = false by simpa using c, Bool.false_and, Bool.false_or]

/-! #### spec_ttOnes -/
theorem spec_ttOnes_l0 (n : Int) (l : List Int) (hl : l.length ≤ 1000000) (d : Nat) : ∀ (i : Nat) (xs : List Int), i + d = l.length → xs.length ≤ i →
    Ev (fun k => spec_ttOnes.l0 k xs l l.length i) (xs ++ onesF l i d) := by
  induction d with
  | zero =>
    intro i xs hi hx
    apply ev_up
    simp only [spec_ttOnes.l0]
    refine ev_n (by omega) (ev_eq (Ev.now _) (by simp [onesF]))
  | succ d ih =>
    intro i xs hi hx
    apply ev_up
    simp only [spec_ttOnes.l0]
    refine ev_p (by omega) (ev_p (by omega) (ev_p (by omega) ?_))
    rw [wN (n := (i : Int) + 1) (m := i + 1) (by omega) (by omega), onesF]
    refine ev_ite (fun c => ev_p (by omega) ?_) (fun c => ?_)
    · rw [if_pos c, ← List.append_assoc]
      exact ih (i + 1) _ (by omega) (by simp; omega)
    · rw [if_neg c, List.nil_append]
      exact ih (i + 1) _ (by omega) (by omega)
theorem spec_ttOnes_ev (n : Int) (l : List Int) (hl : l.length ≤ 1000000) : Ev (fun k => spec_ttOnes.f k n l) (onesF l 0 l.length) := by
  unfold spec_ttOnes.f
  exact spec_ttOnes_l0 n l hl l.length 0 [] (by omega) (by simp)

/-! #### spec_nfIndices -/
theorem spec_nfIndices_l0 (a m v : Nat) (ha : a ≤ 4) (hm : m < 65536) (d : Nat) : ∀ (xs : List Int) (i : Nat), i + d = 2 ^ a → xs.length ≤ i →
    Ev (fun k => spec_nfIndices.l0 k a xs i m v) (xs ++ idxM (2 ^ a) m v d) := by
  have h8 : 2 ^ a ≤ 2 ^ 4 := Nat.pow_le_pow_right (by decide) ha
  induction d with
  | zero =>
    intro xs i hi hx
    apply ev_up
    simp only [spec_nfIndices.l0]
    rw [u64w (by omega) (by omega), shl1 a (by omega)]
    refine ev_p (by omega) (ev_n (by omega) ?_)
    simpa [idxM] using Ev.now xs
  | succ d ih =>
    intro xs i hi hx
    apply ev_up
    simp only [spec_nfIndices.l0]
    rw [u64w (by omega) (by omega), shl1 a (by omega)]
    refine ev_p (by omega) (ev_p (by omega) ?_)
    rw [andN i m (by omega) (by omega), wN (m := i + 1) (by omega) (by omega)]
    have e : 2 ^ a - (d + 1) = i := by omega
    refine ev_ite (fun h => ?_) (fun h => ?_)
    · refine ev_p (by omega) ?_
      refine ev_eq (ih _ (i + 1) (by omega) (by simp; omega)) ?_
      have h' : i &&& m = v := by exact_mod_cast h
      simp [idxM, e, h']
    · refine ev_eq (ih _ (i + 1) (by omega) (by omega)) ?_
      have h' : ¬ i &&& m = v := fun h2 => h (by exact_mod_cast h2)
      simp [idxM, e, h']
theorem spec_nfIndices_ev (a m v : Nat) (ha : a ≤ 4) (hm : m < 65536) : Ev (fun k => spec_nfIndices.f k a m v) (idxM (2 ^ a) m v (2 ^ a)) := by
  unfold spec_nfIndices.f
  exact spec_nfIndices_l0 a m v ha hm (2 ^ a) [] 0 (by omega) (by simp)

/-! #### spec_nfCovers -/
theorem spec_nfCovers_l1 (a : Nat) (l : List Int) (xs : List Int) (ps : List S69) (i : Int) (t : List Int) (ht : ∀ y ∈ t, 0 ≤ y ∧ y < 16) (htl : t.length ≤ 1048576) (R : List Int) (hx : xs.length ≤ 1048576) (r : List Int) : ∀ (p : List Int) (j : Int) (acc : Nat), j = p.length → t = p ++ r → acc < 65536 →
    Ev (fun k => spec_nfCovers.l0 k (xs ++ [(orIdx acc r : Int)]) ps ps.length (wrap64 (i + 1)) a l) R → Ev (fun k => spec_nfCovers.l1 k xs acc ps ps.length i t t.length j a l) R := by
  induction r with
  | nil =>
    intro p j acc hj e ha h
    have hlen : t.length = p.length := by rw [e]; simp
    apply ev_up
    simp only [spec_nfCovers.l1]
    exact ev_n (by omega) (ev_p (by omega) h)
  | cons y r ih =>
    intro p j acc hj e ha h
    have hlen : t.length = p.length + r.length + 1 := by rw [e]; simp; omega
    have hxx : rd t j = y := by rw [e]; exact rdA hj
    have hy := ht y (by rw [e]; simp)
    have hp := pow_lt16 hy.1 hy.2
    obtain ⟨b, rfl⟩ := nat_of hy.1
    rw [Int.toNat_natCast] at hp
    apply ev_up
    simp only [spec_nfCovers.l1]
    refine ev_p (by omega) (ev_p (by omega) (ev_p (by omega) ?_))
    rw [hxx, w64 (n := j + 1) (by omega) (by omega), u64w (by omega) (by omega), shl1 b (by omega), orN acc (2 ^ b) (by omega) (by omega)]
    rw [orIdx, Int.toNat_natCast] at h
    exact ev_p (by omega) (ih (p ++ [(b : Int)]) (j + 1) _ (by simp; omega) (by rw [e]; simp) (or_lt16 ha hp) h)
theorem spec_nfCovers_l0 (a : Nat) (ha : a ≤ 4) (l : List Int) (ps : List S69) (hpl : ps.length ≤ 1048576) (hg : ∀ p ∈ ps, goodP l p) (r : List S69) : ∀ (p : List S69) (i : Int), i = p.length → ps = p ++ r →
    Ev (fun k => spec_nfCovers.l0 k (p.map (fun q => (covN a q : Int))) ps ps.length i a l) (ps.map (fun q => (covN a q : Int))) := by
  induction r with
  | nil =>
    intro p i hi e
    have hlen : ps.length = p.length := by rw [e]; simp
    have e' : ps = p := by rw [e]; simp
    apply ev_up
    simp only [spec_nfCovers.l0]
    rw [e'] at hlen ⊢
    exact ev_n (by omega) (Ev.now _)
  | cons q r ih =>
    intro p i hi e
    have hlen : ps.length = p.length + r.length + 1 := by rw [e]; simp; omega
    have hxx : rd_T69 ps i = q := by rw [e]; exact rdTermA hi
    obtain ⟨m, v, hm, hv, hq, _⟩ := hg q (by rw [e]; simp)
    have hil := idxM_length (2 ^ a) m v (2 ^ a)
    have h8 : 2 ^ a ≤ 2 ^ 4 := Nat.pow_le_pow_right (by decide) ha
    apply ev_up
    simp only [spec_nfCovers.l0]
    refine ev_p (by omega) (ev_p (by omega) (ev_p (by omega) ?_))
    rw [hxx, hq]
    refine Ev.bind (spec_nfIndices_ev a m v ha (by omega)) ?_
    refine spec_nfCovers_l1 a l _ ps i _ (idx_bounds ha m v) (by omega) _ (by simp; omega) _ [] 0 0 rfl rfl (by decide) ?_
    rw [w64 (n := i + 1) (by omega) (by omega)]
    have := ih (p ++ [q]) (i + 1) (by simp; omega) (by rw [e]; simp)
    have e2 : (p ++ [q]).map (fun q => (covN a q : Int)) = p.map (fun q => (covN a q : Int)) ++ [(orIdx 0 (idxM (2 ^ a) m v (2 ^ a)) : Int)] := by
      rw [List.map_append, List.map_cons, List.map_nil, hq]
      rfl
    rw [e2] at this
    exact this

/-! #### spec_nfImplies -/
theorem spec_nfImplies_l0 (n : Int) (l ks : List Int) (hk : ∀ x ∈ ks, 0 ≤ x ∧ x < l.length) (hl : ks.length ≤ 1048576) (r : List Int) : ∀ (p : List Int) (i : Int), i = p.length → ks = p ++ r →
    Ev (fun k => spec_nfImplies.l0 k ks ks.length i n l) (r.all (nz l)) := by
  induction r with
  | nil =>
    intro p i hi e
    have hlen : ks.length = p.length := by rw [e]; simp
    apply ev_up
    simp only [spec_nfImplies.l0]
    exact ev_n (by omega) (Ev.now _)
  | cons x r ih =>
    intro p i hi e
    have hlen : ks.length = p.length + r.length + 1 := by rw [e]; simp; omega
    have hx : rd ks i = x := by rw [e]; exact rdA hi
    have hxb := hk x (by rw [e]; simp)
    have ih' := ih (p ++ [x]) (i + 1) (by simp; omega) (by rw [e]; simp)
    apply ev_up
    simp only [spec_nfImplies.l0]
    refine ev_p (by omega) (ev_p (by omega) (ev_p (by omega) ?_))
    rw [hx, w64 (n := i + 1) (by omega) (by omega)]
    refine ev_p (by omega) (ev_p (by omega) (ev_ite (fun h => ?_) (fun h => ?_)))
    · rw [List.all_cons, show nz l x = false from decide_eq_false (fun hh => hh h), Bool.false_and]
      exact Ev.now _
    · rw [List.all_cons, show nz l x = true from decide_eq_true h, Bool.true_and]
      exact ih'
theorem spec_nfImplies_ev (a m v : Nat) (l : List Int) (ha : a ≤ 4) (hl : l.length = 2 ^ a) (hm : m < 65536) : Ev (fun k => spec_nfImplies.f k a l m v) (impliesM l m v) := by
  unfold spec_nfImplies.f impliesM
  have h8 : 2 ^ a ≤ 2 ^ 4 := Nat.pow_le_pow_right (by decide) ha
  rw [hl]
  have hi := idxM_length (2 ^ a) m v (2 ^ a)
  refine Ev.bind (spec_nfIndices_ev a m v ha hm) (spec_nfImplies_l0 a l _ (fun x hx => ?_) (by omega) _ [] 0 rfl rfl)
  obtain ⟨j, rfl, _, h2, _⟩ := idxM_mem (Nat.le_refl _) hx
  omega

/-! #### spec_nfPrimes -/
theorem spec_nfPrimes_l2 (a : Nat) (l : List Int) (ha : a ≤ 4) (hla : l.length = 2 ^ a) (hl16 : l.length ≤ 16) (m v : Nat) (hm : m < 16) (hv : v < 16) (xs : List S69) (hx : xs.length ≤ 1000000) (R : List S69) (d : Nat) : ∀ (i : Nat) (fit : Bool), i + d = a →
    Ev (fun k => spec_nfPrimes.l1 k (xs ++ (if primeF l m v fit i d = true then [⟨(m : Int), (v : Int)⟩] else [])) m (wrap64 ((v : Int) + 1)) a l) R → Ev (fun k => spec_nfPrimes.l2 k xs m v fit i a l m v) R := by
  induction d with
  | zero =>
    intro i fit hi h
    apply ev_up
    simp only [spec_nfPrimes.l2]
    rw [primeF] at h
    refine ev_n (by omega) (ev_ite (fun c => ev_p (by omega) ?_) (fun c => ?_))
    · rw [if_pos c] at h
      exact h
    · rw [if_neg c, List.append_nil] at h
      exact h
  | succ d ih =>
    intro i fit hi h
    have hi4 : i < 4 := by omega
    have hbf := bits_f m v i hm hv hi4
    rw [primeF] at h
    apply ev_up
    simp only [spec_nfPrimes.l2]
    rw [wN (n := (i : Int) + 1) (m := i + 1) (by omega) (by omega)]
    have h2i : 2 ^ i ≤ 2 ^ 3 := Nat.pow_le_pow_right (by decide) (by omega)
    rw [u64w (by omega) (by omega), shl1 i (by omega), andN m (2 ^ i) (by omega) (by omega), andN v (2 ^ i) (by omega) (by omega)]
    refine ev_p (by omega) (ev_p (by omega) (ev_ite (fun c => ?_) (fun c => ?_)))
    · have c' : ¬ (m >>> i) % 2 = 1 := fun hh => hbf.1.2 hh (by exact_mod_cast c)
      rw [show (if (m >>> i) % 2 = 1 ∧ impliesM l (clrB m i) (clrB v i) = true then false else fit) = fit from if_neg (fun hh => c' hh.1)] at h
      exact ih (i + 1) fit (by omega) h
    · have c' : (m >>> i) % 2 = 1 := hbf.1.1 (fun hh => c (by rw [hh]; rfl))
      have hb := hbf.2 c'
      rw [wN (n := (m : Int) - ((2 ^ i : Nat) : Int)) (m := clrB m i) (by omega) (by omega), wN (n := (v : Int) - ((v &&& 2 ^ i : Nat) : Int)) (m := clrB v i) (by unfold clrB; omega) (by omega)]
      refine Ev.bind (spec_nfImplies_ev a (clrB m i) (clrB v i) l ha hla (by omega)) (ev_ite (fun c2 => ?_) (fun c2 => ?_))
      · rw [show (if (m >>> i) % 2 = 1 ∧ impliesM l (clrB m i) (clrB v i) = true then false else fit) = false from if_pos ⟨c', c2⟩] at h
        exact ih (i + 1) false (by omega) h
      · rw [show (if (m >>> i) % 2 = 1 ∧ impliesM l (clrB m i) (clrB v i) = true then false else fit) = fit from if_neg (fun hh => c2 hh.2)] at h
        exact ih (i + 1) fit (by omega) h
theorem spec_nfPrimes_l1 (a : Nat) (l : List Int) (ha : a ≤ 4) (hla : l.length = 2 ^ a) (hl16 : l.length ≤ 16) (m : Nat) (hm : m < 16) (R : List S69) (d : Nat) : ∀ (v : Nat) (xs : List S69), v + d = m + 1 → xs.length + d ≤ 1000000 →
    Ev (fun k => spec_nfPrimes.l0 k (xs ++ valsM l a m v d) (wrap64 ((m : Int) + 1)) a l) R → Ev (fun k => spec_nfPrimes.l1 k xs m v a l) R := by
  induction d with
  | zero =>
    intro v xs hv hx h
    apply ev_up
    simp only [spec_nfPrimes.l1]
    rw [valsM, List.append_nil] at h
    exact ev_n (by omega) h
  | succ d ih =>
    intro v xs hv hx h
    have hvm : v < 16 := by omega
    rw [valsM] at h
    have next : ∀ ys : List S69, ys.length ≤ 1 → Ev (fun k => spec_nfPrimes.l0 k (xs ++ (ys ++ valsM l a m (v + 1) d)) (wrap64 ((m : Int) + 1)) a l) R → Ev (fun k => spec_nfPrimes.l1 k (xs ++ ys) m (wrap64 ((v : Int) + 1)) a l) R := fun ys hys hh => by
      rw [wN (n := (v : Int) + 1) (m := v + 1) (by omega) (by omega)]
      refine ih (v + 1) _ (by omega) (by simp; omega) ?_
      rw [List.append_assoc]
      exact hh
    have skip : ¬ (v &&& m = v ∧ impliesM l m v = true) → Ev (fun k => spec_nfPrimes.l1 k xs m (wrap64 ((v : Int) + 1)) a l) R := fun c => by
      rw [if_neg (fun hh => c ⟨hh.1, hh.2.1⟩)] at h
      have := next [] (by simp) h
      rw [List.append_nil] at this
      exact this
    apply ev_up
    simp only [spec_nfPrimes.l1]
    rw [andN v m (by omega) (by omega)]
    refine ev_p (by omega) (ev_ite (fun c => Ev.bind (spec_nfImplies_ev a m v l ha hla (by omega)) (ev_up ?_)) (fun c => ev_up ?_))
    · have c' : v &&& m = v := by exact_mod_cast c
      simp only [spec_nfPrimes.j2]
      by_cases c2 : impliesM l m v = true
      · rw [c2]
        refine ev_n (by decide) (spec_nfPrimes_l2 a l ha hla hl16 m v hm hvm xs (by omega) R a 0 true (by omega) ?_)
        refine next _ (by split <;> simp) ?_
        have e : (if v &&& m = v ∧ impliesM l m v = true ∧ primeF l m v true 0 a = true then [(⟨(m : Int), (v : Int)⟩ : S69)] else []) = if primeF l m v true 0 a = true then [⟨(m : Int), (v : Int)⟩] else [] := by
          by_cases c3 : primeF l m v true 0 a = true
          · rw [if_pos ⟨c', c2, c3⟩, if_pos c3]
          · rw [if_neg (fun hh => c3 hh.2.2), if_neg c3]
        rw [e] at h
        exact h
      · rw [show impliesM l m v = false by simpa using c2]
        exact ev_p (by trivial) (skip (fun hh => c2 hh.2))
    · simp only [spec_nfPrimes.j2]
      refine ev_p (by trivial) (skip (fun hh => c ?_))
      exact_mod_cast hh.1
theorem spec_nfPrimes_l0 (a : Nat) (l : List Int) (ha : a ≤ 4) (hla : l.length = 2 ^ a) (hl16 : l.length ≤ 16) (d : Nat) : ∀ (m : Nat) (xs : List S69), m + d = 2 ^ a → xs.length ≤ 17 * m →
    Ev (fun k => spec_nfPrimes.l0 k xs m a l) (xs ++ masksM l a m d) := by
  induction d with
  | zero =>
    intro m xs hm hx
    apply ev_up
    simp only [spec_nfPrimes.l0]
    rw [u64w (by omega) (by omega), shl1 a (by omega)]
    refine ev_p (by omega) (ev_n (by omega) (ev_eq (Ev.now _) ?_))
    simp [masksM]
  | succ d ih =>
    intro m xs hm hx
    apply ev_up
    simp only [spec_nfPrimes.l0]
    have hvl := valsM_length l a m (m + 1) 0
    rw [u64w (by omega) (by omega), shl1 a (by omega)]
    refine ev_p (by omega) (ev_p (by omega) ?_)
    refine spec_nfPrimes_l1 a l ha hla hl16 m (by omega) _ (m + 1) 0 xs (by omega) (by omega) ?_
    rw [wN (n := (m : Int) + 1) (m := m + 1) (by omega) (by omega)]
    refine ev_eq (ih (m + 1) _ (by omega) (by simp; omega)) ?_
    simp [masksM]
theorem spec_nfPrimes_ev (a : Nat) (l : List Int) (ha : a ≤ 4) (hla : l.length = 2 ^ a) (hl16 : l.length ≤ 16) : Ev (fun k => spec_nfPrimes.f k a l) (masksM l a 0 (2 ^ a)) := by
  unfold spec_nfPrimes.f
  exact spec_nfPrimes_l0 a l ha hla hl16 (2 ^ a) 0 [] (by omega) (by simp)

/-! #### l1In -/
theorem l1In_eq (a b c : Int) : spec_l1In.f a b c = some (decide (b ≤ a ∧ a ≤ c)) := by
  unfold spec_l1In.f
  by_cases h : b ≤ a
  · rw [if_pos h]; simp [h]
  · rw [if_neg h]; simp [h]

/-! #### l1All -/
def inB (a b : Int) (x : Int) : Bool := decide (a ≤ x ∧ x ≤ b)
theorem l1All_l0 (l : List Int) (a b : Int) (hl : l.length ≤ 9223372036854775807) (r : List Int) : ∀ (p : List Int) (i : Int), i = p.length → l = p ++ r →
    Ev (fun k => spec_l1All.l0 k a b l l.length i) (r.all (inB a b)) := by
  induction r with
  | nil =>
    intro p i hi e
    have hlen : l.length = p.length := by rw [e]; simp
    apply ev_up
    simp only [spec_l1All.l0]
    exact ev_n (by omega) (Ev.now _)
  | cons x r ih =>
    intro p i hi e
    have hlen : l.length = p.length + r.length + 1 := by rw [e]; simp; omega
    have hx : rd l i = x := by rw [e]; exact rdA hi
    have ih' := ih (p ++ [x]) (i + 1) (by simp; omega) (by rw [e]; simp)
    apply ev_up
    simp only [spec_l1All.l0]
    refine ev_p (by omega) (ev_p (by omega) (ev_p (by omega) ?_))
    rw [hx, l1In_eq]
    refine Ev.bind (ev_c rfl) ?_
    refine ev_ite (fun h => ?_) (fun h => ?_)
    · rw [w64 (by omega) (by omega)]
      refine ev_eq ih' ?_
      rw [List.all_cons, show inB a b x = true from h, Bool.true_and]
    · refine ev_eq (Ev.now _) ?_
      rw [List.all_cons, show inB a b x = false from decide_eq_false (fun hh => h (decide_eq_true hh)), Bool.false_and]
theorem l1All_ev (l : List Int) (a b : Int) (hl : l.length ≤ 9223372036854775807) : Ev (fun k => spec_l1All.f k l a b) (l.all (inB a b)) := by
  unfold spec_l1All.f
  exact l1All_l0 l a b hl l [] 0 rfl rfl

/-! #### ttInputs -/
theorem ttInputs_eq (a : Int) : spec_ttInputs.f a = some (decide (0 ≤ a ∧ a ≤ 4)) := by
  unfold spec_ttInputs.f
  rw [l1In_eq, Option.bind_some]

/-! #### tableM -/
def tableM (n : Int) (l : List Int) : Bool := decide (0 ≤ n ∧ n ≤ 4 ∧ l.length = 2 ^ n.toNat) && l.all (inB 0 1)
theorem tableM_of {n : Int} {l : List Int} (h : tableM n l = true) : ∃ a : Nat, n = a ∧ a ≤ 4 ∧ l.length = 2 ^ a ∧ l.length ≤ 16 ∧ ∀ x ∈ l, 0 ≤ x ∧ x ≤ 1 := by
  unfold tableM at h
  rw [Bool.and_eq_true, List.all_eq_true] at h
  obtain ⟨h1, h2, h3⟩ := of_decide_eq_true h.1
  obtain ⟨a, rfl⟩ := nat_of h1
  simp only [Int.toNat_natCast] at h3
  have h8 : 2 ^ a ≤ 2 ^ 4 := Nat.pow_le_pow_right (by decide) (by omega)
  exact ⟨a, rfl, by omega, h3, by omega, fun x hx => of_decide_eq_true (h.2 x hx)⟩

/-! #### spec_ttGood -/
theorem spec_ttGood_ev (n : Int) (l : List Int) (hl : l.length ≤ 9223372036854775807) : Ev (fun k => spec_ttGood.f k n l) (tableM n l) := by
  unfold spec_ttGood.f tableM
  rw [ttInputs_eq]
  refine Ev.bind (ev_c rfl) (ev_ite (fun h => ?_) (fun h => ?_))
  · have h' := of_decide_eq_true h
    obtain ⟨a, rfl⟩ := nat_of h'.1
    rw [u64w (by omega) (by omega), shl1 a (by omega)]
    refine ev_p (by omega) (ev_ite (fun h2 => ?_) (fun h2 => ?_))
    · have h3 : l.length = 2 ^ a := by exact_mod_cast h2
      rw [decide_eq_true ⟨h'.1, h'.2, by simpa using h3⟩, Bool.true_and]
      exact Ev.bind (l1All_ev l 0 1 hl) (Ev.now _)
    · rw [decide_eq_false (fun hh => h2 (by have := hh.2.2; simp only [Int.toNat_natCast] at this; exact_mod_cast this)), Bool.false_and]
      exact Ev.now _
  · rw [decide_eq_false (fun hh => h (decide_eq_true ⟨hh.1, hh.2.1⟩)), Bool.false_and]
    exact Ev.now _

/-! #### essFacts -/
theorem primes_facts {a : Nat} (ha : a ≤ 4) (l : List Int) : (masksM l a 0 (2 ^ a)).length ≤ 256 ∧ ∀ p ∈ masksM l a 0 (2 ^ a), goodP l p := by
  have h8 : 2 ^ a ≤ 2 ^ 4 := Nat.pow_le_pow_right (by decide) ha
  have h1 := masksM_length l a 16 (2 ^ a) 0 (by omega)
  exact ⟨by omega, masksM_good l a (2 ^ a) 0 (by omega)⟩

/-! #### spec_SeparateOnes -/
theorem bit_test (B x : Nat) : ((((B >>> x) % 2 : Nat) : Int) = 1) ↔ B.testBit x = true := by
  rw [Nat.testBit_eq_decide_div_mod_eq, decide_eq_true_eq, Nat.shiftRight_eq_div_pow]
  exact_mod_cast Iff.rfl
theorem barB_append (ps : List S69) (cur : List Int) (y x : Int) : barB ps (cur ++ [y]) x = (barB ps cur x || nearB ps y.toNat x.toNat) := by
  unfold barB
  rw [List.any_append]
  simp
theorem spec_nfApart_l0 (a : Nat) (ha : a ≤ 4) (ps : List S69) (near : List Int) (hnear : near = rmap (2 ^ a) (fun j => ((nearF a ps j 0 : Nat) : Int))) (ones : List Int) (hones : ∀ y ∈ ones, 0 ≤ y ∧ y < (2 ^ a : Nat)) (hol : ones.length ≤ 1048576) (r : List Int) : ∀ (p : List Int) (i : Int) (B : Nat) (cur best : List Int), i = p.length → ones = p ++ r → B < 65536 → (∀ x, x < 2 ^ a → B.testBit x = barB ps cur (x : Int)) → best.length ≤ 1048576 →
    Ev (fun k => spec_nfApart.l0 k ones near B best i) (pickM [] best (apartM ps r cur)) := by
  have h8 : 2 ^ a ≤ 2 ^ 4 := Nat.pow_le_pow_right (by decide) ha
  have hnl : near.length = 2 ^ a := by rw [hnear]; exact rmap_length _ _
  induction r with
  | nil =>
    intro p i B cur best hi e hB hbit hb
    have hlen : ones.length = p.length := by rw [e]; simp
    apply ev_up
    simp only [spec_nfApart.l0]
    refine ev_n (by omega) (ev_eq (Ev.now _) ?_)
    simp [pickM, apartM]
  | cons y r ih =>
    intro p i B cur best hi e hB hbit hb
    have hlen : ones.length = p.length + r.length + 1 := by rw [e]; simp; omega
    have hxx : rd ones i = y := by rw [e]; exact rdA hi
    have hy := hones y (by rw [e]; simp)
    obtain ⟨b, rfl⟩ := nat_of hy.1
    have hba : b < 2 ^ a := by omega
    have hml := apartM_length ps r cur
    have hml2 := apartM_length ps r (cur ++ [(b : Int)])
    have next : ∀ best' : List Int, best'.length ≤ 1048576 → Ev (fun k => spec_nfApart.l0 k ones near B best' (i + 1)) (pickM [] best' (apartM ps r cur)) := fun best' hb' => ih (p ++ [(b : Int)]) (i + 1) B cur best' (by simp; omega) (by rw [e]; simp) hB hbit hb'
    apply ev_up
    simp only [spec_nfApart.l0]
    refine ev_p (by omega) (ev_p (by omega) ?_)
    rw [hxx, u64w (by omega) (by omega), bit_and1 B b (by omega) (by omega)]
    refine ev_p (by omega) (ev_ite (fun c => ?_) (fun c => ?_))
    · have c' : barB ps cur (b : Int) = true := by rw [← hbit b hba]; exact (bit_test B b).1 c
      apply ev_up
      simp only [spec_nfApart.j1]
      rw [w64 (n := i + 1) (by omega) (by omega), apartM, if_pos c']
      exact ev_p (by trivial) (next best hb)
    · have c' : ¬ barB ps cur (b : Int) = true := by rw [← hbit b hba]; exact fun hh => c ((bit_test B b).2 hh)
      have hlong : (if ((b : Int) :: apartM ps r (cur ++ [(b : Int)])).length < (apartM ps r cur).length then apartM ps r cur else (b : Int) :: apartM ps r (cur ++ [(b : Int)])) = apartM ps ((b : Int) :: r) cur := by
        rw [apartM, if_neg c', List.length_cons]
      apply ev_up
      simp only [spec_nfApart.j1]
      rw [w64 (n := i + 1) (by omega) (by omega), wN (n := (ones.length : Int) - i) (m := r.length + 1) (by omega) (by omega)]
      refine ev_ite (fun c2 => ?_) (fun c2 => ?_)
      · have c3 := of_decide_eq_true c2
        refine ev_eq (next best hb) ?_
        rw [← hlong, ← pick_two]
        congr 1
        unfold pickM
        rw [if_neg (by simp; omega)]
      · have c3 : ¬ ((r.length + 1 : Nat) : Int) ≤ (best.length : Int) := fun hh => c2 (decide_eq_true hh)
        rw [hxx]
        have hnr : rd near (b : Int) = ((nearF a ps b 0 : Nat) : Int) := by rw [hnear]; exact rmap_get hba _
        have hnlt := nearF_lt ha ps b 0 (by decide)
        rw [hnr, orN B (nearF a ps b 0) (by omega) (by omega)]
        refine ev_p (by omega) (ev_p (by omega) (Ev.bind (ev_c rfl) (ev_p (by omega) (ev_p (by omega) ?_))))
        have hsub : Ev (fun k => spec_nfApart.f k ones near (i + 1) ((B ||| nearF a ps b 0 : Nat) : Int)) (apartM ps r (cur ++ [(b : Int)])) := by
          apply ev_up
          simp only [spec_nfApart.f]
          refine ev_eq (ih (p ++ [(b : Int)]) (i + 1) (B ||| nearF a ps b 0) (cur ++ [(b : Int)]) [] (by simp; omega) (by rw [e]; simp) (or_lt16 hB hnlt) (fun x hx => ?_) (by simp)) ?_
          · rw [Nat.testBit_or, nearF_bit ps b x hba hx, hbit x hx, barB_append, Int.toNat_natCast, Int.toNat_natCast, Nat.zero_testBit, Bool.false_or]
          · rw [pickM_nil]
            by_cases c4 : 0 < (apartM ps r (cur ++ [(b : Int)])).length
            · rw [if_pos (by simpa using c4)]
            · rw [if_neg (by simpa using c4)]
              exact (List.length_eq_zero_iff.1 (by omega)).symm
        refine Ev.bind hsub (ev_p (by simp; omega) (Ev.bind (ev_c rfl) ?_))
        rw [← hlong, ← pick_two]
        refine ev_ite (fun c5 => ?_) (fun c5 => ?_)
        · refine ev_eq (next _ (by simp; omega)) ?_
          congr 1
          rw [pickM_nil, if_pos (by simp at c5 ⊢; omega)]
          rfl
        · refine ev_eq (next _ hb) ?_
          congr 1
          rw [pickM_nil, if_neg (by simp at c5 ⊢; omega)]
theorem spec_SeparateOnes_l1 (a : Nat) (ha : a ≤ 4) (n : Int) (l : List Int) (cs : List Int) (i : Int) (q : S69) (f : Nat → Nat) (hf : ∀ j, f j < 65536) (R : List Int × Bool) (d : Nat) : ∀ (x : Nat), x + d = 2 ^ a →
    Ev (fun k => spec_SeparateOnes.l0 k (rmap (2 ^ a) (fun j => ((nearS a q j (f j) : Nat) : Int))) cs cs.length (wrap64 (i + 1)) n l) R →
    Ev (fun k => spec_SeparateOnes.l1 k (rmap (2 ^ a) (fun j => (((if j < x then nearS a q j (f j) else f j) : Nat) : Int))) (covN a q : Int) cs cs.length i ((2 ^ a : Nat) : Int) x n l) R := by
  have h8 : 2 ^ a ≤ 2 ^ 4 := Nat.pow_le_pow_right (by decide) ha
  have hcq := covN_lt ha q
  induction d with
  | zero =>
    intro x hx h
    apply ev_up
    simp only [spec_SeparateOnes.l1]
    refine ev_n (by omega) ?_
    rw [show rmap (2 ^ a) (fun j => (((if j < x then nearS a q j (f j) else f j) : Nat) : Int)) = rmap (2 ^ a) (fun j => ((nearS a q j (f j) : Nat) : Int)) from rmap_congr (fun j hj => by rw [if_pos (by omega)])]
    exact h
  | succ d ih =>
    intro x hx h
    have hxa : x < 2 ^ a := by omega
    apply ev_up
    simp only [spec_SeparateOnes.l1]
    have hg : rd (rmap (2 ^ a) (fun j => (((if j < x then nearS a q j (f j) else f j) : Nat) : Int))) (x : Int) = ((f x : Nat) : Int) := by
      unfold rd
      rw [rmap_get hxa]
      simp
    have ih' := ih (x + 1) (by omega) h
    rw [wN (n := (x : Int) + 1) (m := x + 1) (by omega) (by omega), u64w (by omega) (by omega), bit_and1 (covN a q) x (by omega) (by omega), hg, orN (f x) (covN a q) (by have := hf x; omega) (by omega), rmap_length, Int.toNat_natCast, rmap_set hxa]
    refine ev_p (by omega) (ev_p (by omega) (ev_ite (fun c => ev_p (by omega) (ev_p (by omega) ?_)) (fun c => ?_)))
    · have c' := (bit_test _ _).1 c
      refine ev_eq ?_ rfl
      rw [show rmap (2 ^ a) (fun j => if j = x then (((f x ||| covN a q : Nat)) : Int) else (((if j < x then nearS a q j (f j) else f j) : Nat) : Int)) = rmap (2 ^ a) (fun j => (((if j < x + 1 then nearS a q j (f j) else f j) : Nat) : Int)) from rmap_congr (fun j hj => by
        by_cases c2 : j = x
        · subst c2
          rw [if_pos rfl, if_pos (by omega)]
          unfold nearS
          rw [if_pos c']
        · rw [if_neg c2]
          by_cases c3 : j < x
          · rw [if_pos c3, if_pos (by omega)]
          · rw [if_neg c3, if_neg (by omega)])]
      exact ih'
    · have c' : ¬ (covN a q).testBit x = true := fun hh => c ((bit_test _ _).2 hh)
      rw [show rmap (2 ^ a) (fun j => (((if j < x then nearS a q j (f j) else f j) : Nat) : Int)) = rmap (2 ^ a) (fun j => (((if j < x + 1 then nearS a q j (f j) else f j) : Nat) : Int)) from rmap_congr (fun j hj => by
        by_cases c2 : j = x
        · subst c2
          rw [if_neg (by omega), if_pos (by omega)]
          unfold nearS
          rw [if_neg c']
        · by_cases c3 : j < x
          · rw [if_pos c3, if_pos (by omega)]
          · rw [if_neg c3, if_neg (by omega)])]
      exact ih'
theorem spec_SeparateOnes_l0 (a : Nat) (ha : a ≤ 4) (l : List Int) (hl : l.length = 2 ^ a) (ps : List S69) (hpl : ps.length ≤ 1048576) (r : List S69) : ∀ (p : List S69) (i : Int), i = p.length → ps = p ++ r →
    Ev (fun k => spec_SeparateOnes.l0 k (rmap (2 ^ a) (fun j => ((nearF a p j 0 : Nat) : Int))) (ps.map (fun q => (covN a q : Int))) (ps.map (fun q => (covN a q : Int))).length i a l) (apartM ps (onesF l 0 (2 ^ a)) [], true) := by
  have h8 : 2 ^ a ≤ 2 ^ 4 := Nat.pow_le_pow_right (by decide) ha
  induction r with
  | nil =>
    intro p i hi e
    have e' : ps = p := by rw [e]; simp
    apply ev_up
    simp only [spec_SeparateOnes.l0]
    refine ev_n (by rw [List.length_map, e']; omega) ?_
    have ho := spec_ttOnes_ev a l (by omega)
    rw [hl] at ho
    refine Ev.bind ho ?_
    have hol := onesF_length l (2 ^ a) 0
    have hob := onesF_bound l (2 ^ a) 0
    have hA : Ev (fun k => spec_nfApart.f k (onesF l 0 (2 ^ a)) (rmap (2 ^ a) (fun j => ((nearF a p j 0 : Nat) : Int))) 0 0) (apartM ps (onesF l 0 (2 ^ a)) []) := by
      apply ev_up
      simp only [spec_nfApart.f]
      rw [← e']
      refine ev_eq (spec_nfApart_l0 a ha ps _ rfl (onesF l 0 (2 ^ a)) (fun y hy => by have := hob y hy; omega) (by omega) _ [] 0 0 [] [] rfl rfl (by decide) (fun x hx => by simp [barB]) (by simp)) ?_
      rw [pickM_nil]
      by_cases c4 : 0 < (apartM ps (onesF l 0 (2 ^ a)) []).length
      · rw [if_pos (by simpa using c4)]
      · rw [if_neg (by simpa using c4)]
        exact (List.length_eq_zero_iff.1 (by omega)).symm
    exact Ev.bind hA (Ev.now _)
  | cons q r ih =>
    intro p i hi e
    have hlen : ps.length = p.length + r.length + 1 := by rw [e]; simp; omega
    have hxx : rd (ps.map (fun q => (covN a q : Int))) i = (covN a q : Int) := by rw [e, List.map_append, List.map_cons]; exact rdA (by rw [List.length_map]; exact hi)
    apply ev_up
    simp only [spec_SeparateOnes.l0]
    have hml : (ps.map (fun q => (covN a q : Int))).length = ps.length := List.length_map _
    refine ev_p (by omega) (ev_p (by omega) (ev_p (by omega) ?_))
    rw [hxx, rmap_length]
    have h1 := spec_SeparateOnes_l1 a ha a l (ps.map (fun q => (covN a q : Int))) i q (fun j => nearF a p j 0) (fun j => nearF_lt ha p j 0 (by decide)) (apartM ps (onesF l 0 (2 ^ a)) [], true) (2 ^ a) 0 (by omega)
    simp only [Nat.not_lt_zero, if_false] at h1
    refine h1 ?_
    rw [w64 (n := i + 1) (by omega) (by omega)]
    have h2 := ih (p ++ [q]) (i + 1) (by simp; omega) (by rw [e]; simp)
    simp only [nearF_append] at h2
    exact h2

/-! #### impl_isSeparate -/
def sepP (ps : List S69) (cur : List Int) (x : Int) : Bool := ps.all (fun p => !(covE p x.toNat && cur.any (fun y => covE p y.toNat)))
theorem sep_bar (ps : List S69) (cur : List Int) (x : Int) : sepP ps cur x = !barB ps cur x := by
  unfold sepP barB nearB
  rw [Bool.eq_iff_iff]
  simp only [List.all_eq_true, Bool.not_eq_true', Bool.and_eq_false_iff, List.any_eq_false, List.any_eq_true, Bool.and_eq_true, not_exists, not_and, Bool.not_eq_true]
  constructor
  · intro h y hy p hp h1
    rcases h p hp with h2 | h2
    · exact h2
    · rw [h2 y hy] at h1; cases h1
  · intro h p hp
    by_cases c : covE p x.toNat = true
    · right
      intro y hy
      by_cases c2 : covE p y.toNat = true
      · rw [h y hy p hp c2] at c; cases c
      · simpa using c2
    · left
      simpa using c
theorem cov_and {l : List Int} {p : S69} (hg : goodP l p) {x : Nat} (hx : x < 16) : (Go.bits .and .i64 (x : Int) p.f0 = p.f1) ↔ covE p x = true := by
  obtain ⟨m, v, hm, hv, rfl, _⟩ := hg
  unfold covE
  simp only [Int.toNat_natCast]
  rw [andN x m (by omega) (by omega), decide_eq_true_eq]
  exact Int.ofNat_inj
theorem impl_isSeparate_l1 (l : List Int) (ps : List S69) (q : S69) (hg : goodP l q) (cur : List Int) (hc : ∀ y ∈ cur, 0 ≤ y ∧ y < 16) (hcl : cur.length ≤ 1048576) (x j : Int) (R : Bool) (r : List Int) : ∀ (p : List Int) (i : Int), i = p.length → cur = p ++ r →
    (r.any (fun y => covE q y.toNat) = true → R = false) → (r.any (fun y => covE q y.toNat) = false → Ev (fun k => impl_isSeparate.l0 k cur x ps ps.length (wrap64 (j + 1))) R) → Ev (fun k => impl_isSeparate.l1 k cur x ps ps.length j cur cur.length i q.f0 q.f1) R := by
  induction r with
  | nil =>
    intro p i hi e _ h
    have hlen : cur.length = p.length := by rw [e]; simp
    apply ev_up
    simp only [impl_isSeparate.l1]
    exact ev_n (by omega) (h rfl)
  | cons y r ih =>
    intro p i hi e h1 h
    have hlen : cur.length = p.length + r.length + 1 := by rw [e]; simp; omega
    have hxx : rd cur i = y := by rw [e]; exact rdA hi
    have hy := hc y (by rw [e]; simp)
    obtain ⟨b, rfl⟩ := nat_of hy.1
    apply ev_up
    simp only [impl_isSeparate.l1]
    refine ev_p (by omega) (ev_p (by omega) (ev_p (by omega) ?_))
    rw [hxx]
    refine ev_ite (fun c => ?_) (fun c => ?_)
    · have c' := (cov_and hg (by omega)).1 c
      have e1 := h1 (by simp [c'])
      subst e1
      exact Ev.now _
    · have c' : covE q b = false := by
        have := fun hh => c ((cov_and hg (by omega)).2 hh)
        simpa using this
      rw [w64 (n := i + 1) (by omega) (by omega)]
      exact ih (p ++ [(b : Int)]) (i + 1) (by simp; omega) (by rw [e]; simp) (fun hh => h1 (by simpa [c'] using hh)) (fun hh => h (by simpa [c'] using hh))
theorem impl_isSeparate_l0 (l : List Int) (ps : List S69) (hg : ∀ p ∈ ps, goodP l p) (hpl : ps.length ≤ 1048576) (cur : List Int) (hc : ∀ y ∈ cur, 0 ≤ y ∧ y < 16) (hcl : cur.length ≤ 1048576) (x : Nat) (hx : x < 16) (r : List S69) : ∀ (p : List S69) (j : Int), j = p.length → ps = p ++ r →
    Ev (fun k => impl_isSeparate.l0 k cur x ps ps.length j) (sepP r cur x) := by
  induction r with
  | nil =>
    intro p j hj e
    have hlen : ps.length = p.length := by rw [e]; simp
    apply ev_up
    simp only [impl_isSeparate.l0]
    exact ev_n (by omega) (Ev.now _)
  | cons q r ih =>
    intro p j hj e
    have hlen : ps.length = p.length + r.length + 1 := by rw [e]; simp; omega
    have hxx : rd_T69 ps j = q := by rw [e]; exact rdTermA hj
    have hq := hg q (by rw [e]; simp)
    have ih' := ih (p ++ [q]) (j + 1) (by simp; omega) (by rw [e]; simp)
    apply ev_up
    simp only [impl_isSeparate.l0]
    refine ev_p (by omega) (ev_p (by omega) (ev_p (by omega) ?_))
    rw [hxx]
    refine ev_ite (fun c => ?_) (fun c => ?_)
    · have c' := (cov_and hq hx).1 c
      refine impl_isSeparate_l1 l ps q hq cur hc hcl x j _ cur [] 0 rfl rfl (fun hh => ?_) (fun hh => ?_)
      · simp only [sepP, List.all_cons, Int.toNat_natCast, c', hh, Bool.and_self, Bool.not_true, Bool.false_and]
      · rw [w64 (n := j + 1) (by omega) (by omega)]
        refine ev_eq ih' ?_
        simp only [sepP, List.all_cons, Int.toNat_natCast, c', hh, Bool.and_false, Bool.not_false, Bool.true_and]
    · have c' : covE q x = false := by
        have := fun hh => c ((cov_and hq hx).2 hh)
        simpa using this
      rw [w64 (n := j + 1) (by omega) (by omega)]
      refine ev_eq ih' ?_
      simp only [sepP, List.all_cons, Int.toNat_natCast, c', Bool.false_and, Bool.not_false, Bool.true_and]
theorem impl_isSeparate_ev (l : List Int) (ps : List S69) (hg : ∀ p ∈ ps, goodP l p) (hpl : ps.length ≤ 1048576) (cur : List Int) (hc : ∀ y ∈ cur, 0 ≤ y ∧ y < 16) (hcl : cur.length ≤ 1048576) (x : Nat) (hx : x < 16) : Ev (fun k => impl_isSeparate.f k ps cur x) (!barB ps cur x) := by
  unfold impl_isSeparate.f
  rw [← sep_bar]
  exact impl_isSeparate_l0 l ps hg hpl cur hc hcl x hx ps [] 0 rfl rfl

/-! #### impl_implies -/
theorem impl_implies_l0 (l : List Int) (m v : Nat) (hm : m < 65536) (hl : l.length ≤ 1048576) (d : Nat) : ∀ (i : Nat), i + d = l.length →
    Ev (fun k => impl_implies.l0 k l l.length i m v) ((idxM l.length m v d).all (nz l)) := by
  induction d with
  | zero =>
    intro i hi
    apply ev_up
    simp only [impl_implies.l0]
    exact ev_n (by omega) (Ev.now _)
  | succ d ih =>
    intro i hi
    have e : l.length - (d + 1) = i := by omega
    have ih' := ih (i + 1) (by omega)
    apply ev_up
    simp only [impl_implies.l0]
    refine ev_p (by omega) (ev_p (by omega) (ev_p (by omega) ?_))
    rw [andN i m (by omega) (by omega), wN (m := i + 1) (by omega) (by omega)]
    unfold idxM
    rw [e, List.all_append]
    refine ev_ite (fun h => ev_ite (fun h2 => ?_) (fun h2 => ?_)) (fun h => ?_)
    · have h' : i &&& m = v := by exact_mod_cast h2
      rw [if_pos h', List.all_cons, show nz l (i : Int) = false from decide_eq_false (fun hh => hh h), Bool.false_and, Bool.false_and]
      exact Ev.now _
    · have h' : ¬ i &&& m = v := fun h3 => h2 (by exact_mod_cast h3)
      rw [if_neg h', List.all_nil, Bool.true_and]
      exact ih'
    · have e2 : (if i &&& m = v then [(i : Int)] else []).all (nz l) = true := by
        split
        · simp [nz, h]
        · rfl
      rw [e2, Bool.true_and]
      exact ih'
theorem impl_implies_ev (n : Int) (l : List Int) (m v : Nat) (hm : m < 65536) (hl : l.length ≤ 1048576) : Ev (fun k => impl_implies.f k n l m v) (impliesM l m v) := by
  unfold impl_implies.f impliesM
  exact impl_implies_l0 l m v hm hl l.length 0 (by omega)

/-! #### impl_primesOf -/
theorem impl_primesOf_l2 (a : Nat) (l : List Int) (ha : a ≤ 4) (hla : l.length = 2 ^ a) (hl16 : l.length ≤ 16) (m v : Nat) (hm : m < 16) (hv : v < 16) (xs : List S69) (hx : xs.length ≤ 1000000) (R : List S69) (d : Nat) : ∀ (i : Nat) (fit : Bool), i + d = a →
    Ev (fun k => impl_primesOf.l1 k (xs ++ (if primeF l m v fit i d = true then [⟨(m : Int), (v : Int)⟩] else [])) m (wrap64 ((v : Int) + 1)) a l) R → Ev (fun k => impl_primesOf.l2 k xs m v fit i a l m v) R := by
  induction d with
  | zero =>
    intro i fit hi h
    apply ev_up
    simp only [impl_primesOf.l2]
    rw [primeF] at h
    refine ev_n (by omega) (ev_ite (fun c => ev_p (by omega) ?_) (fun c => ?_))
    · rw [if_pos c] at h
      exact h
    · rw [if_neg c, List.append_nil] at h
      exact h
  | succ d ih =>
    intro i fit hi h
    have hi4 : i < 4 := by omega
    have hbf := bits_f m v i hm hv hi4
    rw [primeF] at h
    apply ev_up
    simp only [impl_primesOf.l2]
    rw [wN (n := (i : Int) + 1) (m := i + 1) (by omega) (by omega)]
    have h2i : 2 ^ i ≤ 2 ^ 3 := Nat.pow_le_pow_right (by decide) (by omega)
    rw [bit_and1 m i (by omega) (by omega), shl1 i (by omega), andNotN m (2 ^ i) (by omega) (by omega), andNotN v (2 ^ i) (by omega) (by omega)]
    refine ev_p (by omega) (ev_p (by omega) (ev_ite (fun c => ?_) (fun c => ?_)))
    · have c' : (m >>> i) % 2 = 1 := by exact_mod_cast c
      have hb := hbf.2 c'
      rw [hb.2.2.1, hb.2.2.2]
      refine Ev.bind (impl_implies_ev a l (clrB m i) (clrB v i) (by omega) (by omega)) (ev_ite (fun c2 => ?_) (fun c2 => ?_))
      · rw [show (if (m >>> i) % 2 = 1 ∧ impliesM l (clrB m i) (clrB v i) = true then false else fit) = false from if_pos ⟨c', c2⟩] at h
        exact ih (i + 1) false (by omega) h
      · rw [show (if (m >>> i) % 2 = 1 ∧ impliesM l (clrB m i) (clrB v i) = true then false else fit) = fit from if_neg (fun hh => c2 hh.2)] at h
        exact ih (i + 1) fit (by omega) h
    · have c' : ¬ (m >>> i) % 2 = 1 := fun hh => c (by exact_mod_cast hh)
      rw [show (if (m >>> i) % 2 = 1 ∧ impliesM l (clrB m i) (clrB v i) = true then false else fit) = fit from if_neg (fun hh => c' hh.1)] at h
      exact ih (i + 1) fit (by omega) h
theorem impl_primesOf_l1 (a : Nat) (l : List Int) (ha : a ≤ 4) (hla : l.length = 2 ^ a) (hl16 : l.length ≤ 16) (m : Nat) (hm : m < 16) (R : List S69) (d : Nat) : ∀ (v : Nat) (xs : List S69), v + d = m + 1 → xs.length + d ≤ 1000000 →
    Ev (fun k => impl_primesOf.l0 k (xs ++ valsM l a m v d) (wrap64 ((m : Int) + 1)) a l) R → Ev (fun k => impl_primesOf.l1 k xs m v a l) R := by
  induction d with
  | zero =>
    intro v xs hv hx h
    apply ev_up
    simp only [impl_primesOf.l1]
    rw [valsM, List.append_nil] at h
    exact ev_n (by omega) h
  | succ d ih =>
    intro v xs hv hx h
    have hvm : v < 16 := by omega
    rw [valsM] at h
    have next : ∀ ys : List S69, ys.length ≤ 1 → Ev (fun k => impl_primesOf.l0 k (xs ++ (ys ++ valsM l a m (v + 1) d)) (wrap64 ((m : Int) + 1)) a l) R → Ev (fun k => impl_primesOf.l1 k (xs ++ ys) m (wrap64 ((v : Int) + 1)) a l) R := fun ys hys hh => by
      rw [wN (n := (v : Int) + 1) (m := v + 1) (by omega) (by omega)]
      refine ih (v + 1) _ (by omega) (by simp; omega) ?_
      rw [List.append_assoc]
      exact hh
    have skip : ¬ (v &&& m = v ∧ impliesM l m v = true) → Ev (fun k => impl_primesOf.l1 k xs m (wrap64 ((v : Int) + 1)) a l) R := fun c => by
      rw [if_neg (fun hh => c ⟨hh.1, hh.2.1⟩)] at h
      have := next [] (by simp) h
      rw [List.append_nil] at this
      exact this
    apply ev_up
    simp only [impl_primesOf.l1]
    rw [andNotN v m (by omega) (by omega)]
    refine ev_p (by omega) (ev_ite (fun c => Ev.bind (impl_implies_ev a l m v (by omega) (by omega)) (ev_up ?_)) (fun c => ev_up ?_))
    · have c' : v &&& m = v := ((xor_eq_zero v (v &&& m)).1 (by exact_mod_cast c)).symm
      simp only [impl_primesOf.j2]
      by_cases c2 : impliesM l m v = true
      · rw [c2]
        refine ev_n (by decide) (impl_primesOf_l2 a l ha hla hl16 m v hm hvm xs (by omega) R a 0 true (by omega) ?_)
        refine next _ (by split <;> simp) ?_
        have e : (if v &&& m = v ∧ impliesM l m v = true ∧ primeF l m v true 0 a = true then [(⟨(m : Int), (v : Int)⟩ : S69)] else []) = if primeF l m v true 0 a = true then [⟨(m : Int), (v : Int)⟩] else [] := by
          by_cases c3 : primeF l m v true 0 a = true
          · rw [if_pos ⟨c', c2, c3⟩, if_pos c3]
          · rw [if_neg (fun hh => c3 hh.2.2), if_neg c3]
        rw [e] at h
        exact h
      · rw [show impliesM l m v = false by simpa using c2]
        exact ev_p (by trivial) (skip (fun hh => c2 hh.2))
    · simp only [impl_primesOf.j2]
      refine ev_p (by trivial) (skip (fun hh => c ?_))
      have e := (xor_eq_zero v (v &&& m)).2 hh.1.symm; exact_mod_cast e
theorem impl_primesOf_l0 (a : Nat) (l : List Int) (ha : a ≤ 4) (hla : l.length = 2 ^ a) (hl16 : l.length ≤ 16) (d : Nat) : ∀ (m : Nat) (xs : List S69), m + d = 2 ^ a → xs.length ≤ 17 * m →
    Ev (fun k => impl_primesOf.l0 k xs m a l) (xs ++ masksM l a m d) := by
  induction d with
  | zero =>
    intro m xs hm hx
    apply ev_up
    simp only [impl_primesOf.l0]
    refine (ev_n (by omega) (ev_eq (Ev.now _) ?_))
    simp [masksM]
  | succ d ih =>
    intro m xs hm hx
    apply ev_up
    simp only [impl_primesOf.l0]
    have hvl := valsM_length l a m (m + 1) 0
    refine (ev_p (by omega) ?_)
    refine impl_primesOf_l1 a l ha hla hl16 m (by omega) _ (m + 1) 0 xs (by omega) (by omega) ?_
    rw [wN (n := (m : Int) + 1) (m := m + 1) (by omega) (by omega)]
    refine ev_eq (ih (m + 1) _ (by omega) (by simp; omega)) ?_
    simp [masksM]
theorem impl_primesOf_ev (a : Nat) (l : List Int) (ha : a ≤ 4) (hla : l.length = 2 ^ a) (hl16 : l.length ≤ 16) : Ev (fun k => impl_primesOf.f k a l) (masksM l a 0 (2 ^ a)) := by
  unfold impl_primesOf.f
  exact impl_primesOf_l0 a l ha hla hl16 (2 ^ a) 0 [] (by omega) (by simp)

/-! #### impl_areBits -/
theorem impl_areBits_l0 (l : List Int) (hl : l.length ≤ 9223372036854775807) (r : List Int) : ∀ (p : List Int) (i : Int), i = p.length → l = p ++ r →
    Ev (fun k => impl_areBits.l0 k l l.length i) (r.all (inB 0 1)) := by
  induction r with
  | nil =>
    intro p i hi e
    have hlen : l.length = p.length := by rw [e]; simp
    apply ev_up
    simp only [impl_areBits.l0]
    exact ev_n (by omega) (Ev.now _)
  | cons x r ih =>
    intro p i hi e
    have hlen : l.length = p.length + r.length + 1 := by rw [e]; simp; omega
    have hx : rd l i = x := by rw [e]; exact rdA hi
    have ih' := ih (p ++ [x]) (i + 1) (by simp; omega) (by rw [e]; simp)
    apply ev_up
    simp only [impl_areBits.l0]
    refine ev_p (by omega) (ev_p (by omega) (ev_p (by omega) ?_))
    rw [hx, w64 (n := i + 1) (by omega) (by omega)]
    refine ev_ite (fun h => ?_) (fun h => ev_ite (fun h2 => ?_) (fun h2 => ?_))
    · rw [List.all_cons, show inB 0 1 x = true from decide_eq_true (by omega), Bool.true_and]
      exact ih'
    · rw [List.all_cons, show inB 0 1 x = true from decide_eq_true (by omega), Bool.true_and]
      exact ih'
    · rw [List.all_cons, show inB 0 1 x = false from decide_eq_false (by omega), Bool.false_and]
      exact Ev.now _
theorem impl_areBits_ev (l : List Int) (hl : l.length ≤ 9223372036854775807) : Ev (fun k => impl_areBits.f k l) (l.all (inB 0 1)) := by
  unfold impl_areBits.f
  exact impl_areBits_l0 l hl l [] 0 rfl rfl

/-! #### impl_IsTable -/
theorem impl_IsTable_ev (n : Int) (l : List Int) (hl : l.length ≤ 9223372036854775807) : Ev (fun k => impl_IsTable.f k n l) (tableM n l) := by
  unfold impl_IsTable.f tableM
  refine ev_ite (fun h1 => ev_ite (fun h2 => ?_) (fun h2 => ?_)) (fun h1 => ?_)
  · obtain ⟨a, rfl⟩ := nat_of h1
    rw [shl1 a (by omega)]
    refine ev_p (by omega) (ev_ite (fun h3 => ?_) (fun h3 => ?_))
    · have h4 : l.length = 2 ^ a := by exact_mod_cast h3
      rw [decide_eq_true ⟨h1, h2, by simpa using h4⟩, Bool.true_and]
      exact Ev.bind (impl_areBits_ev l hl) (Ev.now _)
    · rw [decide_eq_false (fun hh => h3 (by have := hh.2.2; simp only [Int.toNat_natCast] at this; exact_mod_cast this)), Bool.false_and]
      exact Ev.now _
  · rw [decide_eq_false (fun hh => h2 hh.2.1), Bool.false_and]
    exact Ev.now _
  · rw [decide_eq_false (fun hh => h1 hh.1), Bool.false_and]
    exact Ev.now _

/-! #### impl_SeparateOnes -/
theorem pick_in (cur best m : List Int) (x : Int) (h : cur.length ≤ best.length) : pickM (cur ++ [x]) (impl_SeparateOnes.long (cur ++ [x]) best) m = pickM cur best (x :: m) := by
  unfold pickM impl_SeparateOnes.long
  simp only [List.length_append, List.length_cons, List.length_nil, List.append_assoc, List.singleton_append]
  by_cases c : best.length < cur.length + (0 + 1)
  · rw [if_pos c, if_pos (show best.length < cur.length + (m.length + 1) by omega)]
    by_cases c2 : 0 < m.length
    · rw [if_pos (by simp; omega)]
    · have : m = [] := List.length_eq_zero_iff.1 (by omega)
      subst this
      simp
  · rw [if_neg c]
    by_cases c2 : best.length < cur.length + (m.length + 1)
    · rw [if_pos c2, if_pos (by omega)]
    · rw [if_neg c2, if_neg (by omega)]
theorem impl_SeparateOnes_l (ps : List S69) (hpl : ps.length ≤ 1048576) (l : List Int) (hl16 : l.length ≤ 16) (hg : ∀ p ∈ ps, goodP l p) (d : Nat) : ∀ (i : Nat) (cur best : List Int), i + d = l.length → cur.length ≤ i → best.length ≤ 16 → cur.length ≤ best.length → (∀ y ∈ cur, 0 ≤ y ∧ y < 16) →
    Ev (fun k => impl_SeparateOnes.l k ps l cur best i) (pickM cur best (apartM ps (onesF l i d) cur)) := by
  induction d with
  | zero =>
    intro i cur best hi hci hb hcb hc
    apply ev_up
    simp only [impl_SeparateOnes.l]
    refine ev_n (by omega) (ev_eq (Ev.now _) ?_)
    simp only [onesF, apartM, pickM, List.length_nil]
    rw [if_neg (by omega)]
  | succ d ih =>
    intro i cur best hi hci hb hcb hc
    have hal := apartM_length ps (onesF l i (d + 1)) cur
    have hol := onesF_length l (d + 1) i
    apply ev_up
    simp only [impl_SeparateOnes.l]
    refine ev_p (by omega) (ev_p (by omega) ?_)
    rw [wN (n := (cur.length : Int) + (l.length : Int)) (m := cur.length + l.length) (by omega) (by omega), wN (n := ((cur.length + l.length : Nat) : Int) - (i : Int)) (m := cur.length + l.length - i) (by omega) (by omega), wN (n := (i : Int) + 1) (m := i + 1) (by omega) (by omega)]
    refine ev_ite (fun c => ev_eq (Ev.now _) ?_) (fun c => ?_)
    · unfold pickM
      rw [if_neg (by omega)]
    · have rest : ∀ best' : List Int, best'.length ≤ 16 → cur.length ≤ best'.length → Ev (fun k => impl_SeparateOnes.l k ps l cur best' ((i + 1 : Nat) : Int)) (pickM cur best' (apartM ps (onesF l (i + 1) d) cur)) := fun best' h1 h2 => ih (i + 1) cur best' (by omega) (by omega) h1 h2 hc
      by_cases c1 : rd l (i : Int) = 1
      · have eo : onesF l i (d + 1) = (i : Int) :: onesF l (i + 1) d := by rw [onesF, if_pos c1]; rfl
        rw [eo]
        refine Ev.bind (ev_p c1 (impl_isSeparate_ev l ps hg hpl cur hc (by omega) i (by omega))) ?_
        by_cases c2 : barB ps cur (i : Int) = true
        · rw [c2]
          refine ev_n (by decide) (ev_eq (rest best hb hcb) ?_)
          rw [apartM, if_pos c2]
        · have c2' : barB ps cur (i : Int) = false := by simpa using c2
          rw [c2']
          refine ev_p rfl (ev_p (by omega) ?_)
          have h1 := ih (i + 1) (cur ++ [(i : Int)]) (impl_SeparateOnes.long (cur ++ [(i : Int)]) best) (by omega) (by simp; omega) (by unfold impl_SeparateOnes.long; split; (simp; omega); omega) (by unfold impl_SeparateOnes.long; split; (exact Nat.le_refl _); (rename_i hh; simp at hh ⊢; omega)) (fun y hy => by
            rw [List.mem_append, List.mem_singleton] at hy
            rcases hy with hy | hy
            · exact hc y hy
            · omega)
          rw [pick_in _ _ _ _ hcb] at h1
          have ha1 := apartM_length ps (onesF l (i + 1) d) (cur ++ [(i : Int)])
          have ho1 := onesF_length l d (i + 1)
          have hp1 : (pickM cur best ((i : Int) :: apartM ps (onesF l (i + 1) d) (cur ++ [(i : Int)]))).length ≤ 16 ∧ cur.length ≤ (pickM cur best ((i : Int) :: apartM ps (onesF l (i + 1) d) (cur ++ [(i : Int)]))).length := by
            unfold pickM
            split
            · simp; omega
            · omega
          refine Ev.bind h1 (ev_p (by omega) (ev_eq (rest _ hp1.1 hp1.2) ?_))
          rw [pick_two, apartM, if_neg c2, List.length_cons]
      · have eo : onesF l i (d + 1) = onesF l (i + 1) d := by rw [onesF, if_neg c1]; rfl
        rw [eo]
        refine Ev.bind (ev_n c1 (ev_c rfl)) (ev_n (by decide) (rest best hb hcb))

/-! #### separateOnes -/
def separateOnesM (n : Int) (l : List Int) : List Int × Bool := if tableM n l = true then (apartM (masksM l n.toNat 0 (2 ^ n.toNat)) (onesF l 0 (2 ^ n.toNat)) [], true) else ([], false)
theorem separateOnesM_length (n : Int) (l : List Int) : (separateOnesM n l).1.length ≤ 16 := by
  unfold separateOnesM
  split
  · rename_i h
    obtain ⟨a, rfl, ha, hla, hl16, _⟩ := tableM_of h
    have h1 := apartM_length (masksM l a 0 (2 ^ a)) (onesF l 0 (2 ^ a)) []
    have h2 := onesF_length l (2 ^ a) 0
    simp only [Int.toNat_natCast]
    omega
  · simp
theorem spec_SeparateOnes_ev (n : Int) (l : List Int) (hl : l.length ≤ 9223372036854775807) : Ev (fun k => spec_SeparateOnes.f k n l) (separateOnesM n l) := by
  unfold spec_SeparateOnes.f separateOnesM
  refine Ev.bind (spec_ttGood_ev n l hl) (ev_ite (fun h => ?_) (fun h => ?_))
  · rw [if_pos h]
    obtain ⟨a, rfl, ha, hla, hl16, _⟩ := tableM_of h
    rw [Int.toNat_natCast]
    obtain ⟨h1, h2⟩ := primes_facts ha l
    refine ev_p (by omega) (ev_p (by omega) (Ev.bind (spec_nfPrimes_ev a l ha hla hl16) ?_))
    have hc : Ev (fun k => spec_nfCovers.f k a l (masksM l a 0 (2 ^ a))) ((masksM l a 0 (2 ^ a)).map (fun q => (covN a q : Int))) := by
      unfold spec_nfCovers.f
      exact spec_nfCovers_l0 a ha l _ (by omega) h2 _ [] 0 rfl rfl
    refine Ev.bind hc ?_
    rw [Int.toNat_natCast, hla, rmap_const]
    exact spec_SeparateOnes_l0 a ha l hla (masksM l a 0 (2 ^ a)) (by omega) _ [] 0 rfl rfl
  · rw [if_neg h]
    exact Ev.now _
theorem impl_SeparateOnes_ev (n : Int) (l : List Int) (hl : l.length ≤ 9223372036854775807) : Ev (fun k => impl_SeparateOnes.f k n l) (separateOnesM n l) := by
  unfold impl_SeparateOnes.f separateOnesM
  refine Ev.bind (impl_IsTable_ev n l hl) (ev_ite (fun h => ?_) (fun h => ?_))
  · rw [if_pos h]
    obtain ⟨a, rfl, ha, hla, hl16, hbits⟩ := tableM_of h
    rw [Int.toNat_natCast]
    obtain ⟨h1, h2⟩ := primes_facts ha l
    refine Ev.bind (impl_primesOf_ev a l ha hla hl16) ?_
    have hA := impl_SeparateOnes_l (masksM l a 0 (2 ^ a)) (by omega) l hl16 h2 (2 ^ a) 0 [] [] (by omega) (by simp) (by simp) (by simp) (by simp)
    refine Ev.bind hA (ev_eq (Ev.now _) ?_)
    rw [pickM_nil]
    by_cases c4 : 0 < (apartM (masksM l a 0 (2 ^ a)) (onesF l 0 (2 ^ a)) []).length
    · rw [if_pos (by simpa using c4)]
    · rw [if_neg (by simpa using c4)]
      rw [List.length_eq_zero_iff.1 (show (apartM (masksM l a 0 (2 ^ a)) (onesF l 0 (2 ^ a)) []).length = 0 by omega)]
  · rw [if_neg h]
    exact Ev.now _

/-! #### szIntS -/
theorem szIntS_eq (l : List Int) (a : Int) (ha : 0 ≤ a) (ha2 : a ≤ 1048576) (hl : l.length ≤ 9223372036854775807) : laws_szIntS.f l a = some (if l.length ≤ a then a - l.length else -1) := by
  unfold laws_szIntS.f
  rw [w64 (by omega) (by omega)]
  by_cases h : (l.length : Int) ≤ a
  · rw [if_neg (by omega), if_pos h]
  · rw [if_pos (by omega), if_neg h]

/-! #### szTable -/
theorem szTable_eq (n : Int) (l : List Int) (hl : l.length ≤ 9223372036854775807) : laws_szTable.f n l 1048576 = some (if (l.length : Int) ≤ 1048576 then (1048576 : Int) - l.length else -1) := by
  unfold laws_szTable.f
  rw [szIntS_eq l 1048576 (by omega) (by omega) hl, Option.bind_some]
  by_cases h : (l.length : Int) ≤ 1048576
  · rw [if_pos h, if_neg (by omega)]
  · rw [if_neg h, if_pos (by decide)]

/-! #### toIntS -/
theorem toIntS_l0 (r : List Int) : ∀ (p z : List Int) (i : Int), i = p.length → z.length = r.length → p.length + r.length ≤ 9223372036854775806 →
    Ev (fun k => laws_toIntS.l0 k (p ++ r) (p ++ z) i) (p ++ r) := by
  induction r with
  | nil =>
    intro p z i hi hz hb
    obtain rfl : z = [] := List.length_eq_zero_iff.1 hz
    apply ev_up
    simp only [laws_toIntS.l0]
    refine ev_n (by simp; omega) ?_
    exact Ev.now _
  | cons x r ih =>
    intro p z i hi hz hb
    match z, hz with
    | y :: z, hz =>
      simp only [List.length_cons] at hz hb
      apply ev_up
      simp only [laws_toIntS.l0]
      refine ev_p (by simp; omega) (ev_p (by omega) (ev_p (by simp; omega) ?_))
      rw [rdA hi, setA hi, w64 (by omega) (by omega), appA]
      exact ih (p ++ [x]) z (i + 1) (by simp; omega) (by omega) (by simp; omega)
theorem toIntS_ev (a : List Int) (h : a.length ≤ 35184372088832) : Ev (fun k => laws_toIntS.f k a) a := by
  unfold laws_toIntS.f
  refine ev_p (by omega) (ev_p (by omega) ?_)
  exact toIntS_l0 a [] (List.replicate ((a.length : Int)).toNat 0) 0 rfl (by simp) (by simp; omega)
/-! #### toTable -/
theorem toTable_ev (n : Int) (l : List Int) (hl : l.length ≤ 1048576) : Ev (fun k => laws_toTable.f k n l) (n, l) := by
  unfold laws_toTable.f
  exact Ev.bind (toIntS_ev l (by omega)) (Ev.now _)

/-! #### eqIntS -/
theorem eqIntS_l0 (r : List Int) : ∀ (s p q : List Int) (i : Int), i = p.length → p.length = q.length → r.length = s.length → p.length + r.length ≤ 9223372036854775807 →
    Ev (fun k => laws_eqIntS.l0 k (p ++ r) (q ++ s) i) (decide (r = s)) := by
  induction r with
  | nil =>
    intro s p q i hi hpq hrs hb
    obtain rfl : s = [] := List.length_eq_zero_iff.1 hrs.symm
    apply ev_up
    simp only [laws_eqIntS.l0]
    refine ev_n (by simp; omega) ?_
    simpa using Ev.now true
  | cons x r ih =>
    intro s p q i hi hpq hrs hb
    match s, hrs with
    | y :: s, hrs =>
      simp only [List.length_cons] at hrs hb
      apply ev_up
      simp only [laws_eqIntS.l0]
      refine ev_p (by simp; omega) (ev_p (by omega) (ev_p (by simp; omega) ?_))
      rw [rdA hi, rdA (by omega)]
      refine ev_ite (fun hxy => ?_) (fun hxy => ?_)
      · subst hxy
        rw [w64 (by omega) (by omega), appA, appA (p := q)]
        refine ev_eq (ih s (p ++ [x]) (q ++ [x]) (i + 1) (by simp; omega) (by simp; omega) (by omega) (by simp; omega)) ?_
        simp
      · refine ev_eq (Ev.now false) ?_
        simp [hxy]
theorem eqIntS_ev (a b : List Int) (h : a.length ≤ 9223372036854775807) : Ev (fun k => laws_eqIntS.f k a b) (decide (a = b)) := by
  unfold laws_eqIntS.f
  refine ev_ite (fun hl => ?_) (fun hl => ?_)
  · exact eqIntS_l0 a b [] [] 0 rfl rfl (by omega) (by simpa using h)
  · refine ev_eq (Ev.now false) ?_
    symm
    apply decide_eq_false
    rintro rfl
    exact hl rfl

/-! #### eqTable -/
theorem eqTable_same (n : Int) (l : List Int) (hl : l.length ≤ 1048576) : Ev (fun k => laws_eqTable.f k n l n l) true := by
  unfold laws_eqTable.f
  have heq : Ev (fun k => laws_eqIntS.f k l l) true := by simpa using eqIntS_ev l l (by omega)
  exact ev_p rfl (Ev.bind heq (ev_p rfl (Ev.now _)))

/-! #### lenPre -/
theorem len_pre {n : Nat} (h : ¬ (if (n : Int) ≤ 1048576 then (1048576 : Int) - n else -1) < 0) : n ≤ 1048576 := by
  by_cases h2 : (n : Int) ≤ 1048576
  · omega
  · rw [if_neg h2] at h
    exact absurd (by decide) h

/-! #### markIntS -/
theorem markIntS_l0 (r : List Int) : ∀ (p : List Int) (s i : Int), i = p.length → p.length + r.length ≤ 9223372036854775807 → 0 ≤ s → s + r.length ≤ 9223372036854775807 →
    Ev (fun k => laws_markIntS.l0 k (p ++ r) s i) (s + r.length, p ++ seqFrom s r.length) := by
  induction r with
  | nil =>
    intro p s i hi hb h0 hs
    apply ev_up
    simp only [laws_markIntS.l0]
    refine ev_n (by simp; omega) ?_
    simpa [seqFrom] using Ev.now (s, p)
  | cons x r ih =>
    intro p s i hi hb h0 hs
    simp only [List.length_cons, Int.natCast_add] at hb hs
    apply ev_up
    simp only [laws_markIntS.l0]
    refine ev_p (by simp; omega) (ev_p (by omega) ?_)
    rw [setA hi, w64 (by omega) (by omega), w64 (by omega) (by omega)]
    refine ev_eq (ih (p ++ [s]) (s + 1) (i + 1) (by simp; omega) (by simp; omega) (by omega) (by omega)) ?_
    simp [seqFrom]
    omega
theorem markIntS_ev (a : List Int) (s : Int) (h0 : 0 ≤ s) (h : a.length + s ≤ 9223372036854775807) : Ev (fun k => laws_markIntS.f k a s) (s + a.length, seqFrom s a.length) := by
  unfold laws_markIntS.f
  exact markIntS_l0 a [] s 0 rfl (by simp; omega) h0 (by omega)

/-! #### heldIntS -/
theorem heldIntS_l0 (n : Nat) : ∀ (p : List Int) (s i : Int), i = p.length → p.length + n ≤ 9223372036854775807 → 0 ≤ s → s + n ≤ 9223372036854775807 →
    Ev (fun k => laws_heldIntS.l0 k (p ++ seqFrom s n) s i) (s + n) := by
  induction n with
  | zero =>
    intro p s i hi hb h0 hs
    apply ev_up
    simp only [laws_heldIntS.l0]
    refine ev_n (by simp [seqFrom]; omega) ?_
    simpa [seqFrom] using Ev.now s
  | succ n ih =>
    intro p s i hi hb h0 hs
    apply ev_up
    simp only [laws_heldIntS.l0]
    have hl := seqFrom_length s (n + 1)
    refine ev_p (by simp [hl]; omega) (ev_p (by omega) ?_)
    refine ev_p (by simp only [seqFrom]; exact rdA hi) ?_
    simp only [seqFrom]
    rw [appA, w64 (by omega) (by omega), w64 (by omega) (by omega)]
    refine ev_eq (ih (p ++ [s]) (s + 1) (i + 1) (by simp; omega) (by simp; omega) (by omega) (by omega)) ?_
    omega
theorem heldIntS_ev (n : Nat) (s : Int) (h0 : 0 ≤ s) (h : n + s ≤ 9223372036854775807) : Ev (fun k => laws_heldIntS.f k (seqFrom s n) s) (s + n) := by
  unfold laws_heldIntS.f
  exact heldIntS_l0 n [] s 0 rfl (by simp; omega) h0 (by omega)

/-! #### markTable1 -/
theorem markTable_ev (n : Int) (l : List Int) (h : l.length ≤ 1048576) : Ev (fun k => laws_markTable.f k n l 1) (1 + l.length, seqFrom 1 l.length) := by
  unfold laws_markTable.f
  exact Ev.bind (markIntS_ev l 1 (by omega) (by omega)) (Ev.now _)

/-! #### FnExactSeparateOnes -/
theorem FnExactSeparateOnes (a0_0 : Int) (l0_1 : (List Int)) : I64 a0_0 → (l0_1.length ≤ 9223372036854775807 ∧ ∀ y2 ∈ l0_1, I64 y2) → ∃ k, laws_FnExactSeparateOnes.f k a0_0 l0_1 = some true := by
  rintro _ ⟨hl, _⟩
  apply ev_get
  unfold laws_FnExactSeparateOnes.f
  rw [szTable_eq a0_0 l0_1 hl]
  refine Ev.bind (ev_c rfl) (ev_ite (fun _ => Ev.now _) (fun h => ?_))
  have hl2 := len_pre h
  have hto := toTable_ev a0_0 l0_1 hl2
  have heq := eqTable_same a0_0 l0_1 hl2
  have hs := spec_SeparateOnes_ev a0_0 l0_1 hl
  have hi := impl_SeparateOnes_ev a0_0 l0_1 hl
  have hR := separateOnesM_length a0_0 l0_1
  generalize separateOnesM a0_0 l0_1 = R at hs hi hR
  have heqR : Ev (fun k => laws_eqIntS.f k R.1 R.1) true := by simpa using eqIntS_ev R.1 R.1 (by omega)
  have hmark := markIntS_ev R.1 1 (by omega) (by omega)
  have hheld := heldIntS_ev R.1.length 1 (by omega) (by omega)
  have hmt := markTable_ev a0_0 l0_1 hl2
  repeat (first
    | (with_reducible exact Ev.now _)
    | (with_reducible refine Ev.bind hto ?_)
    | (with_reducible refine Ev.bind hs ?_)
    | (with_reducible refine Ev.bind hi ?_)
    | (with_reducible refine Ev.bind heq ?_)
    | (with_reducible refine Ev.bind heqR ?_)
    | (with_reducible refine Ev.bind hmark ?_)
    | (with_reducible refine Ev.bind hheld ?_)
    | (with_reducible refine Ev.bind hmt ?_)
    | (with_reducible refine ev_p rfl ?_)
    | (with_reducible refine ev_p True.intro ?_)
    | (refine ev_n ?h ?_; case h => (first | omega | (simp; done) | (simp; omega)))
    | (with_reducible refine ev_up (g := fun n => laws_FnExactSeparateOnes.j0 n _ _ _ _ _ _ _ _ _) ?_; simp only [laws_FnExactSeparateOnes.j0, bne_self_eq_false])
    | (with_reducible refine ev_up (g := fun n => laws_FnExactSeparateOnes.j1 n _ _ _ _ _ _) ?_; simp only [laws_FnExactSeparateOnes.j1, bne_self_eq_false])
    | (with_reducible refine ev_up (g := fun n => laws_FnExactSeparateOnes.j2 n _ _ _) ?_; simp only [laws_FnExactSeparateOnes.j2, bne_self_eq_false]))

end Go.Proofs.Ytfpjnomiifagkaa.Pure
