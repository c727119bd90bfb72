/- The pure part of the law FnExactLeastSum: what the program and the reference compute is the same, for all arguments. Conditions: the numbers are of Go's int, the lengths of slices are. -/
import Derived.Test.YtnldkpljchkkbaaQFnExactLeastSumx10
import Derived.Test.YtnldkpljchkkbaaKit
set_option linter.unusedVariables false
set_option linter.unusedSimpArgs false
namespace Go.Proofs.Ytnldkpljchkkbaa.Pure
open Go.RowKit Go.Proofs.Ytnldkpljchkkbaa.QFnExactLeastSum Go.Proofs.YtnldkpljchkkbaaW.PrintWords Go.Proofs.YtnldkpljchkkbaaW.PrintLast Go.Proofs.Ytnldkpljchkkbaa.Open Go.Proofs.Ytnldkpljchkkbaa.Kit

/-! #### solsM -/
/-- All rising lists of t places, from i on, whose sets together hold all of left. -/
def solsM : List Nat → Nat → Nat → Nat → List (List Nat)
  | _, _, 0, left => if left = 0 then [[]] else []
  | [], _, _ + 1, _ => []
  | c :: cs, i, t + 1, left => (solsM cs (i + 1) t (left ^^^ (left &&& c))).map (i :: ·) ++ solsM cs (i + 1) (t + 1) left
/-- The ways to choose. -/
def chooseM : Nat → Nat → Nat
  | _, 0 => 1
  | 0, _ + 1 => 0
  | n + 1, t + 1 => chooseM n t + chooseM n (t + 1)
theorem sols_length (cs : List Nat) : ∀ i t left, (solsM cs i t left).length ≤ chooseM cs.length t := by
  induction cs with
  | nil =>
    intro i t left
    cases t with
    | zero => unfold solsM chooseM; split <;> simp
    | succ t => simp [solsM]
  | cons c cs ih =>
    intro i t left
    cases t with
    | zero => unfold solsM chooseM; split <;> simp
    | succ t =>
      have h1 := ih (i + 1) t (left ^^^ (left &&& c))
      have h2 := ih (i + 1) (t + 1) left
      rw [solsM, List.length_append, List.length_map, List.length_cons, chooseM]
      omega
theorem choose_step (n t : Nat) : chooseM n t ≤ chooseM (n + 1) t := by
  cases t with
  | zero => cases n <;> simp [chooseM]
  | succ t => rw [chooseM.eq_def (n + 1)]; simp only []; omega
theorem choose_mono {n m : Nat} (t : Nat) (h : n ≤ m) : chooseM n t ≤ chooseM m t := by
  induction h with
  | refl => exact Nat.le_refl _
  | step _ ih => exact Nat.le_trans ih (choose_step _ t)
def rowM : Nat → List Nat
  | 0 => [1]
  | n + 1 => List.zipWith (· + ·) (0 :: rowM n) (rowM n ++ [0])
theorem rowM_length (n : Nat) : (rowM n).length = n + 1 := by
  induction n with
  | zero => rfl
  | succ n ih => simp [rowM, ih]
theorem rowM_get (n : Nat) : ∀ t, (rowM n).getD t 0 = chooseM n t := by
  induction n with
  | zero => intro t; cases t with
    | zero => rfl
    | succ t => simp [rowM, chooseM]
  | succ n ih =>
    intro t
    have hl := rowM_length n
    rw [rowM, List.getD_eq_getElem?_getD, List.getElem?_zipWith]
    cases t with
    | zero =>
      have h0 := ih 0
      rw [List.getD_eq_getElem?_getD] at h0
      cases hr : rowM n with
      | nil => rw [hr] at hl; simp at hl
      | cons x r =>
        rw [hr] at h0
        simp at h0
        simp [h0, chooseM]
        try (cases n <;> simp [chooseM])
    | succ t =>
      have h0 := ih t
      have h1 := ih (t + 1)
      rw [List.getD_eq_getElem?_getD] at h0 h1
      rw [List.getElem?_cons_succ, chooseM, ← h0, ← h1]
      rcases Nat.lt_or_ge t (n + 1) with h | h
      · rw [List.getElem?_eq_getElem (by omega)]
        rcases Nat.lt_or_ge (t + 1) (n + 1) with h' | h'
        · rw [List.getElem?_append_left (by omega), List.getElem?_eq_getElem (by omega)]
          simp
        · rw [List.getElem?_append_right (by omega), List.getElem?_eq_none (l := rowM n) (by omega), show t + 1 - (rowM n).length = 0 by omega]
          simp
      · rw [List.getElem?_eq_none (by omega), List.getElem?_eq_none (l := rowM n) (i := t + 1) (by omega)]
        simp
theorem choose_small {n t : Nat} (hn : n ≤ 81) (ht : t ≤ 16) : chooseM n t ≤ 100000000000000000 := by
  refine Nat.le_trans (choose_mono t hn) ?_
  rw [← rowM_get 81 t]
  have : ∀ t : Fin 17, (rowM 81).getD t.1 0 ≤ 100000000000000000 := by decide +kernel
  exact this ⟨t, by omega⟩
theorem sols_few (cs : List Nat) : ∀ i t left, cs.length < t → solsM cs i t left = [] := by
  induction cs with
  | nil =>
    intro i t left h
    cases t with
    | zero => simp at h
    | succ t => rfl
  | cons c cs ih =>
    intro i t left h
    cases t with
    | zero => simp at h
    | succ t =>
      simp only [List.length_cons] at h
      rw [solsM, ih (i + 1) t _ (by omega), ih (i + 1) (t + 1) _ (by omega)]
      rfl
/-- All sets together. -/
def unionM (cs : List Nat) : Nat := cs.foldr (· ||| ·) 0
theorem andNot_bit (a b x : Nat) : (a ^^^ (a &&& b)).testBit x = (a.testBit x && !b.testBit x) := by
  rw [Nat.testBit_xor, Nat.testBit_and]
  cases a.testBit x <;> cases b.testBit x <;> rfl
theorem andNot_andNot (a b c : Nat) : (a ^^^ (a &&& b)) ^^^ ((a ^^^ (a &&& b)) &&& c) = a ^^^ (a &&& (b ||| c)) := by
  apply Nat.eq_of_testBit_eq
  intro x
  rw [andNot_bit, andNot_bit, andNot_bit, Nat.testBit_or]
  cases a.testBit x <;> cases b.testBit x <;> cases c.testBit x <;> rfl
theorem sols_union (cs : List Nat) : ∀ i t left, ¬ left ^^^ (left &&& unionM cs) = 0 → solsM cs i t left = [] := by
  induction cs with
  | nil =>
    intro i t left h
    have : left ≠ 0 := fun hh => h (by rw [hh]; rfl)
    cases t with
    | zero => rw [solsM, if_neg this]
    | succ t => rfl
  | cons c cs ih =>
    intro i t left h
    have e : unionM (c :: cs) = c ||| unionM cs := rfl
    cases t with
    | zero =>
      have : left ≠ 0 := fun hh => h (by rw [hh]; simp)
      rw [solsM, if_neg this]
    | succ t =>
      rw [solsM, ih (i + 1) t _ (fun hh => h (by rw [e, ← andNot_andNot]; exact hh)), ih (i + 1) (t + 1) left (fun hh => h ?_)]
      · rfl
      · apply Nat.eq_of_testBit_eq
        intro x
        have h2 := congrArg (fun n => n.testBit x) hh
        simp only [andNot_bit, Nat.zero_testBit] at h2
        rw [andNot_bit, e, Nat.testBit_or, Nat.zero_testBit]
        revert h2
        cases left.testBit x <;> cases c.testBit x <;> cases (unionM cs).testBit x <;> simp
/-- A choice of places that holds all of left is among them. -/
theorem sols_some (cs : List Nat) : ∀ (i left : Nat) (pick : Nat → Bool), (∀ x, left.testBit x = true → ∃ j c, cs[j]? = some c ∧ pick (i + j) = true ∧ c.testBit x = true) → solsM cs i ((List.range cs.length).countP (fun j => pick (i + j))) left ≠ [] := by
  induction cs with
  | nil =>
    intro i left pick h
    have : left = 0 := by
      apply Nat.eq_of_testBit_eq
      intro x
      rw [Nat.zero_testBit]
      cases hb : left.testBit x with
      | false => rfl
      | true =>
        obtain ⟨j, c, hj, _⟩ := h x hb
        simp at hj
    simp [solsM, this]
  | cons c cs ih =>
    intro i left pick h
    have hr : (List.range (c :: cs).length).countP (fun j => pick (i + j)) = (if pick i = true then 1 else 0) + (List.range cs.length).countP (fun j => pick (i + 1 + j)) := by
      rw [List.length_cons, List.range_succ_eq_map, List.countP_cons, List.countP_map]
      have : ((fun j => pick (i + j)) ∘ Nat.succ) = fun j => pick (i + 1 + j) := by
        funext j
        show pick (i + (j + 1)) = _
        congr 1
        omega
      rw [this]
      simp only [Nat.add_zero]
      omega
    rw [hr]
    by_cases hp : pick i = true
    · rw [if_pos hp, Nat.add_comm 1, solsM]
      have := ih (i + 1) (left ^^^ (left &&& c)) pick (fun x hx => by
        rw [andNot_bit, Bool.and_eq_true] at hx
        obtain ⟨j, c', hj, h1, h2⟩ := h x hx.1
        cases j with
        | zero =>
          have e : c = c' := by simpa using hj
          subst e
          rw [h2] at hx
          simp at hx
        | succ j => exact ⟨j, c', by simpa using hj, by rw [show i + 1 + j = i + (j + 1) by omega]; exact h1, h2⟩)
      intro hh
      rw [List.append_eq_nil_iff, List.map_eq_nil_iff] at hh
      exact this hh.1
    · rw [if_neg hp, Nat.zero_add]
      have hne := ih (i + 1) left pick (fun x hx => by
        obtain ⟨j, c', hj, h1, h2⟩ := h x hx
        cases j with
        | zero => exact absurd h1 hp
        | succ j => exact ⟨j, c', by simpa using hj, by rw [show i + 1 + j = i + (j + 1) by omega]; exact h1, h2⟩)
      generalize (List.range cs.length).countP (fun j => pick (i + 1 + j)) = t at hne ⊢
      cases t with
      | zero =>
        rw [solsM] at hne ⊢
        exact hne
      | succ t =>
        rw [solsM]
        intro hh
        rw [List.append_eq_nil_iff] at hh
        exact hne hh.2

/-! #### solsM2 -/
theorem sols_len (cs : List Nat) : ∀ i t left, ∀ s ∈ solsM cs i t left, s.length = t ∧ ∀ y ∈ s, i ≤ y ∧ y < i + cs.length := by
  induction cs with
  | nil =>
    intro i t left s hs
    cases t with
    | zero =>
      rw [solsM] at hs
      split at hs
      · rw [List.mem_singleton] at hs
        subst hs
        simp
      · simp at hs
    | succ t => simp [solsM] at hs
  | cons c cs ih =>
    intro i t left s hs
    cases t with
    | zero =>
      rw [solsM] at hs
      split at hs
      · rw [List.mem_singleton] at hs
        subst hs
        simp
      · simp at hs
    | succ t =>
      rw [solsM, List.mem_append, List.mem_map] at hs
      rcases hs with ⟨s', hs', rfl⟩ | hs
      · obtain ⟨h1, h2⟩ := ih (i + 1) t _ s' hs'
        refine ⟨by simp [h1], fun y hy => ?_⟩
        simp only [List.mem_cons, List.length_cons] at hy ⊢
        rcases hy with rfl | hy
        · omega
        · have := h2 y hy
          omega
      · obtain ⟨h1, h2⟩ := ih (i + 1) (t + 1) left s hs
        refine ⟨h1, fun y hy => ?_⟩
        have := h2 y hy
        simp only [List.length_cons]
        omega
def headM (S : List (List Nat)) : List Nat := S.headD []
/-- What a loop has found, put together with what it still finds. -/
def combM {α : Type} (f : List Nat → List α) (st : List α × Int) (S : List (List Nat)) : List α × Int := (if st.2 = 0 ∧ S ≠ [] then f (headM S) else st.1, st.2 + S.length)
theorem comb_nil {α : Type} (f : List Nat → List α) (st : List α × Int) : combM f st [] = st := by
  unfold combM
  simp
theorem comb_append {α : Type} (f : List Nat → List α) (st : List α × Int) (h : 0 ≤ st.2) (S T : List (List Nat)) : combM f (combM f st S) T = combM f st (S ++ T) := by
  cases S with
  | nil => rw [comb_nil]; rfl
  | cons s S =>
    unfold combM
    simp only [List.length_cons, List.cons_append, List.length_append]
    have h1 : ¬ (st.2 + ((S.length + 1 : Nat) : Int) = 0 ∧ T ≠ []) := fun hh => by have := hh.1; omega
    rw [if_neg h1]
    ext1
    · by_cases c : st.2 = 0
      · rw [if_pos ⟨c, by simp⟩, if_pos ⟨c, by simp⟩]
        rfl
      · rw [if_neg (fun hh => c hh.1), if_neg (fun hh => c hh.1)]
    · simp only []
      omega
theorem comb_map {α : Type} (f : List Nat → List α) (g : List Nat → List Nat) (st : List α × Int) (S : List (List Nat)) : combM f st (S.map g) = combM (fun s => f (g s)) st S := by
  cases S with
  | nil => rw [List.map_nil, comb_nil, comb_nil]
  | cons s S => unfold combM; simp [headM]

/-! #### idxN -/
/-- The indices that a term covers, from i on. -/
def idxM (N m v : Nat) : Nat → List Int
  | 0 => []
  | d + 1 => (if (N - (d + 1)) &&& m = v then [((N - (d + 1) : Nat) : Int)] else []) ++ idxM N m v d
theorem idxM_length (N m v d : Nat) : (idxM N m v d).length ≤ d := by
  induction d with
  | zero => simp [idxM]
  | succ d ih => unfold idxM; split <;> simp <;> omega
theorem idxM_mem {N m v d : Nat} {x : Int} (hd : d ≤ N) (h : x ∈ idxM N m v d) : ∃ j : Nat, x = j ∧ N - d ≤ j ∧ j < N ∧ j &&& m = v := by
  induction d with
  | zero => simp [idxM] at h
  | succ d ih =>
    unfold idxM at h
    rw [List.mem_append] at h
    rcases h with h | h
    · split at h
      · rename_i hc
        simp only [List.mem_singleton] at h
        exact ⟨N - (d + 1), h, by omega, by omega, hc⟩
      · simp at h
    · obtain ⟨j, h1, h2, h3, h4⟩ := ih (by omega) h
      exact ⟨j, h1, by omega, h3, h4⟩
theorem mem_idxM {N m v d j : Nat} (hd : d ≤ N) (h1 : N - d ≤ j) (h2 : j < N) (h3 : j &&& m = v) : (j : Int) ∈ idxM N m v d := by
  induction d with
  | zero => omega
  | succ d ih =>
    unfold idxM
    rw [List.mem_append]
    by_cases hj : j = N - (d + 1)
    · left
      rw [← hj, if_pos h3]
      simp
    · right
      exact ih (by omega) (by omega)

/-! #### impliesM -/
def nz (l : List Int) (j : Int) : Bool := decide (rd l j ≠ 0)
/-- Whether a term covers only indices with a value that is not 0. -/
def impliesM (l : List Int) (m v : Nat) : Bool := (idxM l.length m v l.length).all (nz l)

/-! #### termT -/
theorem rdTermA {p r : List S124} {x : S124} {i : Int} (hi : i = p.length) : rd_T124 (p ++ x :: r) i = x := getDA hi

/-! #### bitN -/
theorem bit_and1 (a n : Nat) (ha : a < 2 ^ 62) (hn : n ≤ 62) : Go.bits .and .i64 (shr .i64 (a : Int) (n : Int)) 1 = (((a >>> n) % 2 : Nat) : Int) := by
  rw [shrN a n hn]
  have h : a >>> n ≤ a := Nat.shiftRight_le a n
  have := andN (a >>> n) 1 (by omega) (by omega)
  rw [Nat.and_one_is_mod] at this
  exact this

/-! #### primesM -/
/-- The bit i taken away. -/
def clrB (m i : Nat) : Nat := m - (m &&& 2 ^ i)
theorem bits_d1 : ∀ m : Fin 16, ∀ i : Fin 4, (m.1 &&& 2 ^ i.1 ≠ 0 → (m.1 >>> i.1) % 2 = 1) ∧ ((m.1 >>> i.1) % 2 = 1 → ¬ m.1 &&& 2 ^ i.1 = 0) ∧ ((m.1 >>> i.1) % 2 = 1 → 2 ^ i.1 ≤ m.1 ∧ m.1 - 2 ^ i.1 = clrB m.1 i.1) ∧ clrB m.1 i.1 < 16 ∧ m.1 ^^^ (m.1 &&& 2 ^ i.1) = clrB m.1 i.1 ∧ (m.1 &&& 2 ^ i.1) ≤ m.1 := by decide
theorem bits_f (m v i : Nat) (hm : m < 16) (hv : v < 16) (hi : i < 4) : ((m &&& 2 ^ i ≠ 0 → (m >>> i) % 2 = 1) ∧ ((m >>> i) % 2 = 1 → ¬ m &&& 2 ^ i = 0)) ∧ ((m >>> i) % 2 = 1 → (2 ^ i ≤ m ∧ m - 2 ^ i = clrB m i) ∧ (clrB m i < 16 ∧ clrB v i < 16 ∧ (v &&& 2 ^ i) ≤ v) ∧ m ^^^ (m &&& 2 ^ i) = clrB m i ∧ v ^^^ (v &&& 2 ^ i) = clrB v i) := by
  have h := bits_d1 ⟨m, hm⟩ ⟨i, hi⟩
  have h' := bits_d1 ⟨v, hv⟩ ⟨i, hi⟩
  exact ⟨⟨h.1, h.2.1⟩, fun hh => ⟨h.2.2.1 hh, ⟨h.2.2.2.1, h'.2.2.2.1, h'.2.2.2.2.2⟩, h.2.2.2.2.1, h'.2.2.2.2.1⟩⟩
/-- No term with an input less, from input i on, implies the table. -/
def primeF (l : List Int) (m v : Nat) : Bool → Nat → Nat → Bool
  | fit, _, 0 => fit
  | fit, i, d + 1 => primeF l m v (if (m >>> i) % 2 = 1 ∧ impliesM l (clrB m i) (clrB v i) = true then false else fit) (i + 1) d
def valsM (l : List Int) (a m : Nat) : Nat → Nat → List S124
  | _, 0 => []
  | v, d + 1 => (if v &&& m = v ∧ impliesM l m v = true ∧ primeF l m v true 0 a = true then [⟨(m : Int), (v : Int)⟩] else []) ++ valsM l a m (v + 1) d
theorem valsM_length (l : List Int) (a m d : Nat) : ∀ v, (valsM l a m v d).length ≤ d := by
  induction d with
  | zero => intro v; simp [valsM]
  | succ d ih =>
    intro v
    have := ih (v + 1)
    rw [valsM]
    split <;> simp <;> omega
def masksM (l : List Int) (a : Nat) : Nat → Nat → List S124
  | _, 0 => []
  | m, d + 1 => valsM l a m 0 (m + 1) ++ masksM l a (m + 1) d
theorem masksM_length (l : List Int) (a : Nat) (N d : Nat) : ∀ m, m + d ≤ N → (masksM l a m d).length ≤ N * d := by
  induction d with
  | zero => intro m _; simp [masksM]
  | succ d ih =>
    intro m h
    have h1 := ih (m + 1) (by omega)
    have h2 := valsM_length l a m (m + 1) 0
    have h3 : N * (d + 1) = N * d + N := Nat.mul_succ N d
    rw [masksM, List.length_append]
    omega

/-! #### covE -/
def covE (p : S124) (x : Nat) : Bool := decide (x &&& p.f0.toNat = p.f1.toNat)
def goodP (l : List Int) (p : S124) : Prop := ∃ m v : Nat, m < 16 ∧ v < 16 ∧ p = ⟨(m : Int), (v : Int)⟩ ∧ impliesM l m v = true
theorem valsM_good (l : List Int) (a m : Nat) (hm : m < 16) (d : Nat) : ∀ v, v + d = m + 1 → ∀ p ∈ valsM l a m v d, goodP l p := by
  induction d with
  | zero => intro v _ p hp; simp [valsM] at hp
  | succ d ih =>
    intro v hv p hp
    rw [valsM, List.mem_append] at hp
    rcases hp with hp | hp
    · split at hp
      · rename_i h
        rw [List.mem_singleton] at hp
        exact ⟨m, v, hm, by omega, hp, h.2.1⟩
      · simp at hp
    · exact ih (v + 1) (by omega) p hp
theorem masksM_good (l : List Int) (a : Nat) (d : Nat) : ∀ m, m + d ≤ 16 → ∀ p ∈ masksM l a m d, goodP l p := by
  induction d with
  | zero => intro m _ p hp; simp [masksM] at hp
  | succ d ih =>
    intro m hm p hp
    rw [masksM, List.mem_append] at hp
    rcases hp with hp | hp
    · exact valsM_good l a m (by omega) (m + 1) 0 (by omega) p hp
    · exact ih (m + 1) (by omega) p hp
/-- Prime i alone covers x. -/
def aloneE (ps : List S124) (i x : Nat) : Prop := (∃ p, ps[i]? = some p ∧ covE p x = true) ∧ ∀ k q, k ≠ i → ps[k]? = some q → covE q x = false
/-- The primes that cover x. -/
def covL (x : Nat) : List S124 → Nat → List Int
  | [], _ => []
  | p :: r, j => (if covE p x = true then [(j : Int)] else []) ++ covL x r (j + 1)
theorem covL_length (x : Nat) (r : List S124) : ∀ j, (covL x r j).length ≤ r.length := by
  induction r with
  | nil => intro j; simp [covL]
  | cons p r ih =>
    intro j
    have := ih (j + 1)
    rw [covL]
    split <;> simp <;> omega
theorem covL_bound (x : Nat) (r : List S124) : ∀ j, ∀ y ∈ covL x r j, (j : Int) ≤ y ∧ y < j + r.length := by
  induction r with
  | nil => intro j y hy; simp [covL] at hy
  | cons p r ih =>
    intro j y hy
    rw [covL, List.mem_append] at hy
    simp only [List.length_cons]
    rcases hy with hy | hy
    · split at hy
      · rw [List.mem_singleton] at hy
        omega
      · simp at hy
    · have := ih (j + 1) y hy
      omega
theorem covL_nil (x : Nat) (r : List S124) : ∀ j, covL x r j = [] ↔ ∀ (k : Nat) (q : S124), r[k]? = some q → covE q x = false := by
  induction r with
  | nil => intro j; simp [covL]
  | cons p r ih =>
    intro j
    rw [covL, List.append_eq_nil_iff, ih (j + 1)]
    constructor
    · rintro ⟨h1, h2⟩ k q hq
      cases k with
      | zero =>
        have hq' : p = q := by simpa using hq
        subst hq'
        by_cases c : covE p x = true
        · rw [if_pos c] at h1; simp at h1
        · simpa using c
      | succ k => exact h2 k q (by simpa using hq)
    · intro h
      have h0 := h 0 p rfl
      refine ⟨by rw [h0]; rfl, fun k q hq => h (k + 1) q (by simpa using hq)⟩
theorem covL_one (x : Nat) (r : List S124) : ∀ j i : Nat, covL x r j = [(i : Int)] ↔ ∃ k, i = j + k ∧ aloneE r k x := by
  induction r with
  | nil =>
    intro j i
    rw [covL]
    constructor
    · intro h; simp at h
    · rintro ⟨k, _, ⟨p, hp, _⟩, _⟩
      simp at hp
  | cons p r ih =>
    intro j i
    rw [covL]
    by_cases c : covE p x = true
    · rw [if_pos c]
      constructor
      · intro h
        have h' : (j : Int) = i ∧ covL x r (j + 1) = [] := by simpa using h
        have hn := (covL_nil x r (j + 1)).1 h'.2
        refine ⟨0, by omega, ⟨p, rfl, c⟩, fun k q hk hq => ?_⟩
        cases k with
        | zero => exact absurd rfl hk
        | succ k => exact hn k q (by simpa using hq)
      · rintro ⟨k, hk, ⟨q, hq, hc⟩, hall⟩
        cases k with
        | zero =>
          have : covL x r (j + 1) = [] := (covL_nil x r (j + 1)).2 (fun k q hq => hall (k + 1) q (by omega) (by simpa using hq))
          rw [this, List.append_nil, show i = j by omega]
        | succ k =>
          have := hall 0 p (by omega) rfl
          rw [this] at c
          exact absurd c (by decide)
    · rw [if_neg c, List.nil_append, ih (j + 1) i]
      constructor
      · rintro ⟨k, hk, ⟨q, hq, hc⟩, hall⟩
        refine ⟨k + 1, by omega, ⟨q, by simpa using hq, hc⟩, fun k' q' hk' hq' => ?_⟩
        cases k' with
        | zero =>
          have hq2 : p = q' := by simpa using hq'
          subst hq2
          simpa using c
        | succ k' => exact hall k' q' (by omega) (by simpa using hq')
      · rintro ⟨k, hk, ⟨q, hq, hc⟩, hall⟩
        cases k with
        | zero =>
          have hq2 : p = q := by simpa using hq
          subst hq2
          exact absurd hc c
        | succ k => exact ⟨k, by omega, ⟨q, by simpa using hq, hc⟩, fun k' q' hk' hq' => hall (k' + 1) q' (by omega) (by simpa using hq')⟩
/-- The bits of the indices, put together. -/
def orIdx : Nat → List Int → Nat
  | acc, [] => acc
  | acc, y :: r => orIdx (acc ||| 2 ^ y.toNat) r
theorem orIdx_bit (x : Nat) (r : List Int) : ∀ acc, (orIdx acc r).testBit x = true ↔ acc.testBit x = true ∨ ∃ y ∈ r, y.toNat = x := by
  induction r with
  | nil => intro acc; simp [orIdx]
  | cons y r ih =>
    intro acc
    rw [orIdx, ih, Nat.testBit_or, Bool.or_eq_true, Nat.testBit_two_pow, decide_eq_true_eq]
    simp only [List.mem_cons, exists_eq_or_imp]
    exact or_assoc
theorem or_lt16 {a b : Nat} (ha : a < 65536) (hb : b < 65536) : a ||| b < 65536 := Nat.or_lt_two_pow (n := 16) ha hb
theorem pow_lt16 {y : Int} (h0 : 0 ≤ y) (h1 : y < 16) : 2 ^ y.toNat < 65536 := by
  have : 2 ^ y.toNat ≤ 2 ^ 15 := Nat.pow_le_pow_right (by decide) (by omega)
  omega
theorem orIdx_lt (r : List Int) (hr : ∀ y ∈ r, 0 ≤ y ∧ y < 16) : ∀ acc, acc < 65536 → orIdx acc r < 65536 := by
  induction r with
  | nil => intro acc h; exact h
  | cons y r ih =>
    intro acc h
    have hy := hr y (by simp)
    exact ih (fun z hz => hr z (by simp [hz])) _ (or_lt16 h (pow_lt16 hy.1 hy.2))
def covN (a : Nat) (p : S124) : Nat := orIdx 0 (idxM (2 ^ a) p.f0.toNat p.f1.toNat (2 ^ a))
theorem idx_bounds {a : Nat} (ha : a ≤ 4) (m v : Nat) : ∀ y ∈ idxM (2 ^ a) m v (2 ^ a), 0 ≤ y ∧ y < 16 := fun y hy => by
  have h8 : 2 ^ a ≤ 2 ^ 4 := Nat.pow_le_pow_right (by decide) ha
  obtain ⟨j, rfl, _, h2, _⟩ := idxM_mem (Nat.le_refl _) hy
  omega
theorem covN_lt {a : Nat} (ha : a ≤ 4) (p : S124) : covN a p < 65536 := orIdx_lt _ (idx_bounds ha _ _) 0 (by decide)
theorem covN_bit {a : Nat} (p : S124) (x : Nat) : (covN a p).testBit x = true ↔ x < 2 ^ a ∧ covE p x = true := by
  unfold covN covE
  rw [orIdx_bit, decide_eq_true_eq]
  constructor
  · rintro (h | ⟨y, hy, hx⟩)
    · simp at h
    · obtain ⟨j, rfl, _, h2, h3⟩ := idxM_mem (Nat.le_refl _) hy
      rw [Int.toNat_natCast] at hx
      subst hx
      exact ⟨h2, h3⟩
  · rintro ⟨h1, h2⟩
    exact Or.inr ⟨(x : Int), mem_idxM (Nat.le_refl _) (by omega) h1 h2, Int.toNat_natCast x⟩
/-- What the other primes cover. -/
def restR (a i : Nat) : List S124 → Nat → Nat → Nat
  | [], _, acc => acc
  | p :: r, j, acc => restR a i r (j + 1) (if j = i then acc else acc ||| covN a p)
theorem restR_lt {a : Nat} (ha : a ≤ 4) (i : Nat) (r : List S124) : ∀ j acc, acc < 65536 → restR a i r j acc < 65536 := by
  induction r with
  | nil => intro j acc h; exact h
  | cons p r ih =>
    intro j acc h
    rw [restR]
    refine ih (j + 1) _ ?_
    split
    · exact h
    · exact or_lt16 h (covN_lt ha p)
theorem restR_bit (a i x : Nat) (r : List S124) : ∀ j acc, (restR a i r j acc).testBit x = true ↔ acc.testBit x = true ∨ ∃ k q, j + k ≠ i ∧ r[k]? = some q ∧ (covN a q).testBit x = true := by
  induction r with
  | nil => intro j acc; simp [restR]
  | cons p r ih =>
    intro j acc
    rw [restR, ih]
    constructor
    · rintro (h | ⟨k, q, hk, hq, hb⟩)
      · by_cases c : j = i
        · rw [if_pos c] at h
          exact Or.inl h
        · rw [if_neg c, Nat.testBit_or, Bool.or_eq_true] at h
          rcases h with h | h
          · exact Or.inl h
          · exact Or.inr ⟨0, p, by omega, rfl, h⟩
      · exact Or.inr ⟨k + 1, q, by omega, by simpa using hq, hb⟩
    · rintro (h | ⟨k, q, hk, hq, hb⟩)
      · left
        by_cases c : j = i
        · rw [if_pos c]; exact h
        · rw [if_neg c, Nat.testBit_or, h]; rfl
      · cases k with
        | zero =>
          have hq2 : p = q := by simpa using hq
          subst hq2
          left
          rw [if_neg (by omega), Nat.testBit_or, hb, Bool.or_true]
        | succ k => exact Or.inr ⟨k, q, by omega, by simpa using hq, hb⟩
theorem andNot_zero (c b : Nat) : c ^^^ (c &&& b) = 0 ↔ ∀ x, c.testBit x = true → b.testBit x = true := by
  rw [xor_eq_zero]
  constructor
  · intro h x hx
    rw [h, Nat.testBit_and, Bool.and_eq_true] at hx
    exact hx.2
  · intro h
    apply Nat.eq_of_testBit_eq
    intro x
    rw [Nat.testBit_and]
    cases hc : c.testBit x with
    | false => rfl
    | true => rw [h x hc]; rfl
/-- Prime i is essential. -/
def essB (a : Nat) (ps : List S124) (i : Nat) (p : S124) : Bool := decide (¬ covN a p ^^^ (covN a p &&& restR a i ps 0 0) = 0)
theorem essB_iff {a : Nat} {ps : List S124} {i : Nat} {p : S124} (hp : ps[i]? = some p) : essB a ps i p = true ↔ ∃ x, x < 2 ^ a ∧ aloneE ps i x := by
  unfold essB
  rw [decide_eq_true_eq, andNot_zero]
  constructor
  · intro h
    apply Classical.byContradiction
    intro hno
    apply h
    intro x hx
    have hx' := (covN_bit p x).1 hx
    rw [restR_bit]
    right
    apply Classical.byContradiction
    intro hno2
    refine hno ⟨x, hx'.1, ⟨p, hp, hx'.2⟩, fun k q hk hq => ?_⟩
    cases c : covE q x with
    | false => rfl
    | true => exact absurd ⟨k, q, by omega, hq, (covN_bit q x).2 ⟨hx'.1, c⟩⟩ hno2
  · rintro ⟨x, hx, ⟨p', hp', hc⟩, hall⟩ h
    have : p = p' := Option.some.inj (hp.symm.trans hp')
    subst this
    have h1 := h x ((covN_bit p x).2 ⟨hx, hc⟩)
    rw [restR_bit] at h1
    rcases h1 with h1 | ⟨k, q, hk, hq, hb⟩
    · simp at h1
    · have h2 := hall k q (by omega) hq
      rw [((covN_bit q x).1 hb).2] at h2
      exact absurd h2 (by decide)
/-- Marked behind the indices below x. -/
def markB (l : List Int) (ps : List S124) : Nat → Nat → Bool
  | 0, _ => false
  | x + 1, j => if rd l (x : Int) = 1 ∧ covL x ps 0 = [(j : Int)] then true else markB l ps x j
theorem markB_iff (l : List Int) (ps : List S124) (j : Nat) (x : Nat) : markB l ps x j = true ↔ ∃ y, y < x ∧ rd l (y : Int) = 1 ∧ covL y ps 0 = [(j : Int)] := by
  induction x with
  | zero => simp [markB]
  | succ x ih =>
    rw [markB]
    by_cases c : rd l (x : Int) = 1 ∧ covL x ps 0 = [(j : Int)]
    · rw [if_pos c]
      exact ⟨fun _ => ⟨x, by omega, c⟩, fun _ => rfl⟩
    · rw [if_neg c, ih]
      constructor
      · rintro ⟨y, hy, h⟩
        exact ⟨y, by omega, h⟩
      · rintro ⟨y, hy, h⟩
        by_cases e : y = x
        · subst e; exact absurd h c
        · exact ⟨y, by omega, h⟩
theorem ess_mark {a : Nat} {l : List Int} {ps : List S124} {i : Nat} {p : S124} (hl : l.length = 2 ^ a) (hb : ∀ x ∈ l, 0 ≤ x ∧ x ≤ 1) (hg : ∀ p ∈ ps, goodP l p) (hp : ps[i]? = some p) : essB a ps i p = markB l ps (2 ^ a) i := by
  rw [Bool.eq_iff_iff, essB_iff hp, markB_iff]
  constructor
  · rintro ⟨x, hx, hal⟩
    refine ⟨x, hx, ?_, (covL_one x ps 0 i).2 ⟨i, by omega, hal⟩⟩
    obtain ⟨⟨p', hp', hc⟩, _⟩ := hal
    have : p = p' := Option.some.inj (hp.symm.trans hp')
    subst this
    obtain ⟨m, v, _, _, rfl, himp⟩ := hg p (List.mem_of_getElem? hp)
    unfold impliesM at himp
    rw [List.all_eq_true] at himp
    have hcx : x &&& m = v := by simpa [covE] using hc
    have h1 := himp (x : Int) (mem_idxM (Nat.le_refl _) (by omega) (by omega) hcx)
    have h2 : rd l (x : Int) ≠ 0 := of_decide_eq_true h1
    have h3 : rd l (x : Int) = l[x]'(by omega) := getDN (by omega)
    have h4 := hb _ (List.getElem_mem (show x < l.length by omega))
    omega
  · rintro ⟨y, hy, _, hc⟩
    obtain ⟨k, hk, hal⟩ := (covL_one y ps 0 i).1 hc
    rw [show i = k by omega]
    exact ⟨y, hy, hal⟩
/-- The essential ones of r, the first of number i. -/
def essL (a : Nat) (ps : List S124) : List S124 → Nat → List S124
  | [], _ => []
  | p :: r, i => (if essB a ps i p = true then [p] else []) ++ essL a ps r (i + 1)
theorem essL_length (a : Nat) (ps : List S124) (r : List S124) : ∀ i, (essL a ps r i).length ≤ r.length := by
  induction r with
  | nil => intro i; simp [essL]
  | cons p r ih =>
    intro i
    have := ih (i + 1)
    rw [essL]
    split <;> simp <;> omega

/-! #### primeOver -/
/-- The pairs that a mask allows. -/
def cntV (m : Nat) : Nat → Nat → Nat
  | _, 0 => 0
  | v, d + 1 => (if v &&& m = v then 1 else 0) + cntV m (v + 1) d
def cntM : Nat → Nat → Nat
  | _, 0 => 0
  | m, d + 1 => cntV m 0 (m + 1) + cntM (m + 1) d
theorem valsM_cnt (l : List Int) (a m : Nat) (d : Nat) : ∀ v, (valsM l a m v d).length ≤ cntV m v d := by
  induction d with
  | zero => intro v; simp [valsM]
  | succ d ih =>
    intro v
    have := ih (v + 1)
    rw [valsM, cntV, List.length_append]
    by_cases c : v &&& m = v
    · rw [if_pos c]
      split <;> simp <;> omega
    · rw [if_neg c, if_neg (fun hh => c hh.1)]
      simpa using this
theorem masksM_cnt (l : List Int) (a : Nat) (d : Nat) : ∀ m, (masksM l a m d).length ≤ cntM m d := by
  induction d with
  | zero => intro m; simp [masksM]
  | succ d ih =>
    intro m
    have h1 := ih (m + 1)
    have h2 := valsM_cnt l a m (m + 1) 0
    rw [masksM, cntM, List.length_append]
    omega
theorem primes_81 {a : Nat} (ha : a ≤ 4) (l : List Int) : (masksM l a 0 (2 ^ a)).length ≤ 81 := by
  refine Nat.le_trans (masksM_cnt l a (2 ^ a) 0) ?_
  have : ∀ a : Fin 5, cntM 0 (2 ^ a.1) ≤ 81 := by decide +kernel
  exact this ⟨a, by omega⟩
theorem primeF_false (l : List Int) (m v : Nat) (d : Nat) : ∀ (fit : Bool) (i : Nat), primeF l m v fit i d = false → fit = false ∨ ∃ j, i ≤ j ∧ j < i + d ∧ (m >>> j) % 2 = 1 ∧ impliesM l (clrB m j) (clrB v j) = true := by
  induction d with
  | zero => intro fit i h; exact Or.inl h
  | succ d ih =>
    intro fit i h
    rw [primeF] at h
    by_cases c : (m >>> i) % 2 = 1 ∧ impliesM l (clrB m i) (clrB v i) = true
    · exact Or.inr ⟨i, Nat.le_refl _, by omega, c.1, c.2⟩
    · rw [if_neg c] at h
      rcases ih fit (i + 1) h with h | ⟨j, h1, h2, h3⟩
      · exact Or.inl h
      · exact Or.inr ⟨j, by omega, by omega, h3⟩
theorem mem_valsM (l : List Int) (a m v : Nat) (h : v &&& m = v ∧ impliesM l m v = true ∧ primeF l m v true 0 a = true) (d : Nat) : ∀ v0, v0 ≤ v → v < v0 + d → (⟨(m : Int), (v : Int)⟩ : S124) ∈ valsM l a m v0 d := by
  induction d with
  | zero => intro v0 h1 h2; omega
  | succ d ih =>
    intro v0 h1 h2
    rw [valsM, List.mem_append]
    by_cases c : v = v0
    · subst c
      left
      rw [if_pos h]
      simp
    · exact Or.inr (ih (v0 + 1) (by omega) (by omega))
theorem mem_masksM (l : List Int) (a m : Nat) (p : S124) (h : p ∈ valsM l a m 0 (m + 1)) (d : Nat) : ∀ m0, m0 ≤ m → m < m0 + d → p ∈ masksM l a m0 d := by
  induction d with
  | zero => intro m0 h1 h2; omega
  | succ d ih =>
    intro m0 h1 h2
    rw [masksM, List.mem_append]
    by_cases c : m = m0
    · subst c
      exact Or.inl h
    · exact Or.inr (ih (m0 + 1) (by omega) (by omega))
/-- Above each term that implies the table stands a prime one, over the same index. -/
theorem prime_over (l : List Int) (a : Nat) (ha : a ≤ 4) (x : Nat) (hx : x < 2 ^ a) (N : Nat) : ∀ m, m ≤ N → m < 2 ^ a → impliesM l m (x &&& m) = true → ∃ p ∈ masksM l a 0 (2 ^ a), covE p x = true := by
  have h8 : 2 ^ a ≤ 2 ^ 4 := Nat.pow_le_pow_right (by decide) ha
  induction N with
  | zero =>
    intro m hm hma hi
    obtain rfl : m = 0 := by omega
    have hp : primeF l 0 (x &&& 0) true 0 a = true := by
      cases c : primeF l 0 (x &&& 0) true 0 a with
      | true => rfl
      | false =>
        rcases primeF_false l 0 (x &&& 0) a true 0 c with h | ⟨j, _, _, h, _⟩
        · cases h
        · simp at h
    refine ⟨_, mem_masksM l a 0 _ (mem_valsM l a 0 (x &&& 0) ⟨by simp, hi, hp⟩ 1 0 (by omega) (by simp)) (2 ^ a) 0 (by omega) (by omega), ?_⟩
    unfold covE
    simp
  | succ N ih =>
    intro m hm hma hi
    cases c : primeF l m (x &&& m) true 0 a with
    | true =>
      have hle : x &&& m ≤ m := Nat.and_le_right
      have hvm : (x &&& m) &&& m = x &&& m := by rw [Nat.and_assoc, Nat.and_self]
      refine ⟨_, mem_masksM l a m _ (mem_valsM l a m (x &&& m) ⟨hvm, hi, c⟩ (m + 1) 0 (by omega) (by omega)) (2 ^ a) 0 (by omega) (by omega), ?_⟩
      unfold covE
      simp
    | false =>
      rcases primeF_false l m (x &&& m) a true 0 c with h | ⟨j, _, hj, h, hi2⟩
      · cases h
      · have hle : x &&& m ≤ m := Nat.and_le_right
        have hb := (bits_f m (x &&& m) j (by omega) (by omega) (by omega)).2 h
        have e : clrB (x &&& m) j = x &&& clrB m j := by
          rw [← hb.2.2.2, ← hb.2.2.1]
          apply Nat.eq_of_testBit_eq
          intro y
          simp only [Nat.testBit_xor, Nat.testBit_and]
          cases x.testBit y <;> cases m.testBit y <;> cases (2 ^ j).testBit y <;> rfl
        rw [e] at hi2
        have hpos : 0 < 2 ^ j := Nat.two_pow_pos j
        exact ih (clrB m j) (by omega) (by omega) hi2
theorem cover_all (l : List Int) (a : Nat) (ha : a ≤ 4) (hl : l.length = 2 ^ a) (x : Nat) (hx : x < 2 ^ a) (h1 : rd l (x : Int) ≠ 0) : ∃ p ∈ masksM l a 0 (2 ^ a), covE p x = true := by
  refine prime_over l a ha x hx (2 ^ a) (2 ^ a - 1) (by omega) (by have := Nat.two_pow_pos a; omega) ?_
  unfold impliesM
  rw [List.all_eq_true]
  intro y hy
  rw [hl] at hy
  obtain ⟨j, rfl, _, hj, h2⟩ := idxM_mem (Nat.le_refl _) hy
  have e : j = x := by
    rw [Nat.and_two_pow_sub_one_eq_mod, Nat.and_two_pow_sub_one_eq_mod, Nat.mod_eq_of_lt hj, Nat.mod_eq_of_lt hx] at h2
    exact h2
  subst e
  unfold nz
  exact decide_eq_true h1

/-! #### apartM -/
/-- One prime term covers both. -/
def nearB (ps : List S124) (x y : Nat) : Bool := ps.any (fun p => covE p x && covE p y)
def barB (ps : List S124) (cur : List Int) (x : Int) : Bool := cur.any (fun y => nearB ps y.toNat x.toNat)
/-- The first longest list of some, apart from each other and from those of cur. -/
def apartM (ps : List S124) : List Int → List Int → List Int
  | [], _ => []
  | x :: r, cur => if barB ps cur x = true then apartM ps r cur else if (apartM ps r (cur ++ [x])).length + 1 < (apartM ps r cur).length then apartM ps r cur else x :: apartM ps r (cur ++ [x])
theorem apartM_length (ps : List S124) (r : List Int) : ∀ cur, (apartM ps r cur).length ≤ r.length := by
  induction r with
  | nil => intro cur; simp [apartM]
  | cons x r ih =>
    intro cur
    have h1 := ih cur
    have h2 := ih (cur ++ [x])
    rw [apartM]
    split
    · simp; omega
    · split
      · simp; omega
      · simp; omega
/-- The ones from i on. -/
def onesF (l : List Int) : Nat → Nat → List Int
  | _, 0 => []
  | i, d + 1 => (if rd l (i : Int) = 1 then [(i : Int)] else []) ++ onesF l (i + 1) d
theorem onesF_length (l : List Int) (d : Nat) : ∀ i, (onesF l i d).length ≤ d := by
  induction d with
  | zero => intro i; simp [onesF]
  | succ d ih =>
    intro i
    have := ih (i + 1)
    rw [onesF]
    split <;> simp <;> omega
theorem onesF_bound (l : List Int) (d : Nat) : ∀ i, ∀ y ∈ onesF l i d, (i : Int) ≤ y ∧ y < i + d := by
  induction d with
  | zero => intro i y hy; simp [onesF] at hy
  | succ d ih =>
    intro i y hy
    rw [onesF, List.mem_append] at hy
    rcases hy with hy | hy
    · split at hy
      · rw [List.mem_singleton] at hy
        omega
      · simp at hy
    · have := ih (i + 1) y hy
      omega
def pickM (cur best m : List Int) : List Int := if best.length < cur.length + m.length then cur ++ m else best
theorem pick_two (cur best m l : List Int) : pickM cur (pickM cur best l) m = pickM cur best (if l.length < m.length then m else l) := by
  unfold pickM
  by_cases c1 : best.length < cur.length + l.length
  · rw [if_pos c1]
    by_cases c2 : l.length < m.length
    · rw [if_pos c2, if_pos (by simp; omega), if_pos (by omega)]
    · rw [if_neg c2, if_neg (by simp; omega), if_pos c1]
  · rw [if_neg c1]
    by_cases c2 : l.length < m.length
    · rw [if_pos c2]
    · rw [if_neg c2, if_neg (by omega), if_neg c1]
theorem pickM_nil (best m : List Int) : pickM [] best m = if best.length < m.length then m else best := by
  unfold pickM
  simp

/-! #### goalM -/
/-- The ones of a table, as bits. -/
def goalN (l : List Int) (d : Nat) : Nat := orIdx 0 (onesF l 0 d)
theorem onesF_mem (l : List Int) (d : Nat) : ∀ i, ∀ y ∈ onesF l i d, rd l y = 1 := by
  induction d with
  | zero => intro i y hy; simp [onesF] at hy
  | succ d ih =>
    intro i y hy
    rw [onesF, List.mem_append] at hy
    rcases hy with hy | hy
    · split at hy
      · rename_i h
        rw [List.mem_singleton] at hy
        rw [hy]
        exact h
      · simp at hy
    · exact ih (i + 1) y hy
theorem goalN_bit (l : List Int) (d x : Nat) (h : (goalN l d).testBit x = true) : x < d ∧ rd l (x : Int) = 1 ∧ (x : Int) ∈ onesF l 0 d := by
  unfold goalN at h
  rw [orIdx_bit] at h
  rcases h with h | ⟨y, hy, hx⟩
  · simp at h
  · have h1 := onesF_bound l d 0 y hy
    have h2 := onesF_mem l d 0 y hy
    have e : y = (x : Int) := by omega
    subst e
    exact ⟨by omega, h2, hy⟩
theorem goalN_lt (l : List Int) (d : Nat) (hd : d ≤ 16) : goalN l d < 65536 := orIdx_lt _ (fun y hy => by have := onesF_bound l d 0 y hy; omega) 0 (by decide)
theorem mem_onesF (l : List Int) (x : Nat) (h : rd l (x : Int) = 1) (d : Nat) : ∀ i, i ≤ x → x < i + d → (x : Int) ∈ onesF l i d := by
  induction d with
  | zero => intro i h1 h2; omega
  | succ d ih =>
    intro i h1 h2
    rw [onesF, List.mem_append]
    by_cases c : x = i
    · subst c
      left
      rw [if_pos h]
      simp
    · exact Or.inr (ih (i + 1) (by omega) (by omega))
theorem goalN_iff (l : List Int) (d x : Nat) : (goalN l d).testBit x = true ↔ x < d ∧ rd l (x : Int) = 1 := by
  constructor
  · intro h
    have := goalN_bit l d x h
    exact ⟨this.1, this.2.1⟩
  · rintro ⟨h1, h2⟩
    unfold goalN
    rw [orIdx_bit]
    exact Or.inr ⟨(x : Int), mem_onesF l x h2 d 0 (by omega) (by omega), Int.toNat_natCast x⟩
theorem cov_sub {l : List Int} {a : Nat} (hl : l.length = 2 ^ a) (hb : ∀ x ∈ l, 0 ≤ x ∧ x ≤ 1) {p : S124} (hg : goodP l p) : covN a p &&& goalN l (2 ^ a) = covN a p := by
  apply Nat.eq_of_testBit_eq
  intro x
  rw [Nat.testBit_and]
  cases hc : (covN a p).testBit x with
  | false => rfl
  | true =>
    rw [Bool.true_and, goalN_iff]
    have h1 := (covN_bit p x).1 hc
    refine ⟨h1.1, ?_⟩
    obtain ⟨m, v, hm, hv, rfl, hi⟩ := hg
    unfold impliesM at hi
    rw [List.all_eq_true, hl] at hi
    have h2 := of_decide_eq_true h1.2
    simp only [Int.toNat_natCast] at h2
    have h3 := hi (x : Int) (mem_idxM (Nat.le_refl _) (by omega) h1.1 h2)
    have h4 := of_decide_eq_true h3
    have hxl : x < l.length := by omega
    have h5 := hb (l[x]) (List.getElem_mem hxl)
    rw [rdN hxl] at h4 ⊢
    omega

/-! #### spec_nfSearch -/
def intsM (s : List Nat) : List Int := s.map (fun (y : Nat) => (y : Int))
theorem rdCov {cs p r : List Nat} {c : Nat} {i : Nat} (e : cs = p ++ c :: r) (hi : i = p.length) : rd (intsM cs) (i : Int) = (c : Int) := by
  rw [e]
  unfold intsM
  rw [List.map_append, List.map_cons]
  exact rdA (by rw [List.length_map]; omega)
theorem spec_nfSearch_l0 (cs : List Nat) (hcs : ∀ c ∈ cs, c < 65536) (hcl : cs.length ≤ 81) (r : List Nat) : ∀ (p : List Nat) (i : Nat) (t left : Nat) (X : List Int) (C : Int), i = p.length → cs = p ++ r → t ≤ 16 → left < 65536 → 0 ≤ C → C + (chooseM r.length t : Nat) ≤ 1000000000000000000 → 0 < t →
    Ev (fun k => spec_nfSearch.l0 k (intsM cs) left t X C i) (combM intsM (X, C) (solsM r i t left)) := by
  have hll : (intsM cs).length = cs.length := by unfold intsM; exact List.length_map _
  induction r with
  | nil =>
    intro p i t left X C hi e ht hlf hC hb h0
    have hlen : cs.length = p.length := by rw [e]; simp
    apply ev_up
    simp only [spec_nfSearch.l0]
    obtain ⟨t, rfl⟩ : ∃ t', t = t' + 1 := ⟨t - 1, by omega⟩
    rw [solsM, comb_nil]
    exact ev_n (by omega) (Ev.now _)
  | cons c r ih =>
    intro p i t left X C hi e ht hlf hC hb h0
    have hlen : cs.length = p.length + r.length + 1 := by rw [e]; simp; omega
    obtain ⟨t, rfl⟩ : ∃ t', t = t' + 1 := ⟨t - 1, by omega⟩
    have hc := hcs c (by rw [e]; simp)
    have hxx := rdCov e hi
    rw [List.length_cons, chooseM] at hb
    have hl' : left ^^^ (left &&& c) < 65536 := Nat.xor_lt_two_pow (n := 16) hlf (Nat.lt_of_le_of_lt Nat.and_le_left hlf)
    have hsub : Ev (fun k => spec_nfSearch.f k (intsM cs) ((i + 1 : Nat) : Int) ((left ^^^ (left &&& c) : Nat) : Int) (t : Int)) (combM intsM ([], 0) (solsM r (i + 1) t (left ^^^ (left &&& c)))) := by
      apply ev_up
      simp only [spec_nfSearch.f]
      refine ev_ite (fun c1 => ?_) (fun c1 => ?_)
      · obtain rfl : t = 0 := by omega
        have es : solsM r (i + 1) 0 (left ^^^ (left &&& c)) = if left ^^^ (left &&& c) = 0 then [[]] else [] := by rw [solsM]
        rw [es]
        refine ev_ite (fun c2 => ev_eq (Ev.now _) ?_) (fun c2 => ev_eq (Ev.now _) ?_)
        · rw [if_pos (by exact_mod_cast c2)]
          simp [combM, headM, intsM]
        · rw [if_neg (fun hh => c2 (by exact_mod_cast hh)), comb_nil]
      · exact ih (p ++ [c]) (i + 1) t _ [] 0 (by simp; omega) (by rw [e]; simp) (by omega) hl' (Int.le_refl _) (by omega) (by omega)
    have hS1 := sols_length r (i + 1) t (left ^^^ (left &&& c))
    have hlens := sols_len r (i + 1) t (left ^^^ (left &&& c))
    apply ev_up
    simp only [spec_nfSearch.l0]
    refine ev_p (by omega) (ev_p (by omega) ?_)
    rw [hxx, wN (n := (i : Int) + 1) (m := i + 1) (by omega) (by omega), wN (n := ((t + 1 : Nat) : Int) - 1) (m := t) (by omega) (by omega), andNotN left c (by omega) (by omega)]
    refine Ev.bind hsub ?_
    rw [solsM]
    generalize solsM r (i + 1) t (left ^^^ (left &&& c)) = S at hS1 hlens ⊢
    have next : ∀ (X' : List Int) (C' : Int), 0 ≤ C' → C' + (chooseM r.length (t + 1) : Nat) ≤ 1000000000000000000 → Ev (fun k => spec_nfSearch.l0 k (intsM cs) left ((t + 1 : Nat) : Int) X' C' ((i + 1 : Nat) : Int)) (combM intsM (X', C') (solsM r (i + 1) (t + 1) left)) := fun X' C' h1 h2 => ih (p ++ [c]) (i + 1) (t + 1) left X' C' (by simp; omega) (by rw [e]; simp) ht hlf h1 h2 (by omega)
    have hn : (combM intsM ([], 0) S).2 = (S.length : Int) := by unfold combM; simp
    rw [hn, w64 (n := C + (S.length : Int)) (by omega) (by omega)]
    rw [← comb_append _ _ hC]
    refine ev_ite (fun c1 => ev_ite (fun c2 => ?_) (fun c2 => ?_)) (fun c1 => ?_)
    · obtain ⟨s, S', rfl⟩ : ∃ s S', S = s :: S' := by
        cases S with
        | nil => simp at c1
        | cons s S' => exact ⟨s, S', rfl⟩
      have hs := (hlens s (by simp)).1
      have e1 : (combM intsM ([], 0) (s :: S')).1 = intsM s := by unfold combM; simp [headM]
      rw [e1]
      have hsl : (intsM s).length = t := by unfold intsM; rw [List.length_map, hs]
      refine Ev.bind (ev_c rfl) (ev_p (by rw [hsl]; simp; omega) ?_)
      refine ev_eq (next _ _ (by omega) (by omega)) ?_
      congr 1
      unfold combM
      rw [if_pos ⟨c2, by simp⟩]
      simp [headM, intsM]
    · refine ev_eq (next _ _ (by omega) (by omega)) ?_
      congr 1
      unfold combM
      rw [if_neg (fun hh => c2 hh.1), List.length_map]
    · have : S = [] := List.length_eq_zero_iff.1 (by omega)
      subst this
      refine ev_eq (next _ _ (by omega) (by simp; omega)) ?_
      simp [comb_nil]
theorem spec_nfSearch_ev (cs : List Nat) (hcs : ∀ c ∈ cs, c < 65536) (hcl : cs.length ≤ 81) (t g : Nat) (ht : t ≤ 16) (hg : g < 65536) : Ev (fun k => spec_nfSearch.f k (intsM cs) 0 g t) (combM intsM ([], 0) (solsM cs 0 t g)) := by
  have hch := choose_small hcl ht
  apply ev_up
  simp only [spec_nfSearch.f]
  refine ev_ite (fun c1 => ?_) (fun c1 => ?_)
  · obtain rfl : t = 0 := by omega
    have es : solsM cs 0 0 g = if g = 0 then [[]] else [] := by rw [solsM]
    rw [es]
    refine ev_ite (fun c2 => ev_eq (Ev.now _) ?_) (fun c2 => ev_eq (Ev.now _) ?_)
    · rw [if_pos (by exact_mod_cast c2)]
      simp [combM, headM, intsM]
    · rw [if_neg (fun hh => c2 (by exact_mod_cast hh)), comb_nil]
  · exact spec_nfSearch_l0 cs hcs hcl cs [] 0 t g [] 0 rfl rfl ht hg (Int.le_refl _) (by omega) (by omega)

/-! #### impl_leastSearch -/
/-- The terms at some places. -/
def termsAt (ps : List S124) (s : List Nat) : List S124 := s.map (fun (j : Nat) => rd_T124 ps (j : Int))
theorem sub_or {s c g : Nat} (hs : s &&& g = s) (hc : c &&& g = c) : (s ||| c) &&& g = s ||| c := by
  apply Nat.eq_of_testBit_eq
  intro x
  have h1 := congrArg (fun n => n.testBit x) hs
  have h2 := congrArg (fun n => n.testBit x) hc
  simp only [Nat.testBit_and, Nat.testBit_or] at *
  revert h1 h2
  cases s.testBit x <;> cases c.testBit x <;> cases g.testBit x <;> simp
theorem full_iff {s g : Nat} (hs : s &&& g = s) : s = g ↔ g ^^^ (g &&& s) = 0 := by
  rw [andNot_zero]
  constructor
  · rintro rfl
    exact fun x h => h
  · intro h
    apply Nat.eq_of_testBit_eq
    intro x
    have h1 := congrArg (fun n => n.testBit x) hs
    have h2 := h x
    simp only [Nat.testBit_and] at h1
    revert h1 h2
    cases s.testBit x <;> cases g.testBit x <;> simp
theorem or_self_zero (a : Nat) : a ||| 0 = a := Nat.or_zero a
theorem union_lt (cs : List Nat) (h : ∀ c ∈ cs, c < 65536) : unionM cs < 65536 := by
  induction cs with
  | nil => decide
  | cons c cs ih => exact Nat.or_lt_two_pow (n := 16) (h c (by simp)) (ih (fun x hx => h x (by simp [hx])))
theorem union_sub (cs : List Nat) (g : Nat) (h : ∀ c ∈ cs, c &&& g = c) : unionM cs &&& g = unionM cs := by
  induction cs with
  | nil => simp [unionM]
  | cons c cs ih => exact sub_or (h c (by simp)) (ih (fun x hx => h x (by simp [hx])))
theorem impl_leastSums_l (g : Nat) (hg : g < 65536) (ps : List S124) (cs : List Nat) (hcs : ∀ c ∈ cs, c < 65536) (hcg : ∀ c ∈ cs, c &&& g = c) (hps : ps.length = cs.length) (hcl : cs.length ≤ 81) (bh : List Int) (hbl : bh.length = cs.length + 1) (hbh : ∀ i, i ≤ cs.length → rd bh (i : Int) = ((unionM (cs.drop i) : Nat) : Int)) (r : List Nat) : ∀ (p : List Nat) (i t s : Nat) (list : List S124) (st : List S124 × Int), i = p.length → cs = p ++ r → t ≤ 16 → s < 65536 → s &&& g = s → list.length ≤ i → 0 ≤ st.2 → st.2 + (chooseM r.length t : Nat) ≤ 1000000000000000000 → 0 < t →
    Ev (fun k => impl_leastSums.l k g ps (intsM cs) bh list s t st i) (combM (fun u => list ++ termsAt ps u) st (solsM r i t (g ^^^ (g &&& s)))) := by
  have hll : (intsM cs).length = cs.length := by unfold intsM; exact List.length_map _
  induction r with
  | nil =>
    intro p i t s list st hi e ht hsl hsg hls hC hb h0
    have hlen : cs.length = p.length := by rw [e]; simp
    apply ev_up
    simp only [impl_leastSums.l]
    obtain ⟨t, rfl⟩ : ∃ t', t = t' + 1 := ⟨t - 1, by omega⟩
    rw [solsM, comb_nil, wN (n := (i : Int) + ((t + 1 : Nat) : Int)) (m := i + (t + 1)) (by omega) (by omega)]
    exact ev_n (by omega) (Ev.now _)
  | cons c r ih =>
    intro p i t s list st hi e ht hsl hsg hls hC hb h0
    have hlen : cs.length = p.length + r.length + 1 := by rw [e]; simp; omega
    obtain ⟨t, rfl⟩ : ∃ t', t = t' + 1 := ⟨t - 1, by omega⟩
    have hc := hcs c (by rw [e]; simp)
    have hcg' := hcg c (by rw [e]; simp)
    have hxx := rdCov e hi
    have hdrop : cs.drop i = c :: r := by rw [e, hi, List.drop_left]
    have hbi := hbh i (by omega)
    rw [hdrop] at hbi
    have hul := union_lt (c :: r) (fun x hx => hcs x (by rw [e]; exact List.mem_append_right _ hx))
    have hug := union_sub (c :: r) g (fun x hx => hcg x (by rw [e]; exact List.mem_append_right _ hx))
    apply ev_up
    simp only [impl_leastSums.l]
    rw [wN (n := (i : Int) + ((t + 1 : Nat) : Int)) (m := i + (t + 1)) (by omega) (by omega), wN (n := (i : Int) + 1) (m := i + 1) (by omega) (by omega), wN (n := ((t + 1 : Nat) : Int) - 1) (m := t) (by omega) (by omega), hbi, orN s (unionM (c :: r)) (by omega) (by omega), hxx, orN s c (by omega) (by omega)]
    refine ev_ite (fun c1 => ev_p (by omega) (ev_p (by omega) (ev_ite (fun c2 => ?_) (fun c2 => ?_)))) (fun c1 => ?_)
    · refine ev_p (by omega) (ev_p (by omega) (ev_p (by omega) ?_))
      rw [List.length_cons, chooseM] at hb
      have hsc := sub_or hsg hcg'
      have hscl : s ||| c < 65536 := or_lt16 hsl hc
      have hS1 := sols_length r (i + 1) t (g ^^^ (g &&& (s ||| c)))
      have hsub : Ev (fun k => impl_leastSums.e (fun a b c d f => impl_leastSums.l k g ps (intsM cs) bh a b c d f) g (list ++ [rd_T124 ps (i : Int)]) ((s ||| c : Nat) : Int) ((i + 1 : Nat) : Int) (t : Int) st) (combM (fun u => (list ++ [rd_T124 ps (i : Int)]) ++ termsAt ps u) st (solsM r (i + 1) t (g ^^^ (g &&& (s ||| c))))) := by
        unfold impl_leastSums.e
        refine ev_ite (fun c3 => ?_) (fun c3 => ?_)
        · obtain rfl : t = 0 := by omega
          have es : solsM r (i + 1) 0 (g ^^^ (g &&& (s ||| c))) = if g ^^^ (g &&& (s ||| c)) = 0 then [[]] else [] := by rw [solsM]
          rw [es]
          refine ev_eq (Ev.now _) ?_
          unfold impl_leastSums.leaf
          by_cases c4 : s ||| c = g
          · rw [if_pos (by exact_mod_cast c4), if_pos ((full_iff hsc).1 c4), w64 (by omega) (by simp only [chooseM] at hb; omega)]
            unfold combM
            ext1
            · by_cases c5 : st.2 = 0
              · simp [c5, headM, termsAt]
              · simp [c5]
            · simp
          · rw [if_neg (fun hh => c4 (by exact_mod_cast hh)), if_neg (fun hh => c4 ((full_iff hsc).2 hh)), comb_nil]
        · exact ih (p ++ [c]) (i + 1) t (s ||| c) _ st (by simp; omega) (by rw [e]; simp) (by omega) hscl hsc (by simp; omega) hC (by omega) (by omega)
      refine Ev.bind hsub ?_
      rw [solsM, andNot_andNot, ← comb_append _ _ hC, comb_map]
      have ef : (fun u => (list ++ [rd_T124 ps (i : Int)]) ++ termsAt ps u) = (fun u => list ++ termsAt ps (i :: u)) := by
        funext u
        simp [termsAt]
      rw [ef]
      generalize solsM r (i + 1) t (g ^^^ (g &&& (s ||| c))) = S at hS1 ⊢
      have h2 : (combM (fun u => list ++ termsAt ps (i :: u)) st S).2 = st.2 + S.length := rfl
      exact ih (p ++ [c]) (i + 1) (t + 1) s list _ (by simp; omega) (by rw [e]; simp) ht hsl hsg (by omega) (by rw [h2]; omega) (by rw [h2]; omega) (by omega)
    · rw [sols_union (c :: r) i (t + 1) _ (fun hh => c2 ?_), comb_nil]
      · exact Ev.now _
      · rw [andNot_andNot] at hh
        have := (full_iff (sub_or hsg hug)).2 hh
        exact_mod_cast this
    · rw [sols_few (c :: r) i (t + 1) _ (by simp only [List.length_cons]; omega), comb_nil]
      exact Ev.now _

/-! #### essFacts -/
theorem primes_facts {a : Nat} (ha : a ≤ 4) (l : List Int) : (masksM l a 0 (2 ^ a)).length ≤ 256 ∧ ∀ p ∈ masksM l a 0 (2 ^ a), goodP l p := by
  have h8 : 2 ^ a ≤ 2 ^ 4 := Nat.pow_le_pow_right (by decide) ha
  have h1 := masksM_length l a 16 (2 ^ a) 0 (by omega)
  exact ⟨by omega, masksM_good l a (2 ^ a) 0 (by omega)⟩

/-! #### leastM -/
/-- The choices of the least length that has one. -/
def leastF (cs : List Nat) (g : Nat) : Nat → Nat → List (List Nat)
  | 0, m => solsM cs 0 m g
  | d + 1, m => if solsM cs 0 m g = [] then leastF cs g d (m + 1) else solsM cs 0 m g
theorem countP_or (p q : Nat → Bool) (R : List Nat) : R.countP (fun j => p j || q j) ≤ R.countP p + R.countP q := by
  induction R with
  | nil => simp
  | cons x R ih =>
    rw [List.countP_cons, List.countP_cons, List.countP_cons]
    cases p x <;> cases q x <;> simp <;> omega
theorem count_any (L : List Nat) (n : Nat) : (List.range n).countP (fun j => L.any (fun y => decide (y = j))) ≤ L.length := by
  induction L with
  | nil => simp
  | cons y L ih =>
    have h1 : (List.range n).countP (fun j => (y :: L).any (fun y => decide (y = j))) ≤ (List.range n).countP (fun j => decide (y = j)) + (List.range n).countP (fun j => L.any (fun y => decide (y = j))) := by
      simp only [List.any_cons]
      exact countP_or _ _ _
    have h2 : (List.range n).countP (fun j => decide (y = j)) ≤ 1 := by
      have h3 : (List.range n).countP (fun j => decide (y = j)) = (List.range n).count y := by
        rw [List.count]
        congr 1
        funext j
        by_cases c : y = j
        · simp [c]
        · have c' : ¬ j = y := fun hh => c hh.symm
          simp [c, c']
      rw [h3]
      exact List.nodup_iff_count.1 List.nodup_range y
    simp only [List.length_cons]
    omega
theorem least_some (l : List Int) (a : Nat) (ha : a ≤ 4) (hl : l.length = 2 ^ a) : ∃ t, t ≤ 16 ∧ solsM ((masksM l a 0 (2 ^ a)).map (covN a)) 0 t (goalN l (2 ^ a)) ≠ [] := by
  have h8 : 2 ^ a ≤ 2 ^ 4 := Nat.pow_le_pow_right (by decide) ha
  have hs := sols_some ((masksM l a 0 (2 ^ a)).map (covN a)) 0 (goalN l (2 ^ a)) (fun j => ((onesF l 0 (2 ^ a)).map (fun y => (masksM l a 0 (2 ^ a)).findIdx (fun p => covE p y.toNat))).any (fun y => decide (y = j))) (fun x hx => by
    obtain ⟨h1, h2, h3⟩ := goalN_bit l (2 ^ a) x hx
    have hex := cover_all l a ha hl x h1 (by rw [h2]; decide)
    have hlt : (masksM l a 0 (2 ^ a)).findIdx (fun p => covE p x) < (masksM l a 0 (2 ^ a)).length := List.findIdx_lt_length.2 hex
    have hget : covE ((masksM l a 0 (2 ^ a))[(masksM l a 0 (2 ^ a)).findIdx (fun p => covE p x)]) x = true := List.findIdx_getElem (w := hlt)
    refine ⟨(masksM l a 0 (2 ^ a)).findIdx (fun p => covE p x), covN a ((masksM l a 0 (2 ^ a))[(masksM l a 0 (2 ^ a)).findIdx (fun p => covE p x)]), ?_, ?_, ?_⟩
    · rw [List.getElem?_map, List.getElem?_eq_getElem hlt]
      rfl
    · rw [List.any_eq_true]
      refine ⟨_, List.mem_map_of_mem h3, ?_⟩
      rw [decide_eq_true_eq, Int.toNat_natCast]
      omega
    · exact (covN_bit _ x).2 ⟨h1, hget⟩)
  refine ⟨_, ?_, hs⟩
  simp only [Nat.zero_add]
  refine Nat.le_trans (count_any _ _) ?_
  rw [List.length_map]
  have := onesF_length l (2 ^ a) 0
  omega
def leastRes (l : List Int) (a : Nat) : List S124 × Int :=
  let S := leastF ((masksM l a 0 (2 ^ a)).map (covN a)) (goalN l (2 ^ a)) 16 0
  (termsAt (masksM l a 0 (2 ^ a)) (headM S), (S.length : Int))

/-! #### spec_ttOnes -/
theorem spec_ttOnes_l0 (n : Int) (l : List Int) (hl : l.length ≤ 1000000) (d : Nat) : ∀ (i : Nat) (xs : List Int), i + d = l.length → xs.length ≤ i →
    Ev (fun k => spec_ttOnes.l0 k xs l l.length i) (xs ++ onesF l i d) := by
  induction d with
  | zero =>
    intro i xs hi hx
    apply ev_up
    simp only [spec_ttOnes.l0]
    refine ev_n (by omega) (ev_eq (Ev.now _) (by simp [onesF]))
  | succ d ih =>
    intro i xs hi hx
    apply ev_up
    simp only [spec_ttOnes.l0]
    refine ev_p (by omega) (ev_p (by omega) (ev_p (by omega) ?_))
    rw [wN (n := (i : Int) + 1) (m := i + 1) (by omega) (by omega), onesF]
    refine ev_ite (fun c => ev_p (by omega) ?_) (fun c => ?_)
    · rw [if_pos c, ← List.append_assoc]
      exact ih (i + 1) _ (by omega) (by simp; omega)
    · rw [if_neg c, List.nil_append]
      exact ih (i + 1) _ (by omega) (by omega)
theorem spec_ttOnes_ev (n : Int) (l : List Int) (hl : l.length ≤ 1000000) : Ev (fun k => spec_ttOnes.f k n l) (onesF l 0 l.length) := by
  unfold spec_ttOnes.f
  exact spec_ttOnes_l0 n l hl l.length 0 [] (by omega) (by simp)

/-! #### spec_nfOnes -/
theorem spec_nfOnes_l0 (ks : List Int) (hk : ∀ y ∈ ks, 0 ≤ y ∧ y < 16) (hkl : ks.length ≤ 1048576) (r : List Int) : ∀ (p : List Int) (j : Int) (acc : Nat), j = p.length → ks = p ++ r → acc < 65536 →
    Ev (fun k => spec_nfOnes.l0 k acc ks ks.length j) ((orIdx acc r : Nat) : Int) := by
  induction r with
  | nil =>
    intro p j acc hj e ha
    have hlen : ks.length = p.length := by rw [e]; simp
    apply ev_up
    simp only [spec_nfOnes.l0]
    exact ev_n (by omega) (Ev.now _)
  | cons y r ih =>
    intro p j acc hj e ha
    have hlen : ks.length = p.length + r.length + 1 := by rw [e]; simp; omega
    have hxx : rd ks j = y := by rw [e]; exact rdA hj
    have hy := hk y (by rw [e]; simp)
    have hp := pow_lt16 hy.1 hy.2
    obtain ⟨b, rfl⟩ := nat_of hy.1
    rw [Int.toNat_natCast] at hp
    apply ev_up
    simp only [spec_nfOnes.l0]
    refine ev_p (by omega) (ev_p (by omega) (ev_p (by omega) ?_))
    rw [hxx, w64 (n := j + 1) (by omega) (by omega), u64w (by omega) (by omega), shl1 b (by omega), orN acc (2 ^ b) (by omega) (by omega), orIdx, Int.toNat_natCast]
    exact ev_p (by omega) (ih (p ++ [(b : Int)]) (j + 1) _ (by simp; omega) (by rw [e]; simp) (or_lt16 ha hp))
theorem spec_nfOnes_ev (n : Int) (l : List Int) (hl : l.length ≤ 16) : Ev (fun k => spec_nfOnes.f k n l) ((goalN l l.length : Nat) : Int) := by
  unfold spec_nfOnes.f
  refine Ev.bind (spec_ttOnes_ev n l (by omega)) ?_
  have h1 := onesF_length l l.length 0
  exact spec_nfOnes_l0 _ (fun y hy => by have := onesF_bound l l.length 0 y hy; omega) (by omega) _ [] 0 0 rfl rfl (by decide)

/-! #### spec_nfIndices -/
theorem spec_nfIndices_l0 (a m v : Nat) (ha : a ≤ 4) (hm : m < 65536) (d : Nat) : ∀ (xs : List Int) (i : Nat), i + d = 2 ^ a → xs.length ≤ i →
    Ev (fun k => spec_nfIndices.l0 k a xs i m v) (xs ++ idxM (2 ^ a) m v d) := by
  have h8 : 2 ^ a ≤ 2 ^ 4 := Nat.pow_le_pow_right (by decide) ha
  induction d with
  | zero =>
    intro xs i hi hx
    apply ev_up
    simp only [spec_nfIndices.l0]
    rw [u64w (by omega) (by omega), shl1 a (by omega)]
    refine ev_p (by omega) (ev_n (by omega) ?_)
    simpa [idxM] using Ev.now xs
  | succ d ih =>
    intro xs i hi hx
    apply ev_up
    simp only [spec_nfIndices.l0]
    rw [u64w (by omega) (by omega), shl1 a (by omega)]
    refine ev_p (by omega) (ev_p (by omega) ?_)
    rw [andN i m (by omega) (by omega), wN (m := i + 1) (by omega) (by omega)]
    have e : 2 ^ a - (d + 1) = i := by omega
    refine ev_ite (fun h => ?_) (fun h => ?_)
    · refine ev_p (by omega) ?_
      refine ev_eq (ih _ (i + 1) (by omega) (by simp; omega)) ?_
      have h' : i &&& m = v := by exact_mod_cast h
      simp [idxM, e, h']
    · refine ev_eq (ih _ (i + 1) (by omega) (by omega)) ?_
      have h' : ¬ i &&& m = v := fun h2 => h (by exact_mod_cast h2)
      simp [idxM, e, h']
theorem spec_nfIndices_ev (a m v : Nat) (ha : a ≤ 4) (hm : m < 65536) : Ev (fun k => spec_nfIndices.f k a m v) (idxM (2 ^ a) m v (2 ^ a)) := by
  unfold spec_nfIndices.f
  exact spec_nfIndices_l0 a m v ha hm (2 ^ a) [] 0 (by omega) (by simp)

/-! #### spec_nfImplies -/
theorem spec_nfImplies_l0 (n : Int) (l ks : List Int) (hk : ∀ x ∈ ks, 0 ≤ x ∧ x < l.length) (hl : ks.length ≤ 1048576) (r : List Int) : ∀ (p : List Int) (i : Int), i = p.length → ks = p ++ r →
    Ev (fun k => spec_nfImplies.l0 k ks ks.length i n l) (r.all (nz l)) := by
  induction r with
  | nil =>
    intro p i hi e
    have hlen : ks.length = p.length := by rw [e]; simp
    apply ev_up
    simp only [spec_nfImplies.l0]
    exact ev_n (by omega) (Ev.now _)
  | cons x r ih =>
    intro p i hi e
    have hlen : ks.length = p.length + r.length + 1 := by rw [e]; simp; omega
    have hx : rd ks i = x := by rw [e]; exact rdA hi
    have hxb := hk x (by rw [e]; simp)
    have ih' := ih (p ++ [x]) (i + 1) (by simp; omega) (by rw [e]; simp)
    apply ev_up
    simp only [spec_nfImplies.l0]
    refine ev_p (by omega) (ev_p (by omega) (ev_p (by omega) ?_))
    rw [hx, w64 (n := i + 1) (by omega) (by omega)]
    refine ev_p (by omega) (ev_p (by omega) (ev_ite (fun h => ?_) (fun h => ?_)))
    · rw [List.all_cons, show nz l x = false from decide_eq_false (fun hh => hh h), Bool.false_and]
      exact Ev.now _
    · rw [List.all_cons, show nz l x = true from decide_eq_true h, Bool.true_and]
      exact ih'
theorem spec_nfImplies_ev (a m v : Nat) (l : List Int) (ha : a ≤ 4) (hl : l.length = 2 ^ a) (hm : m < 65536) : Ev (fun k => spec_nfImplies.f k a l m v) (impliesM l m v) := by
  unfold spec_nfImplies.f impliesM
  have h8 : 2 ^ a ≤ 2 ^ 4 := Nat.pow_le_pow_right (by decide) ha
  rw [hl]
  have hi := idxM_length (2 ^ a) m v (2 ^ a)
  refine Ev.bind (spec_nfIndices_ev a m v ha hm) (spec_nfImplies_l0 a l _ (fun x hx => ?_) (by omega) _ [] 0 rfl rfl)
  obtain ⟨j, rfl, _, h2, _⟩ := idxM_mem (Nat.le_refl _) hx
  omega

/-! #### spec_nfPrimes -/
theorem spec_nfPrimes_l2 (a : Nat) (l : List Int) (ha : a ≤ 4) (hla : l.length = 2 ^ a) (hl16 : l.length ≤ 16) (m v : Nat) (hm : m < 16) (hv : v < 16) (xs : List S124) (hx : xs.length ≤ 1000000) (R : List S124) (d : Nat) : ∀ (i : Nat) (fit : Bool), i + d = a →
    Ev (fun k => spec_nfPrimes.l1 k (xs ++ (if primeF l m v fit i d = true then [⟨(m : Int), (v : Int)⟩] else [])) m (wrap64 ((v : Int) + 1)) a l) R → Ev (fun k => spec_nfPrimes.l2 k xs m v fit i a l m v) R := by
  induction d with
  | zero =>
    intro i fit hi h
    apply ev_up
    simp only [spec_nfPrimes.l2]
    rw [primeF] at h
    refine ev_n (by omega) (ev_ite (fun c => ev_p (by omega) ?_) (fun c => ?_))
    · rw [if_pos c] at h
      exact h
    · rw [if_neg c, List.append_nil] at h
      exact h
  | succ d ih =>
    intro i fit hi h
    have hi4 : i < 4 := by omega
    have hbf := bits_f m v i hm hv hi4
    rw [primeF] at h
    apply ev_up
    simp only [spec_nfPrimes.l2]
    rw [wN (n := (i : Int) + 1) (m := i + 1) (by omega) (by omega)]
    have h2i : 2 ^ i ≤ 2 ^ 3 := Nat.pow_le_pow_right (by decide) (by omega)
    rw [u64w (by omega) (by omega), shl1 i (by omega), andN m (2 ^ i) (by omega) (by omega), andN v (2 ^ i) (by omega) (by omega)]
    refine ev_p (by omega) (ev_p (by omega) (ev_ite (fun c => ?_) (fun c => ?_)))
    · have c' : ¬ (m >>> i) % 2 = 1 := fun hh => hbf.1.2 hh (by exact_mod_cast c)
      rw [show (if (m >>> i) % 2 = 1 ∧ impliesM l (clrB m i) (clrB v i) = true then false else fit) = fit from if_neg (fun hh => c' hh.1)] at h
      exact ih (i + 1) fit (by omega) h
    · have c' : (m >>> i) % 2 = 1 := hbf.1.1 (fun hh => c (by rw [hh]; rfl))
      have hb := hbf.2 c'
      rw [wN (n := (m : Int) - ((2 ^ i : Nat) : Int)) (m := clrB m i) (by omega) (by omega), wN (n := (v : Int) - ((v &&& 2 ^ i : Nat) : Int)) (m := clrB v i) (by unfold clrB; omega) (by omega)]
      refine Ev.bind (spec_nfImplies_ev a (clrB m i) (clrB v i) l ha hla (by omega)) (ev_ite (fun c2 => ?_) (fun c2 => ?_))
      · rw [show (if (m >>> i) % 2 = 1 ∧ impliesM l (clrB m i) (clrB v i) = true then false else fit) = false from if_pos ⟨c', c2⟩] at h
        exact ih (i + 1) false (by omega) h
      · rw [show (if (m >>> i) % 2 = 1 ∧ impliesM l (clrB m i) (clrB v i) = true then false else fit) = fit from if_neg (fun hh => c2 hh.2)] at h
        exact ih (i + 1) fit (by omega) h
theorem spec_nfPrimes_l1 (a : Nat) (l : List Int) (ha : a ≤ 4) (hla : l.length = 2 ^ a) (hl16 : l.length ≤ 16) (m : Nat) (hm : m < 16) (R : List S124) (d : Nat) : ∀ (v : Nat) (xs : List S124), v + d = m + 1 → xs.length + d ≤ 1000000 →
    Ev (fun k => spec_nfPrimes.l0 k (xs ++ valsM l a m v d) (wrap64 ((m : Int) + 1)) a l) R → Ev (fun k => spec_nfPrimes.l1 k xs m v a l) R := by
  induction d with
  | zero =>
    intro v xs hv hx h
    apply ev_up
    simp only [spec_nfPrimes.l1]
    rw [valsM, List.append_nil] at h
    exact ev_n (by omega) h
  | succ d ih =>
    intro v xs hv hx h
    have hvm : v < 16 := by omega
    rw [valsM] at h
    have next : ∀ ys : List S124, ys.length ≤ 1 → Ev (fun k => spec_nfPrimes.l0 k (xs ++ (ys ++ valsM l a m (v + 1) d)) (wrap64 ((m : Int) + 1)) a l) R → Ev (fun k => spec_nfPrimes.l1 k (xs ++ ys) m (wrap64 ((v : Int) + 1)) a l) R := fun ys hys hh => by
      rw [wN (n := (v : Int) + 1) (m := v + 1) (by omega) (by omega)]
      refine ih (v + 1) _ (by omega) (by simp; omega) ?_
      rw [List.append_assoc]
      exact hh
    have skip : ¬ (v &&& m = v ∧ impliesM l m v = true) → Ev (fun k => spec_nfPrimes.l1 k xs m (wrap64 ((v : Int) + 1)) a l) R := fun c => by
      rw [if_neg (fun hh => c ⟨hh.1, hh.2.1⟩)] at h
      have := next [] (by simp) h
      rw [List.append_nil] at this
      exact this
    apply ev_up
    simp only [spec_nfPrimes.l1]
    rw [andN v m (by omega) (by omega)]
    refine ev_p (by omega) (ev_ite (fun c => Ev.bind (spec_nfImplies_ev a m v l ha hla (by omega)) (ev_up ?_)) (fun c => ev_up ?_))
    · have c' : v &&& m = v := by exact_mod_cast c
      simp only [spec_nfPrimes.j2]
      by_cases c2 : impliesM l m v = true
      · rw [c2]
        refine ev_n (by decide) (spec_nfPrimes_l2 a l ha hla hl16 m v hm hvm xs (by omega) R a 0 true (by omega) ?_)
        refine next _ (by split <;> simp) ?_
        have e : (if v &&& m = v ∧ impliesM l m v = true ∧ primeF l m v true 0 a = true then [(⟨(m : Int), (v : Int)⟩ : S124)] else []) = if primeF l m v true 0 a = true then [⟨(m : Int), (v : Int)⟩] else [] := by
          by_cases c3 : primeF l m v true 0 a = true
          · rw [if_pos ⟨c', c2, c3⟩, if_pos c3]
          · rw [if_neg (fun hh => c3 hh.2.2), if_neg c3]
        rw [e] at h
        exact h
      · rw [show impliesM l m v = false by simpa using c2]
        exact ev_p (by trivial) (skip (fun hh => c2 hh.2))
    · simp only [spec_nfPrimes.j2]
      refine ev_p (by trivial) (skip (fun hh => c ?_))
      exact_mod_cast hh.1
theorem spec_nfPrimes_l0 (a : Nat) (l : List Int) (ha : a ≤ 4) (hla : l.length = 2 ^ a) (hl16 : l.length ≤ 16) (d : Nat) : ∀ (m : Nat) (xs : List S124), m + d = 2 ^ a → xs.length ≤ 17 * m →
    Ev (fun k => spec_nfPrimes.l0 k xs m a l) (xs ++ masksM l a m d) := by
  induction d with
  | zero =>
    intro m xs hm hx
    apply ev_up
    simp only [spec_nfPrimes.l0]
    rw [u64w (by omega) (by omega), shl1 a (by omega)]
    refine ev_p (by omega) (ev_n (by omega) (ev_eq (Ev.now _) ?_))
    simp [masksM]
  | succ d ih =>
    intro m xs hm hx
    apply ev_up
    simp only [spec_nfPrimes.l0]
    have hvl := valsM_length l a m (m + 1) 0
    rw [u64w (by omega) (by omega), shl1 a (by omega)]
    refine ev_p (by omega) (ev_p (by omega) ?_)
    refine spec_nfPrimes_l1 a l ha hla hl16 m (by omega) _ (m + 1) 0 xs (by omega) (by omega) ?_
    rw [wN (n := (m : Int) + 1) (m := m + 1) (by omega) (by omega)]
    refine ev_eq (ih (m + 1) _ (by omega) (by simp; omega)) ?_
    simp [masksM]
theorem spec_nfPrimes_ev (a : Nat) (l : List Int) (ha : a ≤ 4) (hla : l.length = 2 ^ a) (hl16 : l.length ≤ 16) : Ev (fun k => spec_nfPrimes.f k a l) (masksM l a 0 (2 ^ a)) := by
  unfold spec_nfPrimes.f
  exact spec_nfPrimes_l0 a l ha hla hl16 (2 ^ a) 0 [] (by omega) (by simp)

/-! #### spec_nfCovers -/
theorem spec_nfCovers_l1 (a : Nat) (l : List Int) (xs : List Int) (ps : List S124) (i : Int) (t : List Int) (ht : ∀ y ∈ t, 0 ≤ y ∧ y < 16) (htl : t.length ≤ 1048576) (R : List Int) (hx : xs.length ≤ 1048576) (r : List Int) : ∀ (p : List Int) (j : Int) (acc : Nat), j = p.length → t = p ++ r → acc < 65536 →
    Ev (fun k => spec_nfCovers.l0 k (xs ++ [(orIdx acc r : Int)]) ps ps.length (wrap64 (i + 1)) a l) R → Ev (fun k => spec_nfCovers.l1 k xs acc ps ps.length i t t.length j a l) R := by
  induction r with
  | nil =>
    intro p j acc hj e ha h
    have hlen : t.length = p.length := by rw [e]; simp
    apply ev_up
    simp only [spec_nfCovers.l1]
    exact ev_n (by omega) (ev_p (by omega) h)
  | cons y r ih =>
    intro p j acc hj e ha h
    have hlen : t.length = p.length + r.length + 1 := by rw [e]; simp; omega
    have hxx : rd t j = y := by rw [e]; exact rdA hj
    have hy := ht y (by rw [e]; simp)
    have hp := pow_lt16 hy.1 hy.2
    obtain ⟨b, rfl⟩ := nat_of hy.1
    rw [Int.toNat_natCast] at hp
    apply ev_up
    simp only [spec_nfCovers.l1]
    refine ev_p (by omega) (ev_p (by omega) (ev_p (by omega) ?_))
    rw [hxx, w64 (n := j + 1) (by omega) (by omega), u64w (by omega) (by omega), shl1 b (by omega), orN acc (2 ^ b) (by omega) (by omega)]
    rw [orIdx, Int.toNat_natCast] at h
    exact ev_p (by omega) (ih (p ++ [(b : Int)]) (j + 1) _ (by simp; omega) (by rw [e]; simp) (or_lt16 ha hp) h)
theorem spec_nfCovers_l0 (a : Nat) (ha : a ≤ 4) (l : List Int) (ps : List S124) (hpl : ps.length ≤ 1048576) (hg : ∀ p ∈ ps, goodP l p) (r : List S124) : ∀ (p : List S124) (i : Int), i = p.length → ps = p ++ r →
    Ev (fun k => spec_nfCovers.l0 k (p.map (fun q => (covN a q : Int))) ps ps.length i a l) (ps.map (fun q => (covN a q : Int))) := by
  induction r with
  | nil =>
    intro p i hi e
    have hlen : ps.length = p.length := by rw [e]; simp
    have e' : ps = p := by rw [e]; simp
    apply ev_up
    simp only [spec_nfCovers.l0]
    rw [e'] at hlen ⊢
    exact ev_n (by omega) (Ev.now _)
  | cons q r ih =>
    intro p i hi e
    have hlen : ps.length = p.length + r.length + 1 := by rw [e]; simp; omega
    have hxx : rd_T124 ps i = q := by rw [e]; exact rdTermA hi
    obtain ⟨m, v, hm, hv, hq, _⟩ := hg q (by rw [e]; simp)
    have hil := idxM_length (2 ^ a) m v (2 ^ a)
    have h8 : 2 ^ a ≤ 2 ^ 4 := Nat.pow_le_pow_right (by decide) ha
    apply ev_up
    simp only [spec_nfCovers.l0]
    refine ev_p (by omega) (ev_p (by omega) (ev_p (by omega) ?_))
    rw [hxx, hq]
    refine Ev.bind (spec_nfIndices_ev a m v ha (by omega)) ?_
    refine spec_nfCovers_l1 a l _ ps i _ (idx_bounds ha m v) (by omega) _ (by simp; omega) _ [] 0 0 rfl rfl (by decide) ?_
    rw [w64 (n := i + 1) (by omega) (by omega)]
    have := ih (p ++ [q]) (i + 1) (by simp; omega) (by rw [e]; simp)
    have e2 : (p ++ [q]).map (fun q => (covN a q : Int)) = p.map (fun q => (covN a q : Int)) ++ [(orIdx 0 (idxM (2 ^ a) m v (2 ^ a)) : Int)] := by
      rw [List.map_append, List.map_cons, List.map_nil, hq]
      rfl
    rw [e2] at this
    exact this

/-! #### spec_nfLeast -/
theorem spec_nfLeast_l1 (ps : List S124) (C : Int) (s : List Nat) (hs : ∀ y ∈ s, y < ps.length) (hsl : s.length ≤ 1048576) (r : List Nat) : ∀ (p : List Nat) (i : Nat), i = p.length → s = p ++ r →
    Ev (fun k => spec_nfLeast.l1 k ps C (termsAt ps p) (intsM s) (intsM s).length i) (termsAt ps s, C) := by
  have hll : (intsM s).length = s.length := by unfold intsM; exact List.length_map _
  induction r with
  | nil =>
    intro p i hi e
    have e' : s = p := by rw [e]; simp
    apply ev_up
    simp only [spec_nfLeast.l1]
    refine ev_n (by rw [hll, e']; omega) (ev_eq (Ev.now _) ?_)
    rw [e']
  | cons y r ih =>
    intro p i hi e
    have hlen : s.length = p.length + r.length + 1 := by rw [e]; simp; omega
    have hxx := rdCov e hi
    have hy := hs y (by rw [e]; simp)
    have ht : (termsAt ps p).length = p.length := by unfold termsAt; exact List.length_map _
    apply ev_up
    simp only [spec_nfLeast.l1]
    refine ev_p (by omega) (ev_p (by omega) (ev_p (by omega) ?_))
    rw [hxx, wN (n := (i : Int) + 1) (m := i + 1) (by omega) (by omega)]
    refine ev_p (by omega) (ev_p (by omega) (ev_p (by omega) ?_))
    have := ih (p ++ [y]) (i + 1) (by simp; omega) (by rw [e]; simp)
    rw [show termsAt ps (p ++ [y]) = termsAt ps p ++ [rd_T124 ps (y : Int)] by unfold termsAt; rw [List.map_append]; rfl] at this
    exact this
theorem spec_nfLeast_l0 (l : List Int) (a : Nat) (ha : a ≤ 4) (hl : l.length = 2 ^ a) (ps : List S124) (hps : ps = masksM l a 0 (2 ^ a)) (d : Nat) : ∀ m, m + d = 16 → (∃ t, m ≤ t ∧ t ≤ 16 ∧ solsM (ps.map (covN a)) 0 t (goalN l (2 ^ a)) ≠ []) →
    Ev (fun k => spec_nfLeast.l0 k ps (intsM (ps.map (covN a))) m a l) (termsAt ps (headM (leastF (ps.map (covN a)) (goalN l (2 ^ a)) d m)), ((leastF (ps.map (covN a)) (goalN l (2 ^ a)) d m).length : Int)) := by
  have h8 : 2 ^ a ≤ 2 ^ 4 := Nat.pow_le_pow_right (by decide) ha
  have hcl : (ps.map (covN a)).length ≤ 81 := by rw [List.length_map, hps]; exact primes_81 ha l
  have hcs : ∀ c ∈ ps.map (covN a), c < 65536 := fun c hc => by
    obtain ⟨p, _, rfl⟩ := List.mem_map.1 hc
    exact covN_lt ha p
  have hg := goalN_lt l (2 ^ a) (by omega)
  have ho := spec_nfOnes_ev (a : Int) l (by omega)
  rw [hl] at ho
  have hit : ∀ m, m ≤ 16 → solsM (ps.map (covN a)) 0 m (goalN l (2 ^ a)) ≠ [] → Ev (fun k => spec_nfLeast.l0 k ps (intsM (ps.map (covN a))) m a l) (termsAt ps (headM (solsM (ps.map (covN a)) 0 m (goalN l (2 ^ a)))), ((solsM (ps.map (covN a)) 0 m (goalN l (2 ^ a))).length : Int)) := fun m hm hne => by
    apply ev_up
    simp only [spec_nfLeast.l0]
    refine Ev.bind ho (Ev.bind (spec_nfSearch_ev _ hcs hcl m _ hm hg) ?_)
    have hlens := sols_len (ps.map (covN a)) 0 m (goalN l (2 ^ a))
    generalize solsM (ps.map (covN a)) 0 m (goalN l (2 ^ a)) = S at hne hlens ⊢
    obtain ⟨s, S', rfl⟩ : ∃ s S', S = s :: S' := by
      cases S with
      | nil => exact absurd rfl hne
      | cons s S' => exact ⟨s, S', rfl⟩
    have e1 : combM intsM ([], 0) (s :: S') = (intsM s, ((s :: S').length : Int)) := by unfold combM; simp [headM]
    rw [e1]
    obtain ⟨hs1, hs2⟩ := hlens s (by simp)
    refine ev_n (by simp only [List.length_cons]; omega) ?_
    exact spec_nfLeast_l1 ps _ s (fun y hy => by have := (hs2 y hy).2; rw [List.length_map] at this; omega) (by omega) s [] 0 rfl rfl
  induction d with
  | zero =>
    intro m hm ⟨t, h1, h2, h3⟩
    obtain rfl : t = m := by omega
    exact hit t h2 h3
  | succ d ih =>
    intro m hm ⟨t, h1, h2, h3⟩
    by_cases c : solsM (ps.map (covN a)) 0 m (goalN l (2 ^ a)) = []
    · rw [leastF, if_pos c]
      have hmt : m ≠ t := fun hh => h3 (hh ▸ c)
      apply ev_up
      simp only [spec_nfLeast.l0]
      refine Ev.bind ho (Ev.bind (spec_nfSearch_ev _ hcs hcl m _ (by omega) hg) ?_)
      rw [c, comb_nil, wN (n := (m : Int) + 1) (m := m + 1) (by omega) (by omega)]
      exact ev_p rfl (ih (m + 1) (by omega) ⟨t, by omega, h2, h3⟩)
    · rw [leastF, if_neg c]
      exact hit m (by omega) c
theorem spec_nfLeast_ev (l : List Int) (a : Nat) (ha : a ≤ 4) (hl : l.length = 2 ^ a) : Ev (fun k => spec_nfLeast.f k a l) (leastRes l a) := by
  have h8 : 2 ^ a ≤ 2 ^ 4 := Nat.pow_le_pow_right (by decide) ha
  obtain ⟨h1, h2⟩ := primes_facts ha l
  unfold spec_nfLeast.f
  refine Ev.bind (spec_nfPrimes_ev a l ha hl (by omega)) ?_
  have hc : Ev (fun k => spec_nfCovers.f k a l (masksM l a 0 (2 ^ a))) ((masksM l a 0 (2 ^ a)).map (fun q => (covN a q : Int))) := by
    unfold spec_nfCovers.f
    exact spec_nfCovers_l0 a ha l _ (by omega) h2 _ [] 0 rfl rfl
  refine Ev.bind hc ?_
  rw [show (masksM l a 0 (2 ^ a)).map (fun q => (covN a q : Int)) = intsM ((masksM l a 0 (2 ^ a)).map (covN a)) by unfold intsM; rw [List.map_map]; rfl]
  obtain ⟨t, h3, h4⟩ := least_some l a ha hl
  exact spec_nfLeast_l0 l a ha hl _ rfl 16 0 rfl ⟨t, by omega, h3, h4⟩

/-! #### impl_leastCov -/
def covP (p : S124) : Nat → Nat
  | 0 => 0
  | j + 1 => if covE p j = true then covP p j ||| 2 ^ j else covP p j
theorem covP_bit (p : S124) (x : Nat) (n : Nat) : (covP p n).testBit x = true ↔ x < n ∧ covE p x = true := by
  induction n with
  | zero => simp [covP]
  | succ n ih =>
    rw [covP]
    split
    · rename_i h
      rw [Nat.testBit_or, Bool.or_eq_true, ih, Nat.testBit_two_pow, decide_eq_true_eq]
      constructor
      · rintro (⟨h1, h2⟩ | rfl)
        · exact ⟨by omega, h2⟩
        · exact ⟨by omega, h⟩
      · rintro ⟨h1, h2⟩
        by_cases c : n = x
        · exact Or.inr c
        · exact Or.inl ⟨by omega, h2⟩
    · rename_i h
      rw [ih]
      constructor
      · rintro ⟨h1, h2⟩
        exact ⟨by omega, h2⟩
      · rintro ⟨h1, h2⟩
        refine ⟨?_, h2⟩
        by_cases c : x = n
        · subst c; exact absurd h2 h
        · omega
theorem covP_covN {a : Nat} (p : S124) : covP p (2 ^ a) = covN a p := by
  apply Nat.eq_of_testBit_eq
  intro x
  rw [Bool.eq_iff_iff, covP_bit, covN_bit]
theorem covP_lt (p : S124) (n : Nat) (hn : n ≤ 16) : covP p n < 65536 := by
  induction n with
  | zero => simp [covP]
  | succ n ih =>
    rw [covP]
    split
    · exact or_lt16 (ih (by omega)) (by have : 2 ^ n ≤ 2 ^ 15 := Nat.pow_le_pow_right (by decide) (by omega); omega)
    · exact ih (by omega)
theorem impl_cov_eq {l : List Int} {p : S124} (hg : goodP l p) (n : Nat) (hn : n ≤ 16) : impl_leastSums.cov p n = ((covP p n : Nat) : Int) := by
  induction n with
  | zero => rfl
  | succ n ih =>
    obtain ⟨m, v, hm, hv, rfl, _⟩ := hg
    have hlt := covP_lt ⟨(m : Int), (v : Int)⟩ n (by omega)
    have h2n : 2 ^ n ≤ 2 ^ 15 := Nat.pow_le_pow_right (by decide) (by omega)
    rw [impl_leastSums.cov, covP, ih (by omega), andN n m (by omega) (by omega), shl1 n (by omega), orN _ (2 ^ n) (by omega) (by omega)]
    unfold covE
    simp only [Int.toNat_natCast, decide_eq_true_eq]
    by_cases c : n &&& m = v
    · rw [if_pos c, if_pos (by exact_mod_cast c)]
    · rw [if_neg c, if_neg (fun hh => c (by exact_mod_cast hh))]
theorem impl_covs_eq {l : List Int} {a : Nat} (ha : a ≤ 4) (ps : List S124) (hg : ∀ p ∈ ps, goodP l p) : impl_leastSums.covs ps (2 ^ a) = intsM (ps.map (covN a)) := by
  have h8 : 2 ^ a ≤ 2 ^ 4 := Nat.pow_le_pow_right (by decide) ha
  unfold impl_leastSums.covs intsM
  rw [List.map_map]
  apply List.map_congr_left
  intro p hp
  rw [impl_cov_eq (hg p hp) (2 ^ a) (by omega), covP_covN]
  rfl
theorem impl_bh_eq (cs : List Nat) (hcs : ∀ c ∈ cs, c < 65536) (d : Nat) : d ≤ cs.length → impl_leastSums.bh (intsM cs) cs.length d = rmap (cs.length + 1) (fun i => if cs.length - d ≤ i then ((unionM (cs.drop i) : Nat) : Int) else 0) := by
  induction d with
  | zero =>
    intro _
    rw [impl_leastSums.bh, rmap_const]
    apply rmap_congr
    intro k hk
    split
    · have : k = cs.length := by omega
      subst this
      simp [unionM]
    · rfl
  | succ d ih =>
    intro hd
    have hi : cs.length - 1 - d < cs.length := by omega
    have hdr : cs.drop (cs.length - 1 - d) = cs[cs.length - 1 - d] :: cs.drop (cs.length - d) := by
      rw [List.drop_eq_getElem_cons hi]
      congr 2
      omega
    have hu := union_lt (cs.drop (cs.length - d)) (fun c hc => hcs c (List.mem_of_mem_drop hc))
    have hcv := hcs _ (List.getElem_mem hi)
    have h1 : rd (rmap (cs.length + 1) (fun i => if cs.length - d ≤ i then ((unionM (cs.drop i) : Nat) : Int) else 0)) ((cs.length : Int) - 1 - d + 1) = ((unionM (cs.drop (cs.length - d)) : Nat) : Int) := by
      rw [show (cs.length : Int) - 1 - d + 1 = ((cs.length - d : Nat) : Int) by omega]
      unfold rd
      rw [rmap_get (by omega), if_pos (Nat.le_refl _)]
    have h2 : rd (intsM cs) ((cs.length : Int) - 1 - d) = ((cs[cs.length - 1 - d] : Nat) : Int) := by
      rw [show (cs.length : Int) - 1 - d = ((cs.length - 1 - d : Nat) : Int) by omega, rdN (by unfold intsM; rw [List.length_map]; exact hi)]
      simp [intsM]
    rw [impl_leastSums.bh, ih (by omega), h1, h2, orN _ _ (by omega) (by omega), rmap_set (by omega)]
    apply rmap_congr
    intro k hk
    by_cases c : k = cs.length - 1 - d
    · subst c
      rw [if_pos rfl, if_pos (by omega), hdr]
      congr 1
      show _ = cs[cs.length - 1 - d] ||| unionM (cs.drop (cs.length - d))
      exact Nat.or_comm _ _
    · rw [if_neg c]
      by_cases c2 : cs.length - d ≤ k
      · rw [if_pos c2, if_pos (by omega)]
      · rw [if_neg c2, if_neg (by omega)]

/-! #### impl_numberOf -/
theorem impl_numberOf_l0 (l : List Int) (hl : l.length ≤ 16) (hb : ∀ x ∈ l, 0 ≤ x ∧ x ≤ 1) (d : Nat) : ∀ (i acc : Nat), i + d = l.length → acc < 65536 →
    Ev (fun k => impl_numberOf.l0 k acc l l.length i) ((orIdx acc (onesF l i d) : Nat) : Int) := by
  induction d with
  | zero =>
    intro i acc hi ha
    apply ev_up
    simp only [impl_numberOf.l0]
    refine ev_n (by omega) (ev_eq (Ev.now _) ?_)
    simp [onesF, orIdx]
  | succ d ih =>
    intro i acc hi ha
    have hil : i < l.length := by omega
    have hx := hb (l[i]) (List.getElem_mem hil)
    have hr := rdN hil
    apply ev_up
    simp only [impl_numberOf.l0]
    have hp := pow_lt16 (y := (i : Int)) (by omega) (by omega)
    rw [Int.toNat_natCast] at hp
    refine ev_p (by omega) (ev_p (by omega) (ev_p (by omega) ?_))
    rw [wN (n := (i : Int) + 1) (m := i + 1) (by omega) (by omega), onesF]
    by_cases c : rd l (i : Int) = 1
    · rw [if_pos c, c, shl1 i (by omega), orN acc (2 ^ i) (by omega) (by omega)]
      refine ev_eq (ih (i + 1) _ (by omega) (or_lt16 ha hp)) ?_
      show _ = ((orIdx (acc ||| 2 ^ ((i : Int)).toNat) (onesF l (i + 1) d) : Nat) : Int)
      rw [Int.toNat_natCast]
    · have c0 : rd l (i : Int) = ((0 : Nat) : Int) := by rw [hr] at c ⊢; omega
      rw [if_neg c, c0, shlN 0 i (by omega) (by simp), orN acc (0 * 2 ^ i) (by omega) (by simp), Nat.zero_mul, Nat.or_zero, List.nil_append]
      exact ih (i + 1) _ (by omega) ha
theorem impl_numberOf_ev (l : List Int) (hl : l.length ≤ 16) (hb : ∀ x ∈ l, 0 ≤ x ∧ x ≤ 1) : Ev (fun k => impl_numberOf.f k l) ((goalN l l.length : Nat) : Int) := by
  unfold impl_numberOf.f goalN
  exact impl_numberOf_l0 l hl hb l.length 0 0 (by omega) (by decide)

/-! #### impl_implies -/
theorem impl_implies_l0 (l : List Int) (m v : Nat) (hm : m < 65536) (hl : l.length ≤ 1048576) (d : Nat) : ∀ (i : Nat), i + d = l.length →
    Ev (fun k => impl_implies.l0 k l l.length i m v) ((idxM l.length m v d).all (nz l)) := by
  induction d with
  | zero =>
    intro i hi
    apply ev_up
    simp only [impl_implies.l0]
    exact ev_n (by omega) (Ev.now _)
  | succ d ih =>
    intro i hi
    have e : l.length - (d + 1) = i := by omega
    have ih' := ih (i + 1) (by omega)
    apply ev_up
    simp only [impl_implies.l0]
    refine ev_p (by omega) (ev_p (by omega) (ev_p (by omega) ?_))
    rw [andN i m (by omega) (by omega), wN (m := i + 1) (by omega) (by omega)]
    unfold idxM
    rw [e, List.all_append]
    refine ev_ite (fun h => ev_ite (fun h2 => ?_) (fun h2 => ?_)) (fun h => ?_)
    · have h' : i &&& m = v := by exact_mod_cast h2
      rw [if_pos h', List.all_cons, show nz l (i : Int) = false from decide_eq_false (fun hh => hh h), Bool.false_and, Bool.false_and]
      exact Ev.now _
    · have h' : ¬ i &&& m = v := fun h3 => h2 (by exact_mod_cast h3)
      rw [if_neg h', List.all_nil, Bool.true_and]
      exact ih'
    · have e2 : (if i &&& m = v then [(i : Int)] else []).all (nz l) = true := by
        split
        · simp [nz, h]
        · rfl
      rw [e2, Bool.true_and]
      exact ih'
theorem impl_implies_ev (n : Int) (l : List Int) (m v : Nat) (hm : m < 65536) (hl : l.length ≤ 1048576) : Ev (fun k => impl_implies.f k n l m v) (impliesM l m v) := by
  unfold impl_implies.f impliesM
  exact impl_implies_l0 l m v hm hl l.length 0 (by omega)

/-! #### impl_primesOf -/
theorem impl_primesOf_l2 (a : Nat) (l : List Int) (ha : a ≤ 4) (hla : l.length = 2 ^ a) (hl16 : l.length ≤ 16) (m v : Nat) (hm : m < 16) (hv : v < 16) (xs : List S124) (hx : xs.length ≤ 1000000) (R : List S124) (d : Nat) : ∀ (i : Nat) (fit : Bool), i + d = a →
    Ev (fun k => impl_primesOf.l1 k (xs ++ (if primeF l m v fit i d = true then [⟨(m : Int), (v : Int)⟩] else [])) m (wrap64 ((v : Int) + 1)) a l) R → Ev (fun k => impl_primesOf.l2 k xs m v fit i a l m v) R := by
  induction d with
  | zero =>
    intro i fit hi h
    apply ev_up
    simp only [impl_primesOf.l2]
    rw [primeF] at h
    refine ev_n (by omega) (ev_ite (fun c => ev_p (by omega) ?_) (fun c => ?_))
    · rw [if_pos c] at h
      exact h
    · rw [if_neg c, List.append_nil] at h
      exact h
  | succ d ih =>
    intro i fit hi h
    have hi4 : i < 4 := by omega
    have hbf := bits_f m v i hm hv hi4
    rw [primeF] at h
    apply ev_up
    simp only [impl_primesOf.l2]
    rw [wN (n := (i : Int) + 1) (m := i + 1) (by omega) (by omega)]
    have h2i : 2 ^ i ≤ 2 ^ 3 := Nat.pow_le_pow_right (by decide) (by omega)
    rw [bit_and1 m i (by omega) (by omega), shl1 i (by omega), andNotN m (2 ^ i) (by omega) (by omega), andNotN v (2 ^ i) (by omega) (by omega)]
    refine ev_p (by omega) (ev_p (by omega) (ev_ite (fun c => ?_) (fun c => ?_)))
    · have c' : (m >>> i) % 2 = 1 := by exact_mod_cast c
      have hb := hbf.2 c'
      rw [hb.2.2.1, hb.2.2.2]
      refine Ev.bind (impl_implies_ev a l (clrB m i) (clrB v i) (by omega) (by omega)) (ev_ite (fun c2 => ?_) (fun c2 => ?_))
      · rw [show (if (m >>> i) % 2 = 1 ∧ impliesM l (clrB m i) (clrB v i) = true then false else fit) = false from if_pos ⟨c', c2⟩] at h
        exact ih (i + 1) false (by omega) h
      · rw [show (if (m >>> i) % 2 = 1 ∧ impliesM l (clrB m i) (clrB v i) = true then false else fit) = fit from if_neg (fun hh => c2 hh.2)] at h
        exact ih (i + 1) fit (by omega) h
    · have c' : ¬ (m >>> i) % 2 = 1 := fun hh => c (by exact_mod_cast hh)
      rw [show (if (m >>> i) % 2 = 1 ∧ impliesM l (clrB m i) (clrB v i) = true then false else fit) = fit from if_neg (fun hh => c' hh.1)] at h
      exact ih (i + 1) fit (by omega) h
theorem impl_primesOf_l1 (a : Nat) (l : List Int) (ha : a ≤ 4) (hla : l.length = 2 ^ a) (hl16 : l.length ≤ 16) (m : Nat) (hm : m < 16) (R : List S124) (d : Nat) : ∀ (v : Nat) (xs : List S124), v + d = m + 1 → xs.length + d ≤ 1000000 →
    Ev (fun k => impl_primesOf.l0 k (xs ++ valsM l a m v d) (wrap64 ((m : Int) + 1)) a l) R → Ev (fun k => impl_primesOf.l1 k xs m v a l) R := by
  induction d with
  | zero =>
    intro v xs hv hx h
    apply ev_up
    simp only [impl_primesOf.l1]
    rw [valsM, List.append_nil] at h
    exact ev_n (by omega) h
  | succ d ih =>
    intro v xs hv hx h
    have hvm : v < 16 := by omega
    rw [valsM] at h
    have next : ∀ ys : List S124, ys.length ≤ 1 → Ev (fun k => impl_primesOf.l0 k (xs ++ (ys ++ valsM l a m (v + 1) d)) (wrap64 ((m : Int) + 1)) a l) R → Ev (fun k => impl_primesOf.l1 k (xs ++ ys) m (wrap64 ((v : Int) + 1)) a l) R := fun ys hys hh => by
      rw [wN (n := (v : Int) + 1) (m := v + 1) (by omega) (by omega)]
      refine ih (v + 1) _ (by omega) (by simp; omega) ?_
      rw [List.append_assoc]
      exact hh
    have skip : ¬ (v &&& m = v ∧ impliesM l m v = true) → Ev (fun k => impl_primesOf.l1 k xs m (wrap64 ((v : Int) + 1)) a l) R := fun c => by
      rw [if_neg (fun hh => c ⟨hh.1, hh.2.1⟩)] at h
      have := next [] (by simp) h
      rw [List.append_nil] at this
      exact this
    apply ev_up
    simp only [impl_primesOf.l1]
    rw [andNotN v m (by omega) (by omega)]
    refine ev_p (by omega) (ev_ite (fun c => Ev.bind (impl_implies_ev a l m v (by omega) (by omega)) (ev_up ?_)) (fun c => ev_up ?_))
    · have c' : v &&& m = v := ((xor_eq_zero v (v &&& m)).1 (by exact_mod_cast c)).symm
      simp only [impl_primesOf.j2]
      by_cases c2 : impliesM l m v = true
      · rw [c2]
        refine ev_n (by decide) (impl_primesOf_l2 a l ha hla hl16 m v hm hvm xs (by omega) R a 0 true (by omega) ?_)
        refine next _ (by split <;> simp) ?_
        have e : (if v &&& m = v ∧ impliesM l m v = true ∧ primeF l m v true 0 a = true then [(⟨(m : Int), (v : Int)⟩ : S124)] else []) = if primeF l m v true 0 a = true then [⟨(m : Int), (v : Int)⟩] else [] := by
          by_cases c3 : primeF l m v true 0 a = true
          · rw [if_pos ⟨c', c2, c3⟩, if_pos c3]
          · rw [if_neg (fun hh => c3 hh.2.2), if_neg c3]
        rw [e] at h
        exact h
      · rw [show impliesM l m v = false by simpa using c2]
        exact ev_p (by trivial) (skip (fun hh => c2 hh.2))
    · simp only [impl_primesOf.j2]
      refine ev_p (by trivial) (skip (fun hh => c ?_))
      have e := (xor_eq_zero v (v &&& m)).2 hh.1.symm; exact_mod_cast e
theorem impl_primesOf_l0 (a : Nat) (l : List Int) (ha : a ≤ 4) (hla : l.length = 2 ^ a) (hl16 : l.length ≤ 16) (d : Nat) : ∀ (m : Nat) (xs : List S124), m + d = 2 ^ a → xs.length ≤ 17 * m →
    Ev (fun k => impl_primesOf.l0 k xs m a l) (xs ++ masksM l a m d) := by
  induction d with
  | zero =>
    intro m xs hm hx
    apply ev_up
    simp only [impl_primesOf.l0]
    refine (ev_n (by omega) (ev_eq (Ev.now _) ?_))
    simp [masksM]
  | succ d ih =>
    intro m xs hm hx
    apply ev_up
    simp only [impl_primesOf.l0]
    have hvl := valsM_length l a m (m + 1) 0
    refine (ev_p (by omega) ?_)
    refine impl_primesOf_l1 a l ha hla hl16 m (by omega) _ (m + 1) 0 xs (by omega) (by omega) ?_
    rw [wN (n := (m : Int) + 1) (m := m + 1) (by omega) (by omega)]
    refine ev_eq (ih (m + 1) _ (by omega) (by simp; omega)) ?_
    simp [masksM]
theorem impl_primesOf_ev (a : Nat) (l : List Int) (ha : a ≤ 4) (hla : l.length = 2 ^ a) (hl16 : l.length ≤ 16) : Ev (fun k => impl_primesOf.f k a l) (masksM l a 0 (2 ^ a)) := by
  unfold impl_primesOf.f
  exact impl_primesOf_l0 a l ha hla hl16 (2 ^ a) 0 [] (by omega) (by simp)

/-! #### impl_leastSums -/
theorem impl_leastSums_n (l : List Int) (a : Nat) (ha : a ≤ 4) (hl : l.length = 2 ^ a) (hb : ∀ x ∈ l, 0 ≤ x ∧ x ≤ 1) (ps : List S124) (hps : ps = masksM l a 0 (2 ^ a)) (bh : List Int) (hbl : bh.length = (ps.map (covN a)).length + 1) (hbh : ∀ i, i ≤ (ps.map (covN a)).length → rd bh (i : Int) = ((unionM ((ps.map (covN a)).drop i) : Nat) : Int)) (d : Nat) : ∀ m, m + d = 16 → (∃ t, m ≤ t ∧ t ≤ 16 ∧ solsM (ps.map (covN a)) 0 t (goalN l (2 ^ a)) ≠ []) →
    Ev (fun k => impl_leastSums.n k (goalN l (2 ^ a) : Nat) ps (intsM (ps.map (covN a))) bh m ([], 0)) (termsAt ps (headM (leastF (ps.map (covN a)) (goalN l (2 ^ a)) d m)), ((leastF (ps.map (covN a)) (goalN l (2 ^ a)) d m).length : Int)) := by
  have h8 : 2 ^ a ≤ 2 ^ 4 := Nat.pow_le_pow_right (by decide) ha
  have hgood : ∀ p ∈ ps, goodP l p := by rw [hps]; exact (primes_facts ha l).2
  have hcl : (ps.map (covN a)).length ≤ 81 := by rw [List.length_map, hps]; exact primes_81 ha l
  have hcs : ∀ c ∈ ps.map (covN a), c < 65536 := fun c hc => by
    obtain ⟨p, _, rfl⟩ := List.mem_map.1 hc
    exact covN_lt ha p
  have hcg : ∀ c ∈ ps.map (covN a), c &&& goalN l (2 ^ a) = c := fun c hc => by
    obtain ⟨p, hp, rfl⟩ := List.mem_map.1 hc
    exact cov_sub hl hb (hgood p hp)
  have hg := goalN_lt l (2 ^ a) (by omega)
  have he : ∀ m : Nat, m ≤ 16 → Ev (fun k => impl_leastSums.e (fun a' b c d f => impl_leastSums.l k (goalN l (2 ^ a) : Nat) ps (intsM (ps.map (covN a))) bh a' b c d f) (goalN l (2 ^ a) : Nat) [] 0 0 m ([], 0)) (combM (termsAt ps) ([], 0) (solsM (ps.map (covN a)) 0 m (goalN l (2 ^ a)))) := fun m hm => by
    have hch := choose_small hcl hm
    unfold impl_leastSums.e
    refine ev_ite (fun c3 => ?_) (fun c3 => ?_)
    · obtain rfl : m = 0 := by omega
      have es : solsM (ps.map (covN a)) 0 0 (goalN l (2 ^ a)) = if goalN l (2 ^ a) = 0 then [[]] else [] := by rw [solsM]
      rw [es]
      refine ev_eq (Ev.now _) ?_
      unfold impl_leastSums.leaf
      by_cases c4 : goalN l (2 ^ a) = 0
      · rw [if_pos (by rw [c4]; rfl), if_pos c4]
        simp [combM, headM, termsAt, wrap64]
      · rw [if_neg (fun hh => c4 (by exact_mod_cast hh.symm)), if_neg c4, comb_nil]
    · have := impl_leastSums_l (goalN l (2 ^ a)) hg ps (ps.map (covN a)) hcs hcg (by rw [List.length_map]) hcl bh hbl hbh (ps.map (covN a)) [] 0 m 0 [] ([], 0) rfl rfl hm (by decide) (by simp) (by simp) (Int.le_refl _) (by simp only []; omega) (by omega)
      simp only [Nat.and_zero, Nat.xor_zero, List.nil_append] at this
      exact this
  have hcount : ∀ m : Nat, m ≤ 16 → (ps.length : Int) < m → solsM (ps.map (covN a)) 0 m (goalN l (2 ^ a)) = [] := fun m hm h => sols_few _ _ _ _ (by rw [List.length_map]; omega)
  have hit : ∀ m : Nat, m ≤ 16 → solsM (ps.map (covN a)) 0 m (goalN l (2 ^ a)) ≠ [] → Ev (fun k => impl_leastSums.n k (goalN l (2 ^ a) : Nat) ps (intsM (ps.map (covN a))) bh m ([], 0)) (termsAt ps (headM (solsM (ps.map (covN a)) 0 m (goalN l (2 ^ a)))), ((solsM (ps.map (covN a)) 0 m (goalN l (2 ^ a))).length : Int)) := fun m hm hne => by
    apply ev_up
    simp only [impl_leastSums.n]
    refine ev_p (Int.not_lt.1 (fun hh => hne (hcount m hm hh))) (Ev.bind (he m hm) ?_)
    generalize solsM (ps.map (covN a)) 0 m (goalN l (2 ^ a)) = S at hne ⊢
    obtain ⟨s, S', rfl⟩ : ∃ s S', S = s :: S' := by
      cases S with
      | nil => exact absurd rfl hne
      | cons s S' => exact ⟨s, S', rfl⟩
    have e1 : combM (termsAt ps) ([], 0) (s :: S') = (termsAt ps (headM (s :: S')), ((s :: S').length : Int)) := by unfold combM; simp
    rw [e1]
    exact ev_p (by simp only [List.length_cons]; omega) (Ev.now _)
  induction d with
  | zero =>
    intro m hm ⟨t, h1, h2, h3⟩
    obtain rfl : t = m := by omega
    exact hit t h2 h3
  | succ d ih =>
    intro m hm ⟨t, h1, h2, h3⟩
    have htl : (t : Int) ≤ ps.length := Int.not_lt.1 (fun hh => h3 (hcount t h2 hh))
    by_cases c : solsM (ps.map (covN a)) 0 m (goalN l (2 ^ a)) = []
    · rw [leastF, if_pos c]
      have hmt : m ≠ t := fun hh => h3 (hh ▸ c)
      apply ev_up
      simp only [impl_leastSums.n]
      refine ev_p (by omega) (Ev.bind (he m (by omega)) ?_)
      rw [c, comb_nil, wN (n := (m : Int) + 1) (m := m + 1) (by omega) (by omega)]
      exact ev_n (by decide) (ih (m + 1) (by omega) ⟨t, by omega, h2, h3⟩)
    · rw [leastF, if_neg c]
      exact hit m (by omega) c
theorem impl_leastSums_ev (l : List Int) (a : Nat) (ha : a ≤ 4) (hl : l.length = 2 ^ a) (hb : ∀ x ∈ l, 0 ≤ x ∧ x ≤ 1) : Ev (fun k => impl_leastSums.f k a l) (leastRes l a) := by
  have h8 : 2 ^ a ≤ 2 ^ 4 := Nat.pow_le_pow_right (by decide) ha
  obtain ⟨h1, h2⟩ := primes_facts ha l
  unfold impl_leastSums.f
  refine Ev.bind (impl_primesOf_ev a l ha hl (by omega)) (ev_p ⟨by omega, by omega⟩ (Ev.bind (impl_numberOf_ev l (by omega) hb) ?_))
  have hcs : ∀ c ∈ (masksM l a 0 (2 ^ a)).map (covN a), c < 65536 := fun c hc => by
    obtain ⟨p, _, rfl⟩ := List.mem_map.1 hc
    exact covN_lt ha p
  have hcl : ((masksM l a 0 (2 ^ a)).map (covN a)).length = (masksM l a 0 (2 ^ a)).length := List.length_map _
  have hbe := impl_bh_eq _ hcs ((masksM l a 0 (2 ^ a)).map (covN a)).length (Nat.le_refl _)
  rw [hl, impl_covs_eq ha _ h2, ← hcl, hbe]
  obtain ⟨t, h3, h4⟩ := least_some l a ha hl
  refine impl_leastSums_n l a ha hl hb _ rfl _ (rmap_length _ _) (fun i hi => ?_) 16 0 rfl ⟨t, by omega, h3, h4⟩
  unfold rd
  rw [rmap_get (by omega), if_pos (by omega)]

/-! #### l1In -/
theorem l1In_eq (a b c : Int) : spec_l1In.f a b c = some (decide (b ≤ a ∧ a ≤ c)) := by
  unfold spec_l1In.f
  by_cases h : b ≤ a
  · rw [if_pos h]; simp [h]
  · rw [if_neg h]; simp [h]

/-! #### l1All -/
def inB (a b : Int) (x : Int) : Bool := decide (a ≤ x ∧ x ≤ b)
theorem l1All_l0 (l : List Int) (a b : Int) (hl : l.length ≤ 9223372036854775807) (r : List Int) : ∀ (p : List Int) (i : Int), i = p.length → l = p ++ r →
    Ev (fun k => spec_l1All.l0 k a b l l.length i) (r.all (inB a b)) := by
  induction r with
  | nil =>
    intro p i hi e
    have hlen : l.length = p.length := by rw [e]; simp
    apply ev_up
    simp only [spec_l1All.l0]
    exact ev_n (by omega) (Ev.now _)
  | cons x r ih =>
    intro p i hi e
    have hlen : l.length = p.length + r.length + 1 := by rw [e]; simp; omega
    have hx : rd l i = x := by rw [e]; exact rdA hi
    have ih' := ih (p ++ [x]) (i + 1) (by simp; omega) (by rw [e]; simp)
    apply ev_up
    simp only [spec_l1All.l0]
    refine ev_p (by omega) (ev_p (by omega) (ev_p (by omega) ?_))
    rw [hx, l1In_eq]
    refine Ev.bind (ev_c rfl) ?_
    refine ev_ite (fun h => ?_) (fun h => ?_)
    · rw [w64 (by omega) (by omega)]
      refine ev_eq ih' ?_
      rw [List.all_cons, show inB a b x = true from h, Bool.true_and]
    · refine ev_eq (Ev.now _) ?_
      rw [List.all_cons, show inB a b x = false from decide_eq_false (fun hh => h (decide_eq_true hh)), Bool.false_and]
theorem l1All_ev (l : List Int) (a b : Int) (hl : l.length ≤ 9223372036854775807) : Ev (fun k => spec_l1All.f k l a b) (l.all (inB a b)) := by
  unfold spec_l1All.f
  exact l1All_l0 l a b hl l [] 0 rfl rfl

/-! #### ttInputs -/
theorem ttInputs_eq (a : Int) : spec_ttInputs.f a = some (decide (0 ≤ a ∧ a ≤ 4)) := by
  unfold spec_ttInputs.f
  rw [l1In_eq, Option.bind_some]

/-! #### tableM -/
def tableM (n : Int) (l : List Int) : Bool := decide (0 ≤ n ∧ n ≤ 4 ∧ l.length = 2 ^ n.toNat) && l.all (inB 0 1)
theorem tableM_of {n : Int} {l : List Int} (h : tableM n l = true) : ∃ a : Nat, n = a ∧ a ≤ 4 ∧ l.length = 2 ^ a ∧ l.length ≤ 16 ∧ ∀ x ∈ l, 0 ≤ x ∧ x ≤ 1 := by
  unfold tableM at h
  rw [Bool.and_eq_true, List.all_eq_true] at h
  obtain ⟨h1, h2, h3⟩ := of_decide_eq_true h.1
  obtain ⟨a, rfl⟩ := nat_of h1
  simp only [Int.toNat_natCast] at h3
  have h8 : 2 ^ a ≤ 2 ^ 4 := Nat.pow_le_pow_right (by decide) (by omega)
  exact ⟨a, rfl, by omega, h3, by omega, fun x hx => of_decide_eq_true (h.2 x hx)⟩

/-! #### spec_ttGood -/
theorem spec_ttGood_ev (n : Int) (l : List Int) (hl : l.length ≤ 9223372036854775807) : Ev (fun k => spec_ttGood.f k n l) (tableM n l) := by
  unfold spec_ttGood.f tableM
  rw [ttInputs_eq]
  refine Ev.bind (ev_c rfl) (ev_ite (fun h => ?_) (fun h => ?_))
  · have h' := of_decide_eq_true h
    obtain ⟨a, rfl⟩ := nat_of h'.1
    rw [u64w (by omega) (by omega), shl1 a (by omega)]
    refine ev_p (by omega) (ev_ite (fun h2 => ?_) (fun h2 => ?_))
    · have h3 : l.length = 2 ^ a := by exact_mod_cast h2
      rw [decide_eq_true ⟨h'.1, h'.2, by simpa using h3⟩, Bool.true_and]
      exact Ev.bind (l1All_ev l 0 1 hl) (Ev.now _)
    · rw [decide_eq_false (fun hh => h2 (by have := hh.2.2; simp only [Int.toNat_natCast] at this; exact_mod_cast this)), Bool.false_and]
      exact Ev.now _
  · rw [decide_eq_false (fun hh => h (decide_eq_true ⟨hh.1, hh.2.1⟩)), Bool.false_and]
    exact Ev.now _

/-! #### impl_areBits -/
theorem impl_areBits_l0 (l : List Int) (hl : l.length ≤ 9223372036854775807) (r : List Int) : ∀ (p : List Int) (i : Int), i = p.length → l = p ++ r →
    Ev (fun k => impl_areBits.l0 k l l.length i) (r.all (inB 0 1)) := by
  induction r with
  | nil =>
    intro p i hi e
    have hlen : l.length = p.length := by rw [e]; simp
    apply ev_up
    simp only [impl_areBits.l0]
    exact ev_n (by omega) (Ev.now _)
  | cons x r ih =>
    intro p i hi e
    have hlen : l.length = p.length + r.length + 1 := by rw [e]; simp; omega
    have hx : rd l i = x := by rw [e]; exact rdA hi
    have ih' := ih (p ++ [x]) (i + 1) (by simp; omega) (by rw [e]; simp)
    apply ev_up
    simp only [impl_areBits.l0]
    refine ev_p (by omega) (ev_p (by omega) (ev_p (by omega) ?_))
    rw [hx, w64 (n := i + 1) (by omega) (by omega)]
    refine ev_ite (fun h => ?_) (fun h => ev_ite (fun h2 => ?_) (fun h2 => ?_))
    · rw [List.all_cons, show inB 0 1 x = true from decide_eq_true (by omega), Bool.true_and]
      exact ih'
    · rw [List.all_cons, show inB 0 1 x = true from decide_eq_true (by omega), Bool.true_and]
      exact ih'
    · rw [List.all_cons, show inB 0 1 x = false from decide_eq_false (by omega), Bool.false_and]
      exact Ev.now _
theorem impl_areBits_ev (l : List Int) (hl : l.length ≤ 9223372036854775807) : Ev (fun k => impl_areBits.f k l) (l.all (inB 0 1)) := by
  unfold impl_areBits.f
  exact impl_areBits_l0 l hl l [] 0 rfl rfl

/-! #### impl_IsTable -/
theorem impl_IsTable_ev (n : Int) (l : List Int) (hl : l.length ≤ 9223372036854775807) : Ev (fun k => impl_IsTable.f k n l) (tableM n l) := by
  unfold impl_IsTable.f tableM
  refine ev_ite (fun h1 => ev_ite (fun h2 => ?_) (fun h2 => ?_)) (fun h1 => ?_)
  · obtain ⟨a, rfl⟩ := nat_of h1
    rw [shl1 a (by omega)]
    refine ev_p (by omega) (ev_ite (fun h3 => ?_) (fun h3 => ?_))
    · have h4 : l.length = 2 ^ a := by exact_mod_cast h3
      rw [decide_eq_true ⟨h1, h2, by simpa using h4⟩, Bool.true_and]
      exact Ev.bind (impl_areBits_ev l hl) (Ev.now _)
    · rw [decide_eq_false (fun hh => h3 (by have := hh.2.2; simp only [Int.toNat_natCast] at this; exact_mod_cast this)), Bool.false_and]
      exact Ev.now _
  · rw [decide_eq_false (fun hh => h2 hh.2.1), Bool.false_and]
    exact Ev.now _
  · rw [decide_eq_false (fun hh => h1 hh.1), Bool.false_and]
    exact Ev.now _

/-! #### leastSum -/
def leastSumM (n : Int) (l : List Int) : List S124 × Bool := if tableM n l = true then ((leastRes l n.toNat).1, true) else ([], false)
theorem leastF_len (cs : List Nat) (g : Nat) (d : Nat) : ∀ m, ∀ s ∈ leastF cs g d m, s.length ≤ m + d := by
  induction d with
  | zero =>
    intro m s hs
    have := (sols_len cs 0 m g s hs).1
    omega
  | succ d ih =>
    intro m s hs
    rw [leastF] at hs
    split at hs
    · have := ih (m + 1) s hs
      omega
    · have := (sols_len cs 0 m g s hs).1
      omega
theorem leastSumM_length (n : Int) (l : List Int) : (leastSumM n l).1.length ≤ 16 := by
  unfold leastSumM
  split
  · unfold leastRes termsAt
    simp only [List.length_map]
    have h := leastF_len ((masksM l n.toNat 0 (2 ^ n.toNat)).map (covN n.toNat)) (goalN l (2 ^ n.toNat)) 16 0
    generalize leastF ((masksM l n.toNat 0 (2 ^ n.toNat)).map (covN n.toNat)) (goalN l (2 ^ n.toNat)) 16 0 = S at h
    cases S with
    | nil => simp [headM]
    | cons s S => exact h s (by simp)
  · simp
theorem spec_LeastSum_ev (n : Int) (l : List Int) (hl : l.length ≤ 9223372036854775807) : Ev (fun k => spec_LeastSum.f k n l) (leastSumM n l) := by
  unfold spec_LeastSum.f leastSumM
  refine Ev.bind (spec_ttGood_ev n l hl) (ev_ite (fun h => ?_) (fun h => ?_))
  · rw [if_pos h]
    obtain ⟨a, rfl, ha, hla, hl16, _⟩ := tableM_of h
    exact Ev.bind (spec_nfLeast_ev l a ha hla) (Ev.now _)
  · rw [if_neg h]
    exact Ev.now _
theorem impl_LeastSum_ev (n : Int) (l : List Int) (hl : l.length ≤ 9223372036854775807) : Ev (fun k => impl_LeastSum.f k n l) (leastSumM n l) := by
  unfold impl_LeastSum.f leastSumM
  refine Ev.bind (impl_IsTable_ev n l hl) (ev_ite (fun h => ?_) (fun h => ?_))
  · rw [if_pos h]
    obtain ⟨a, rfl, ha, hla, hl16, hb⟩ := tableM_of h
    exact Ev.bind (impl_leastSums_ev l a ha hla hb) (Ev.now _)
  · rw [if_neg h]
    exact Ev.now _

/-! #### szIntS -/
theorem szIntS_eq (l : List Int) (a : Int) (ha : 0 ≤ a) (ha2 : a ≤ 1048576) (hl : l.length ≤ 9223372036854775807) : laws_szIntS.f l a = some (if l.length ≤ a then a - l.length else -1) := by
  unfold laws_szIntS.f
  rw [w64 (by omega) (by omega)]
  by_cases h : (l.length : Int) ≤ a
  · rw [if_neg (by omega), if_pos h]
  · rw [if_pos (by omega), if_neg h]

/-! #### szTable -/
theorem szTable_eq (n : Int) (l : List Int) (hl : l.length ≤ 9223372036854775807) : laws_szTable.f n l 1048576 = some (if (l.length : Int) ≤ 1048576 then (1048576 : Int) - l.length else -1) := by
  unfold laws_szTable.f
  rw [szIntS_eq l 1048576 (by omega) (by omega) hl, Option.bind_some]
  by_cases h : (l.length : Int) ≤ 1048576
  · rw [if_pos h, if_neg (by omega)]
  · rw [if_neg h, if_pos (by decide)]

/-! #### toIntS -/
theorem toIntS_l0 (r : List Int) : ∀ (p z : List Int) (i : Int), i = p.length → z.length = r.length → p.length + r.length ≤ 9223372036854775806 →
    Ev (fun k => laws_toIntS.l0 k (p ++ r) (p ++ z) i) (p ++ r) := by
  induction r with
  | nil =>
    intro p z i hi hz hb
    obtain rfl : z = [] := List.length_eq_zero_iff.1 hz
    apply ev_up
    simp only [laws_toIntS.l0]
    refine ev_n (by simp; omega) ?_
    exact Ev.now _
  | cons x r ih =>
    intro p z i hi hz hb
    match z, hz with
    | y :: z, hz =>
      simp only [List.length_cons] at hz hb
      apply ev_up
      simp only [laws_toIntS.l0]
      refine ev_p (by simp; omega) (ev_p (by omega) (ev_p (by simp; omega) ?_))
      rw [rdA hi, setA hi, w64 (by omega) (by omega), appA]
      exact ih (p ++ [x]) z (i + 1) (by simp; omega) (by omega) (by simp; omega)
theorem toIntS_ev (a : List Int) (h : a.length ≤ 35184372088832) : Ev (fun k => laws_toIntS.f k a) a := by
  unfold laws_toIntS.f
  refine ev_p (by omega) (ev_p (by omega) ?_)
  exact toIntS_l0 a [] (List.replicate ((a.length : Int)).toNat 0) 0 rfl (by simp) (by simp; omega)
/-! #### toTable -/
theorem toTable_ev (n : Int) (l : List Int) (hl : l.length ≤ 1048576) : Ev (fun k => laws_toTable.f k n l) (n, l) := by
  unfold laws_toTable.f
  exact Ev.bind (toIntS_ev l (by omega)) (Ev.now _)

/-! #### eqIntS -/
theorem eqIntS_l0 (r : List Int) : ∀ (s p q : List Int) (i : Int), i = p.length → p.length = q.length → r.length = s.length → p.length + r.length ≤ 9223372036854775807 →
    Ev (fun k => laws_eqIntS.l0 k (p ++ r) (q ++ s) i) (decide (r = s)) := by
  induction r with
  | nil =>
    intro s p q i hi hpq hrs hb
    obtain rfl : s = [] := List.length_eq_zero_iff.1 hrs.symm
    apply ev_up
    simp only [laws_eqIntS.l0]
    refine ev_n (by simp; omega) ?_
    simpa using Ev.now true
  | cons x r ih =>
    intro s p q i hi hpq hrs hb
    match s, hrs with
    | y :: s, hrs =>
      simp only [List.length_cons] at hrs hb
      apply ev_up
      simp only [laws_eqIntS.l0]
      refine ev_p (by simp; omega) (ev_p (by omega) (ev_p (by simp; omega) ?_))
      rw [rdA hi, rdA (by omega)]
      refine ev_ite (fun hxy => ?_) (fun hxy => ?_)
      · subst hxy
        rw [w64 (by omega) (by omega), appA, appA (p := q)]
        refine ev_eq (ih s (p ++ [x]) (q ++ [x]) (i + 1) (by simp; omega) (by simp; omega) (by omega) (by simp; omega)) ?_
        simp
      · refine ev_eq (Ev.now false) ?_
        simp [hxy]
theorem eqIntS_ev (a b : List Int) (h : a.length ≤ 9223372036854775807) : Ev (fun k => laws_eqIntS.f k a b) (decide (a = b)) := by
  unfold laws_eqIntS.f
  refine ev_ite (fun hl => ?_) (fun hl => ?_)
  · exact eqIntS_l0 a b [] [] 0 rfl rfl (by omega) (by simpa using h)
  · refine ev_eq (Ev.now false) ?_
    symm
    apply decide_eq_false
    rintro rfl
    exact hl rfl

/-! #### eqTable -/
theorem eqTable_same (n : Int) (l : List Int) (hl : l.length ≤ 1048576) : Ev (fun k => laws_eqTable.f k n l n l) true := by
  unfold laws_eqTable.f
  have heq : Ev (fun k => laws_eqIntS.f k l l) true := by simpa using eqIntS_ev l l (by omega)
  exact ev_p rfl (Ev.bind heq (ev_p rfl (Ev.now _)))

/-! #### lenPre -/
theorem len_pre {n : Nat} (h : ¬ (if (n : Int) ≤ 1048576 then (1048576 : Int) - n else -1) < 0) : n ≤ 1048576 := by
  by_cases h2 : (n : Int) ≤ 1048576
  · omega
  · rw [if_neg h2] at h
    exact absurd (by decide) h

/-! #### eqTerm -/
theorem eqTerm_same (a b : Int) : laws_eqTerm.f a b a b = some true := by
  unfold laws_eqTerm.f
  rw [if_pos rfl, if_pos rfl]

/-! #### eqTermS -/
theorem eqTermS_l0 (r : List S124) : ∀ (p : List S124) (i : Int), i = p.length → p.length + r.length ≤ 9223372036854775807 →
    Ev (fun k => laws_eqTermS.l0 k (p ++ r) (p ++ r) i) true := by
  induction r with
  | nil =>
    intro p i hi hb
    apply ev_up
    simp only [laws_eqTermS.l0]
    exact ev_n (by simp; omega) (Ev.now true)
  | cons x r ih =>
    intro p i hi hb
    simp only [List.length_cons] at hb
    apply ev_up
    simp only [laws_eqTermS.l0]
    refine ev_p (by simp; omega) (ev_p (by omega) (ev_p (by simp; omega) ?_))
    rw [rdTermA hi, eqTerm_same]
    refine Ev.bind (ev_c rfl) (ev_p rfl ?_)
    rw [w64 (by omega) (by omega), appA]
    exact ih (p ++ [x]) (i + 1) (by simp; omega) (by simp; omega)
theorem eqTermS_self (a : List S124) (h : a.length ≤ 9223372036854775807) : Ev (fun k => laws_eqTermS.f k a a) true := by
  unfold laws_eqTermS.f
  exact ev_p rfl (eqTermS_l0 a [] 0 rfl (by simpa using h))

/-! #### heldTermS -/
/-- The marks. -/
def termSeq : Int → Nat → List S124
  | _, 0 => []
  | s, d + 1 => ⟨s, s + 1⟩ :: termSeq (s + 1 + 1) d
theorem termSeq_length (d : Nat) : ∀ s, (termSeq s d).length = d := by
  induction d with
  | zero => intro s; rfl
  | succ d ih => intro s; rw [termSeq, List.length_cons, ih]
theorem markTermS2_l0 (r : List S124) : ∀ (p : List S124) (s i : Int), i = p.length → p.length + r.length ≤ 1048576 → 0 ≤ s → s + 2 * r.length ≤ 4194304 →
    Ev (fun k => laws_markTermS.l0 k (p ++ r) s i) (s + 2 * r.length, p ++ termSeq s r.length) := by
  induction r with
  | nil =>
    intro p s i hi hb h0 hs
    apply ev_up
    simp only [laws_markTermS.l0]
    refine ev_n (by simp; omega) ?_
    simpa [termSeq] using Ev.now (s, p)
  | cons x r ih =>
    intro p s i hi hb h0 hs
    simp only [List.length_cons, Int.natCast_add] at hb hs
    have ht := ih (p ++ [⟨s, s + 1⟩]) (s + 1 + 1) (i + 1) (by simp; omega) (by simp; omega) (by omega) (by omega)
    apply ev_up
    simp only [laws_markTermS.l0]
    refine ev_p (by simp; omega) (ev_p (by omega) (Ev.bind (ev_c rfl) ?_))
    rw [rdTermA hi, setB hi, rdTermA hi, setA hi, w64 (n := s + 1) (by omega) (by omega), w64 (n := s + 1 + 1) (by omega) (by omega), w64 (n := i + 1) (by omega) (by omega)]
    refine ev_eq ht ?_
    simp only [List.length_cons, Prod.mk.injEq, List.append_assoc]
    exact ⟨by omega, by rw [termSeq]; rfl⟩
theorem markTermS2_ev (a : List S124) (h : a.length ≤ 1048576) : Ev (fun k => laws_markTermS.f k a 1) (1 + 2 * a.length, termSeq 1 a.length) := by
  unfold laws_markTermS.f
  exact markTermS2_l0 a [] 1 0 rfl (by simpa using h) (by omega) (by omega)
theorem heldTermS_l0 (d : Nat) : ∀ (p : List S124) (s i : Int), i = p.length → p.length + d ≤ 1048576 → 0 ≤ s → s + 2 * d ≤ 4194304 →
    Ev (fun k => laws_heldTermS.l0 k (p ++ termSeq s d) s i) (s + 2 * d) := by
  induction d with
  | zero =>
    intro p s i hi hb h0 hs
    apply ev_up
    simp only [laws_heldTermS.l0]
    refine ev_n (by simp [termSeq]; omega) (ev_eq (Ev.now _) (by simp))
  | succ d ih =>
    intro p s i hi hb h0 hs
    have ht := ih (p ++ [⟨s, s + 1⟩]) (s + 1 + 1) (i + 1) (by simp; omega) (by simp; omega) (by omega) (by omega)
    apply ev_up
    simp only [laws_heldTermS.l0]
    refine ev_p (by simp [termSeq_length]; omega) (ev_p (by omega) ?_)
    rw [termSeq, rdTermA hi, w64 (n := s + 1) (by omega) (by omega), w64 (n := s + 1 + 1) (by omega) (by omega), w64 (n := i + 1) (by omega) (by omega)]
    refine ev_p rfl (ev_p rfl ?_)
    rw [appA]
    refine ev_eq ht ?_
    omega
theorem heldTermS_ev (n : Nat) (h : n ≤ 1048576) : Ev (fun k => laws_heldTermS.f k (termSeq 1 n) 1) (1 + 2 * n) := by
  unfold laws_heldTermS.f
  exact heldTermS_l0 n [] 1 0 rfl (by simpa using h) (by omega) (by omega)

/-! #### markIntS -/
theorem markIntS_l0 (r : List Int) : ∀ (p : List Int) (s i : Int), i = p.length → p.length + r.length ≤ 9223372036854775807 → 0 ≤ s → s + r.length ≤ 9223372036854775807 →
    Ev (fun k => laws_markIntS.l0 k (p ++ r) s i) (s + r.length, p ++ seqFrom s r.length) := by
  induction r with
  | nil =>
    intro p s i hi hb h0 hs
    apply ev_up
    simp only [laws_markIntS.l0]
    refine ev_n (by simp; omega) ?_
    simpa [seqFrom] using Ev.now (s, p)
  | cons x r ih =>
    intro p s i hi hb h0 hs
    simp only [List.length_cons, Int.natCast_add] at hb hs
    apply ev_up
    simp only [laws_markIntS.l0]
    refine ev_p (by simp; omega) (ev_p (by omega) ?_)
    rw [setA hi, w64 (by omega) (by omega), w64 (by omega) (by omega)]
    refine ev_eq (ih (p ++ [s]) (s + 1) (i + 1) (by simp; omega) (by simp; omega) (by omega) (by omega)) ?_
    simp [seqFrom]
    omega
theorem markIntS_ev (a : List Int) (s : Int) (h0 : 0 ≤ s) (h : a.length + s ≤ 9223372036854775807) : Ev (fun k => laws_markIntS.f k a s) (s + a.length, seqFrom s a.length) := by
  unfold laws_markIntS.f
  exact markIntS_l0 a [] s 0 rfl (by simp; omega) h0 (by omega)

/-! #### markTable1 -/
theorem markTable_ev (n : Int) (l : List Int) (h : l.length ≤ 1048576) : Ev (fun k => laws_markTable.f k n l 1) (1 + l.length, seqFrom 1 l.length) := by
  unfold laws_markTable.f
  exact Ev.bind (markIntS_ev l 1 (by omega) (by omega)) (Ev.now _)

/-! #### FnExactLeastSum -/
theorem FnExactLeastSum (a0_0 : Int) (l0_1 : (List Int)) : I64 a0_0 → (l0_1.length ≤ 9223372036854775807 ∧ ∀ y2 ∈ l0_1, I64 y2) → ∃ k, laws_FnExactLeastSum.f k a0_0 l0_1 = some true := by
  rintro _ ⟨hl, _⟩
  apply ev_get
  unfold laws_FnExactLeastSum.f
  rw [szTable_eq a0_0 l0_1 hl]
  refine Ev.bind (ev_c rfl) (ev_ite (fun _ => Ev.now _) (fun h => ?_))
  have hl2 := len_pre h
  have hto := toTable_ev a0_0 l0_1 hl2
  have heq := eqTable_same a0_0 l0_1 hl2
  have hs := spec_LeastSum_ev a0_0 l0_1 hl
  have hi := impl_LeastSum_ev a0_0 l0_1 hl
  have hR := leastSumM_length a0_0 l0_1
  generalize leastSumM a0_0 l0_1 = R at hs hi hR
  have heqR := eqTermS_self R.1 (by omega)
  have hmark := markTermS2_ev R.1 (by omega)
  have hheld := heldTermS_ev R.1.length (by omega)
  have hmt := markTable_ev a0_0 l0_1 hl2
  repeat (first
    | (with_reducible exact Ev.now _)
    | (with_reducible refine Ev.bind hto ?_)
    | (with_reducible refine Ev.bind hs ?_)
    | (with_reducible refine Ev.bind hi ?_)
    | (with_reducible refine Ev.bind heq ?_)
    | (with_reducible refine Ev.bind heqR ?_)
    | (with_reducible refine Ev.bind hmark ?_)
    | (with_reducible refine Ev.bind hheld ?_)
    | (with_reducible refine Ev.bind hmt ?_)
    | (with_reducible refine ev_p rfl ?_)
    | (with_reducible refine ev_p True.intro ?_)
    | (refine ev_n ?h ?_; case h => (first | omega | (simp; done) | (simp; omega)))
    | (with_reducible refine ev_up (g := fun n => laws_FnExactLeastSum.j0 n _ _ _ _ _ _ _ _ _) ?_; simp only [laws_FnExactLeastSum.j0, bne_self_eq_false])
    | (with_reducible refine ev_up (g := fun n => laws_FnExactLeastSum.j1 n _ _ _ _ _ _) ?_; simp only [laws_FnExactLeastSum.j1, bne_self_eq_false])
    | (with_reducible refine ev_up (g := fun n => laws_FnExactLeastSum.j2 n _ _ _) ?_; simp only [laws_FnExactLeastSum.j2, bne_self_eq_false]))

end Go.Proofs.Ytnldkpljchkkbaa.Pure
