/- The pure part of the law FnLeastSums: what the program and the reference compute is the same, for all arguments. Conditions: the numbers are of Go's int, the lengths of slices are. -/
import Derived.Test.YtbkighlfgaifeaaSFnLeastSumsx17
import Derived.Test.YtbkighlfgaifeaaVLeKit
set_option linter.unusedVariables false
set_option linter.unusedSimpArgs false
namespace Go.Proofs.Ytbkighlfgaifeaa.Pure
open Go.RowKit Go.Proofs.Ytbkighlfgaifeaa.QFnLeastSums Go.Proofs.YtbkighlfgaifeaaW.PrintWords Go.Proofs.YtbkighlfgaifeaaW.PrintLast Go.Proofs.Ytbkighlfgaifeaa.Open Go.Proofs.Ytbkighlfgaifeaa.Kit
def solsM : List Nat → Nat → Nat → Nat → List (List Nat)
 | _, _, 0, left => if left = 0 then [[]] else []
 | [], _, _ + 1, _ => []
 | c :: cs, i, t + 1, left => (solsM cs (i + 1) t (left ^^^ (left &&& c))).map (i :: ·) ++ solsM cs (i + 1) (t + 1) left
def chooseM : Nat → Nat → Nat
 | _, 0 => 1
 | 0, _ + 1 => 0
 | n + 1, t + 1 => chooseM n t + chooseM n (t + 1)
theorem zz2 (cs : List Nat) : ∀ i t left, (solsM cs i t left).length ≤ chooseM cs.length t := by
 induction cs with
 | nil =>
  intro i t left;cases t with
  | zero => unfold solsM chooseM; split <;> simp
  | succ t => simp [solsM]
 | cons c cs ih =>
  intro i t left;cases t with
  | zero => unfold solsM chooseM; split <;> simp
  | succ t =>
   have h1 := ih (i + 1) t (left ^^^ (left &&& c))
   have h2 := ih (i + 1) (t + 1) left
   rw [solsM, List.length_append, List.length_map, List.length_cons, chooseM];omega
theorem zz3 (n t : Nat) : chooseM n t ≤ chooseM (n + 1) t := by
 cases t with
 | zero => cases n <;> simp [chooseM]
 | succ t => rw [chooseM.eq_def (n + 1)]; simp only []; omega
theorem zz4 {n m : Nat} (t : Nat) (h : n ≤ m) : chooseM n t ≤ chooseM m t := by
 induction h with
 | refl => exact Nat.le_refl _
 | step _ ih => exact Nat.le_trans ih (zz3 _ t)
def rowM : Nat → List Nat
 | 0 => [1]
 | n + 1 => List.zipWith (· + ·) (0 :: rowM n) (rowM n ++ [0])
theorem zz6 (n : Nat) : (rowM n).length = n + 1 := by
 induction n with
 | zero => rfl
 | succ n ih => simp [rowM, ih]
theorem rowM_get (n : Nat) : ∀ t, (rowM n).getD t 0 = chooseM n t := by
 induction n with
 | zero => intro t; cases t with
  | zero => rfl
  | succ t => simp [rowM, chooseM]
 | succ n ih =>
  intro t;have hl := zz6 n
  rw [rowM, List.getD_eq_getElem?_getD, List.getElem?_zipWith];cases t with
  | zero =>
   have h0 := ih 0
   rw [List.getD_eq_getElem?_getD] at h0;cases hr : rowM n with
   | nil => rw [hr] at hl; simp at hl
   | cons x r =>
    rw [hr] at h0;simp at h0
    simp [h0, chooseM]
    try (cases n <;> simp [chooseM])
  | succ t =>
   have h0 := ih t
   have h1 := ih (t + 1)
   rw [List.getD_eq_getElem?_getD] at h0 h1;rw [List.getElem?_cons_succ, chooseM, ← h0, ← h1];rcases Nat.lt_or_ge t (n + 1) with h | h
   ·rw [List.getElem?_eq_getElem (by omega)]
    rcases Nat.lt_or_ge (t + 1) (n + 1) with h' | h'
    ·rw [List.getElem?_append_left (by omega), List.getElem?_eq_getElem (by omega)]
     simp
    ·rw [List.getElem?_append_right (by omega), List.getElem?_eq_none (l := rowM n) (by omega), show t + 1 - (rowM n).length = 0 by omega]
     simp
   ·rw [List.getElem?_eq_none (by omega), List.getElem?_eq_none (l := rowM n) (i := t + 1) (by omega)]
    simp
theorem zz8 {n t : Nat} (hn : n ≤ 81) (ht : t ≤ 16) : chooseM n t ≤ 100000000000000000 := by
 refine Nat.le_trans (zz4 t hn) ?_
 rw [← rowM_get 81 t];have : ∀ t : Fin 17, (rowM 81).getD t.1 0 ≤ 100000000000000000 := by decide +kernel
 exact this ⟨t, by omega⟩
theorem sols_few (cs : List Nat) : ∀ i t left, cs.length < t → solsM cs i t left = [] := by
 induction cs with
 | nil =>
  intro i t left h;cases t with
  | zero => simp at h
  | succ t => rfl
 | cons c cs ih =>
  intro i t left h;cases t with
  | zero => simp at h
  | succ t =>
   simp only [List.length_cons] at h;rw [solsM, ih (i + 1) t _ (by omega), ih (i + 1) (t + 1) _ (by omega)]
   rfl
def unionM (cs : List Nat) : Nat := cs.foldr (· ||| ·) 0
theorem zz11 (a b x : Nat) : (a ^^^ (a &&& b)).testBit x = (a.testBit x && !b.testBit x) := by
 rw [Nat.testBit_xor, Nat.testBit_and];cases a.testBit x <;> cases b.testBit x <;> rfl
theorem zz12 (a b c : Nat) : (a ^^^ (a &&& b)) ^^^ ((a ^^^ (a &&& b)) &&& c) = a ^^^ (a &&& (b ||| c)) := by
 apply Nat.eq_of_testBit_eq
 intro x;rw [zz11, zz11, zz11, Nat.testBit_or];cases a.testBit x <;> cases b.testBit x <;> cases c.testBit x <;> rfl
theorem zz13 (cs : List Nat) : ∀ i t left, ¬ left ^^^ (left &&& unionM cs) = 0 → solsM cs i t left = [] := by
 induction cs with
 | nil =>
  intro i t left h;have : left ≠ 0 := fun hh => h (by rw [hh]; rfl)
  cases t with
  | zero => rw [solsM, if_neg this]
  | succ t => rfl
 | cons c cs ih =>
  intro i t left h;have e : unionM (c :: cs) = c ||| unionM cs := rfl
  cases t with
  | zero =>
   have : left ≠ 0 := fun hh => h (by rw [hh]; simp)
   rw [solsM, if_neg this]
  | succ t =>
   rw [solsM, ih (i + 1) t _ (fun hh => h (by rw [e, ← zz12]; exact hh)), ih (i + 1) (t + 1) left (fun hh => h ?_)]
   ·rfl
   ·apply Nat.eq_of_testBit_eq
    intro x;have h2 := congrArg (fun n => n.testBit x) hh
    simp only [zz11, Nat.zero_testBit] at h2;rw [zz11, e, Nat.testBit_or, Nat.zero_testBit];revert h2
    cases left.testBit x <;> cases c.testBit x <;> cases (unionM cs).testBit x <;> simp
theorem zz14 (cs : List Nat) : ∀ (i left : Nat) (pick : Nat → Bool), (∀ x, left.testBit x = true → ∃ j c, cs[j]? = some c ∧ pick (i + j) = true ∧ c.testBit x = true) → solsM cs i ((List.range cs.length).countP (fun j => pick (i + j))) left ≠ [] := by
 induction cs with
 | nil =>
  intro i left pick h;have : left = 0 := by
   apply Nat.eq_of_testBit_eq
   intro x;rw [Nat.zero_testBit];cases hb : left.testBit x with
   | false => rfl
   | true =>
    obtain ⟨j, c, hj, _⟩ := h x hb
    simp at hj
  simp [solsM, this]
 | cons c cs ih =>
  intro i left pick h;have hr : (List.range (c :: cs).length).countP (fun j => pick (i + j)) = (if pick i = true then 1 else 0) + (List.range cs.length).countP (fun j => pick (i + 1 + j)) := by
   rw [List.length_cons, List.range_succ_eq_map, List.countP_cons, List.countP_map];have : ((fun j => pick (i + j)) ∘ Nat.succ) = fun j => pick (i + 1 + j) := by
    funext j
    show pick (i + (j + 1)) = _
    congr 1
    omega
   rw [this];simp only [Nat.add_zero];omega
  rw [hr];by_cases hp : pick i = true
  ·rw [if_pos hp, Nat.add_comm 1, solsM]
   have := ih (i + 1) (left ^^^ (left &&& c)) pick (fun x hx => by
    rw [zz11, Bool.and_eq_true] at hx;obtain ⟨j, c', hj, h1, h2⟩ := h x hx.1
    cases j with
    | zero =>
     have e : c = c' := by simpa using hj
     subst e;rw [h2] at hx;simp at hx
    | succ j => exact ⟨j, c', by simpa using hj, by rw [show i + 1 + j = i + (j + 1) by omega]; exact h1, h2⟩)
   intro hh;rw [List.append_eq_nil_iff, List.map_eq_nil_iff] at hh;exact this hh.1
  ·rw [if_neg hp, Nat.zero_add]
   have hne := ih (i + 1) left pick (fun x hx => by
    obtain ⟨j, c', hj, h1, h2⟩ := h x hx
    cases j with
    | zero => exact absurd h1 hp
    | succ j => exact ⟨j, c', by simpa using hj, by rw [show i + 1 + j = i + (j + 1) by omega]; exact h1, h2⟩)
   generalize (List.range cs.length).countP (fun j => pick (i + 1 + j)) = t at hne ⊢
   cases t with
   | zero =>
    rw [solsM] at hne ⊢
    exact hne
   | succ t =>
    rw [solsM];intro hh;rw [List.append_eq_nil_iff] at hh;exact hne hh.2
theorem sols_len (cs : List Nat) : ∀ i t left, ∀ s ∈ solsM cs i t left, s.length = t ∧ ∀ y ∈ s, i ≤ y ∧ y < i + cs.length := by
 induction cs with
 | nil =>
  intro i t left s hs;cases t with
  | zero =>
   rw [solsM] at hs;split at hs
   ·rw [List.mem_singleton] at hs
    subst hs;simp
   ·simp at hs
  | succ t => simp [solsM] at hs
 | cons c cs ih =>
  intro i t left s hs;cases t with
  | zero =>
   rw [solsM] at hs;split at hs
   ·rw [List.mem_singleton] at hs
    subst hs;simp
   ·simp at hs
  | succ t =>
   rw [solsM, List.mem_append, List.mem_map] at hs;rcases hs with ⟨s', hs', rfl⟩ | hs
   ·obtain ⟨h1, h2⟩ := ih (i + 1) t _ s' hs'
    refine ⟨by simp [h1], fun y hy => ?_⟩
    simp only [List.mem_cons, List.length_cons] at hy ⊢
    rcases hy with rfl | hy
    ·omega
    ·have := h2 y hy
     omega
   ·obtain ⟨h1, h2⟩ := ih (i + 1) (t + 1) left s hs
    refine ⟨h1, fun y hy => ?_⟩
    have := h2 y hy
    simp only [List.length_cons];omega
def headM (S : List (List Nat)) : List Nat := S.headD []
def combM {α : Type} (f : List Nat → List α) (st : List α × Int) (S : List (List Nat)) : List α × Int := (if st.2 = 0 ∧ S ≠ [] then f (headM S) else st.1, st.2 + S.length)
theorem comb_nil {α : Type} (f : List Nat → List α) (st : List α × Int) : combM f st [] = st := by
 unfold combM;simp
theorem zz19 {α : Type} (f : List Nat → List α) (st : List α × Int) (h : 0 ≤ st.2) (S T : List (List Nat)) : combM f (combM f st S) T = combM f st (S ++ T) := by
 cases S with
 | nil => rw [comb_nil]; rfl
 | cons s S =>
  unfold combM;simp only [List.length_cons, List.cons_append, List.length_append];have h1 : ¬ (st.2 + ((S.length + 1 : Nat) : Int) = 0 ∧ T ≠ []) := fun hh => by have := hh.1; omega
  rw [if_neg h1];ext1
  ·by_cases c : st.2 = 0
   ·rw [if_pos ⟨c, by simp⟩, if_pos ⟨c, by simp⟩]
    rfl
   ·rw [if_neg (fun hh => c hh.1), if_neg (fun hh => c hh.1)]
  ·simp only []
   omega
theorem comb_map {α : Type} (f : List Nat → List α) (g : List Nat → List Nat) (st : List α × Int) (S : List (List Nat)) : combM f st (S.map g) = combM (fun s => f (g s)) st S := by
 cases S with
 | nil => rw [List.map_nil, comb_nil, comb_nil]
 | cons s S => unfold combM; simp [headM]
def idxM (N m v : Nat) : Nat → List Int
 | 0 => []
 | d + 1 => (if (N - (d + 1)) &&& m = v then [((N - (d + 1) : Nat) : Int)] else []) ++ idxM N m v d
theorem zz22 (N m v d : Nat) : (idxM N m v d).length ≤ d := by
 induction d with
 | zero => simp [idxM]
 | succ d ih => unfold idxM; split <;> simp <;> omega
theorem idxM_mem {N m v d : Nat} {x : Int} (hd : d ≤ N) (h : x ∈ idxM N m v d) : ∃ j : Nat, x = j ∧ N - d ≤ j ∧ j < N ∧ j &&& m = v := by
 induction d with
 | zero => simp [idxM] at h
 | succ d ih =>
  unfold idxM at h;rw [List.mem_append] at h;rcases h with h | h
  ·split at h
   ·rename_i hc
    simp only [List.mem_singleton] at h;exact ⟨N - (d + 1), h, by omega, by omega, hc⟩
   ·simp at h
  ·obtain ⟨j, h1, h2, h3, h4⟩ := ih (by omega) h
   exact ⟨j, h1, by omega, h3, h4⟩
theorem mem_idxM {N m v d j : Nat} (hd : d ≤ N) (h1 : N - d ≤ j) (h2 : j < N) (h3 : j &&& m = v) : (j : Int) ∈ idxM N m v d := by
 induction d with
 | zero => omega
 | succ d ih =>
  unfold idxM;rw [List.mem_append];by_cases hj : j = N - (d + 1)
  ·left
   rw [← hj, if_pos h3];simp
  ·right
   exact ih (by omega) (by omega)
def nz (l : List Int) (j : Int) : Bool := decide (rd l j ≠ 0)
def impliesM (l : List Int) (m v : Nat) : Bool := (idxM l.length m v l.length).all (nz l)
theorem rdTermA {p r : List S72} {x : S72} {i : Int} (hi : i = p.length) : rd_T72 (p ++ x :: r) i = x := getDA hi
theorem bit_and1 (a n : Nat) (ha : a < 2 ^ 62) (hn : n ≤ 62) : Go.bits .and .i64 (shr .i64 (a : Int) (n : Int)) 1 = (((a >>> n) % 2 : Nat) : Int) := by
 rw [shrN a n hn];have h : a >>> n ≤ a := Nat.shiftRight_le a n
 have := andN (a >>> n) 1 (by omega) (by omega)
 rw [Nat.and_one_is_mod] at this;exact this
def clrB (m i : Nat) : Nat := m - (m &&& 2 ^ i)
theorem bits_d1 : ∀ m : Fin 16, ∀ i : Fin 4, (m.1 &&& 2 ^ i.1 ≠ 0 → (m.1 >>> i.1) % 2 = 1) ∧ ((m.1 >>> i.1) % 2 = 1 → ¬ m.1 &&& 2 ^ i.1 = 0) ∧ ((m.1 >>> i.1) % 2 = 1 → 2 ^ i.1 ≤ m.1 ∧ m.1 - 2 ^ i.1 = clrB m.1 i.1) ∧ clrB m.1 i.1 < 16 ∧ m.1 ^^^ (m.1 &&& 2 ^ i.1) = clrB m.1 i.1 ∧ (m.1 &&& 2 ^ i.1) ≤ m.1 := by decide
theorem bits_f (m v i : Nat) (hm : m < 16) (hv : v < 16) (hi : i < 4) : ((m &&& 2 ^ i ≠ 0 → (m >>> i) % 2 = 1) ∧ ((m >>> i) % 2 = 1 → ¬ m &&& 2 ^ i = 0)) ∧ ((m >>> i) % 2 = 1 → (2 ^ i ≤ m ∧ m - 2 ^ i = clrB m i) ∧ (clrB m i < 16 ∧ clrB v i < 16 ∧ (v &&& 2 ^ i) ≤ v) ∧ m ^^^ (m &&& 2 ^ i) = clrB m i ∧ v ^^^ (v &&& 2 ^ i) = clrB v i) := by
 have h := bits_d1 ⟨m, hm⟩ ⟨i, hi⟩
 have h' := bits_d1 ⟨v, hv⟩ ⟨i, hi⟩
 exact ⟨⟨h.1, h.2.1⟩, fun hh => ⟨h.2.2.1 hh, ⟨h.2.2.2.1, h'.2.2.2.1, h'.2.2.2.2.2⟩, h.2.2.2.2.1, h'.2.2.2.2.1⟩⟩
def primeF (l : List Int) (m v : Nat) : Bool → Nat → Nat → Bool
 | fit, _, 0 => fit
 | fit, i, d + 1 => primeF l m v (if (m >>> i) % 2 = 1 ∧ impliesM l (clrB m i) (clrB v i) = true then false else fit) (i + 1) d
def valsM (l : List Int) (a m : Nat) : Nat → Nat → List S72
 | _, 0 => []
 | v, d + 1 => (if v &&& m = v ∧ impliesM l m v = true ∧ primeF l m v true 0 a = true then [⟨(m : Int), (v : Int)⟩] else []) ++ valsM l a m (v + 1) d
theorem zz34 (l : List Int) (a m d : Nat) : ∀ v, (valsM l a m v d).length ≤ d := by
 induction d with
 | zero => intro v; simp [valsM]
 | succ d ih =>
  intro v;have := ih (v + 1)
  rw [valsM];split <;> simp <;> omega
def masksM (l : List Int) (a : Nat) : Nat → Nat → List S72
 | _, 0 => []
 | m, d + 1 => valsM l a m 0 (m + 1) ++ masksM l a (m + 1) d
theorem zz36 (l : List Int) (a : Nat) (N d : Nat) : ∀ m, m + d ≤ N → (masksM l a m d).length ≤ N * d := by
 induction d with
 | zero => intro m _; simp [masksM]
 | succ d ih =>
  intro m h;have h1 := ih (m + 1) (by omega)
  have h2 := zz34 l a m (m + 1) 0
  have h3 : N * (d + 1) = N * d + N := Nat.mul_succ N d
  rw [masksM, List.length_append];omega
def covE (p : S72) (x : Nat) : Bool := decide (x &&& p.f0.toNat = p.f1.toNat)
def goodP (l : List Int) (p : S72) : Prop := ∃ m v : Nat, m < 16 ∧ v < 16 ∧ p = ⟨(m : Int), (v : Int)⟩ ∧ impliesM l m v = true
theorem zz39 (l : List Int) (a m : Nat) (hm : m < 16) (d : Nat) : ∀ v, v + d = m + 1 → ∀ p ∈ valsM l a m v d, goodP l p := by
 induction d with
 | zero => intro v _ p hp; simp [valsM] at hp
 | succ d ih =>
  intro v hv p hp;rw [valsM, List.mem_append] at hp;rcases hp with hp | hp
  ·split at hp
   ·rename_i h
    rw [List.mem_singleton] at hp;exact ⟨m, v, hm, by omega, hp, h.2.1⟩
   ·simp at hp
  ·exact ih (v + 1) (by omega) p hp
theorem zz40 (l : List Int) (a : Nat) (d : Nat) : ∀ m, m + d ≤ 16 → ∀ p ∈ masksM l a m d, goodP l p := by
 induction d with
 | zero => intro m _ p hp; simp [masksM] at hp
 | succ d ih =>
  intro m hm p hp;rw [masksM, List.mem_append] at hp;rcases hp with hp | hp
  ·exact zz39 l a m (by omega) (m + 1) 0 (by omega) p hp
  ·exact ih (m + 1) (by omega) p hp
def aloneE (ps : List S72) (i x : Nat) : Prop := (∃ p, ps[i]? = some p ∧ covE p x = true) ∧ ∀ k q, k ≠ i → ps[k]? = some q → covE q x = false
def orIdx : Nat → List Int → Nat
 | acc, [] => acc
 | acc, y :: r => orIdx (acc ||| 2 ^ y.toNat) r
theorem zz43 (x : Nat) (r : List Int) : ∀ acc, (orIdx acc r).testBit x = true ↔ acc.testBit x = true ∨ ∃ y ∈ r, y.toNat = x := by
 induction r with
 | nil => intro acc; simp [orIdx]
 | cons y r ih =>
  intro acc;rw [orIdx, ih, Nat.testBit_or, Bool.or_eq_true, Nat.testBit_two_pow, decide_eq_true_eq];simp only [List.mem_cons, exists_eq_or_imp];exact or_assoc
theorem or_lt16 {a b : Nat} (ha : a < 65536) (hb : b < 65536) : a ||| b < 65536 := Nat.or_lt_two_pow (n := 16) ha hb
theorem pow_lt16 {y : Int} (h0 : 0 ≤ y) (h1 : y < 16) : 2 ^ y.toNat < 65536 := by
 have : 2 ^ y.toNat ≤ 2 ^ 15 := Nat.pow_le_pow_right (by decide) (by omega)
 omega
theorem orIdx_lt (r : List Int) (hr : ∀ y ∈ r, 0 ≤ y ∧ y < 16) : ∀ acc, acc < 65536 → orIdx acc r < 65536 := by
 induction r with
 | nil => intro acc h; exact h
 | cons y r ih =>
  intro acc h;have hy := hr y (by simp)
  exact ih (fun z hz => hr z (by simp [hz])) _ (or_lt16 h (pow_lt16 hy.1 hy.2))
def covN (a : Nat) (p : S72) : Nat := orIdx 0 (idxM (2 ^ a) p.f0.toNat p.f1.toNat (2 ^ a))
theorem zz48 {a : Nat} (ha : a ≤ 4) (m v : Nat) : ∀ y ∈ idxM (2 ^ a) m v (2 ^ a), 0 ≤ y ∧ y < 16 := fun y hy => by
 have h8 : 2 ^ a ≤ 2 ^ 4 := Nat.pow_le_pow_right (by decide) ha
 obtain ⟨j, rfl, _, h2, _⟩ := idxM_mem (Nat.le_refl _) hy
 omega
theorem covN_lt {a : Nat} (ha : a ≤ 4) (p : S72) : covN a p < 65536 := orIdx_lt _ (zz48 ha _ _) 0 (by decide)
theorem covN_bit {a : Nat} (p : S72) (x : Nat) : (covN a p).testBit x = true ↔ x < 2 ^ a ∧ covE p x = true := by
 unfold covN covE;rw [zz43, decide_eq_true_eq];constructor
 ·rintro (h | ⟨y, hy, hx⟩)
  ·simp at h
  ·obtain ⟨j, rfl, _, h2, h3⟩ := idxM_mem (Nat.le_refl _) hy
   rw [Int.toNat_natCast] at hx;subst hx;exact ⟨h2, h3⟩
 ·rintro ⟨h1, h2⟩
  exact Or.inr ⟨(x : Int), mem_idxM (Nat.le_refl _) (by omega) h1 h2, Int.toNat_natCast x⟩
def restR (a i : Nat) : List S72 → Nat → Nat → Nat
 | [], _, acc => acc
 | p :: r, j, acc => restR a i r (j + 1) (if j = i then acc else acc ||| covN a p)
theorem zz52 (a i x : Nat) (r : List S72) : ∀ j acc, (restR a i r j acc).testBit x = true ↔ acc.testBit x = true ∨ ∃ k q, j + k ≠ i ∧ r[k]? = some q ∧ (covN a q).testBit x = true := by
 induction r with
 | nil => intro j acc; simp [restR]
 | cons p r ih =>
  intro j acc;rw [restR, ih];constructor
  ·rintro (h | ⟨k, q, hk, hq, hb⟩)
   ·by_cases c : j = i
    ·rw [if_pos c] at h
     exact Or.inl h
    ·rw [if_neg c, Nat.testBit_or, Bool.or_eq_true] at h
     rcases h with h | h
     ·exact Or.inl h
     ·exact Or.inr ⟨0, p, by omega, rfl, h⟩
   ·exact Or.inr ⟨k + 1, q, by omega, by simpa using hq, hb⟩
  ·rintro (h | ⟨k, q, hk, hq, hb⟩)
   ·left
    by_cases c : j = i
    ·rw [if_pos c]; exact h
    ·rw [if_neg c, Nat.testBit_or, h]; rfl
   ·cases k with
    | zero =>
     have hq2 : p = q := by simpa using hq
     subst hq2;left
     rw [if_neg (by omega), Nat.testBit_or, hb, Bool.or_true]
    | succ k => exact Or.inr ⟨k, q, by omega, by simpa using hq, hb⟩
theorem zz53 (c b : Nat) : c ^^^ (c &&& b) = 0 ↔ ∀ x, c.testBit x = true → b.testBit x = true := by
 rw [xor_eq_zero];constructor
 ·intro h x hx
  rw [h, Nat.testBit_and, Bool.and_eq_true] at hx;exact hx.2
 ·intro h
  apply Nat.eq_of_testBit_eq
  intro x;rw [Nat.testBit_and];cases hc : c.testBit x with
  | false => rfl
  | true => rw [h x hc]; rfl
def essB (a : Nat) (ps : List S72) (i : Nat) (p : S72) : Bool := decide (¬ covN a p ^^^ (covN a p &&& restR a i ps 0 0) = 0)
theorem essB_iff {a : Nat} {ps : List S72} {i : Nat} {p : S72} (hp : ps[i]? = some p) : essB a ps i p = true ↔ ∃ x, x < 2 ^ a ∧ aloneE ps i x := by
 unfold essB;rw [decide_eq_true_eq, zz53];constructor
 ·intro h
  apply Classical.byContradiction
  intro hno;apply h
  intro x hx;have hx' := (covN_bit p x).1 hx
  rw [zz52];right
  apply Classical.byContradiction
  intro hno2;refine hno ⟨x, hx'.1, ⟨p, hp, hx'.2⟩, fun k q hk hq => ?_⟩
  cases c : covE q x with
  | false => rfl
  | true => exact absurd ⟨k, q, by omega, hq, (covN_bit q x).2 ⟨hx'.1, c⟩⟩ hno2
 ·rintro ⟨x, hx, ⟨p', hp', hc⟩, hall⟩ h
  have : p = p' := Option.some.inj (hp.symm.trans hp')
  subst this;have h1 := h x ((covN_bit p x).2 ⟨hx, hc⟩)
  rw [zz52] at h1;rcases h1 with h1 | ⟨k, q, hk, hq, hb⟩
  ·simp at h1
  ·have h2 := hall k q (by omega) hq
   rw [((covN_bit q x).1 hb).2] at h2;exact absurd h2 (by decide)
def essL (a : Nat) (ps : List S72) : List S72 → Nat → List S72
 | [], _ => []
 | p :: r, i => (if essB a ps i p = true then [p] else []) ++ essL a ps r (i + 1)
theorem zz57 (a : Nat) (ps : List S72) (r : List S72) : ∀ i, (essL a ps r i).length ≤ r.length := by
 induction r with
 | nil => intro i; simp [essL]
 | cons p r ih =>
  intro i;have := ih (i + 1)
  rw [essL];split <;> simp <;> omega
def cntV (m : Nat) : Nat → Nat → Nat
 | _, 0 => 0
 | v, d + 1 => (if v &&& m = v then 1 else 0) + cntV m (v + 1) d
def cntM : Nat → Nat → Nat
 | _, 0 => 0
 | m, d + 1 => cntV m 0 (m + 1) + cntM (m + 1) d
theorem zz60 (l : List Int) (a m : Nat) (d : Nat) : ∀ v, (valsM l a m v d).length ≤ cntV m v d := by
 induction d with
 | zero => intro v; simp [valsM]
 | succ d ih =>
  intro v;have := ih (v + 1)
  rw [valsM, cntV, List.length_append];by_cases c : v &&& m = v
  ·rw [if_pos c]
   split <;> simp <;> omega
  ·rw [if_neg c, if_neg (fun hh => c hh.1)]
   simpa using this
theorem zz61 (l : List Int) (a : Nat) (d : Nat) : ∀ m, (masksM l a m d).length ≤ cntM m d := by
 induction d with
 | zero => intro m; simp [masksM]
 | succ d ih =>
  intro m;have h1 := ih (m + 1)
  have h2 := zz60 l a m (m + 1) 0
  rw [masksM, cntM, List.length_append];omega
theorem zz62 {a : Nat} (ha : a ≤ 4) (l : List Int) : (masksM l a 0 (2 ^ a)).length ≤ 81 := by
 refine Nat.le_trans (zz61 l a (2 ^ a) 0) ?_
 have : ∀ a : Fin 5, cntM 0 (2 ^ a.1) ≤ 81 := by decide +kernel
 exact this ⟨a, by omega⟩
theorem zz63 (l : List Int) (m v : Nat) (d : Nat) : ∀ (fit : Bool) (i : Nat), primeF l m v fit i d = false → fit = false ∨ ∃ j, i ≤ j ∧ j < i + d ∧ (m >>> j) % 2 = 1 ∧ impliesM l (clrB m j) (clrB v j) = true := by
 induction d with
 | zero => intro fit i h; exact Or.inl h
 | succ d ih =>
  intro fit i h;rw [primeF] at h;by_cases c : (m >>> i) % 2 = 1 ∧ impliesM l (clrB m i) (clrB v i) = true
  ·exact Or.inr ⟨i, Nat.le_refl _, by omega, c.1, c.2⟩
  ·rw [if_neg c] at h
   rcases ih fit (i + 1) h with h | ⟨j, h1, h2, h3⟩
   ·exact Or.inl h
   ·exact Or.inr ⟨j, by omega, by omega, h3⟩
theorem zz64 (l : List Int) (a m v : Nat) (h : v &&& m = v ∧ impliesM l m v = true ∧ primeF l m v true 0 a = true) (d : Nat) : ∀ v0, v0 ≤ v → v < v0 + d → (⟨(m : Int), (v : Int)⟩ : S72) ∈ valsM l a m v0 d := by
 induction d with
 | zero => intro v0 h1 h2; omega
 | succ d ih =>
  intro v0 h1 h2;rw [valsM, List.mem_append];by_cases c : v = v0
  ·subst c
   left
   rw [if_pos h];simp
  ·exact Or.inr (ih (v0 + 1) (by omega) (by omega))
theorem zz65 (l : List Int) (a m : Nat) (p : S72) (h : p ∈ valsM l a m 0 (m + 1)) (d : Nat) : ∀ m0, m0 ≤ m → m < m0 + d → p ∈ masksM l a m0 d := by
 induction d with
 | zero => intro m0 h1 h2; omega
 | succ d ih =>
  intro m0 h1 h2;rw [masksM, List.mem_append];by_cases c : m = m0
  ·subst c
   exact Or.inl h
  ·exact Or.inr (ih (m0 + 1) (by omega) (by omega))
theorem zz66 (l : List Int) (a : Nat) (ha : a ≤ 4) (x : Nat) (hx : x < 2 ^ a) (N : Nat) : ∀ m, m ≤ N → m < 2 ^ a → impliesM l m (x &&& m) = true → ∃ p ∈ masksM l a 0 (2 ^ a), covE p x = true := by
 have h8 : 2 ^ a ≤ 2 ^ 4 := Nat.pow_le_pow_right (by decide) ha
 induction N with
 | zero =>
  intro m hm hma hi;obtain rfl : m = 0 := by omega
  have hp : primeF l 0 (x &&& 0) true 0 a = true := by
   cases c : primeF l 0 (x &&& 0) true 0 a with
   | true => rfl
   | false =>
    rcases zz63 l 0 (x &&& 0) a true 0 c with h | ⟨j, _, _, h, _⟩
    ·cases h
    ·simp at h
  refine ⟨_, zz65 l a 0 _ (zz64 l a 0 (x &&& 0) ⟨by simp, hi, hp⟩ 1 0 (by omega) (by simp)) (2 ^ a) 0 (by omega) (by omega), ?_⟩
  unfold covE;simp
 | succ N ih =>
  intro m hm hma hi;cases c : primeF l m (x &&& m) true 0 a with
  | true =>
   have hle : x &&& m ≤ m := Nat.and_le_right
   have hvm : (x &&& m) &&& m = x &&& m := by rw [Nat.and_assoc, Nat.and_self]
   refine ⟨_, zz65 l a m _ (zz64 l a m (x &&& m) ⟨hvm, hi, c⟩ (m + 1) 0 (by omega) (by omega)) (2 ^ a) 0 (by omega) (by omega), ?_⟩
   unfold covE;simp
  | false =>
   rcases zz63 l m (x &&& m) a true 0 c with h | ⟨j, _, hj, h, hi2⟩
   ·cases h
   ·have hle : x &&& m ≤ m := Nat.and_le_right
    have hb := (bits_f m (x &&& m) j (by omega) (by omega) (by omega)).2 h
    have e : clrB (x &&& m) j = x &&& clrB m j := by
     rw [← hb.2.2.2, ← hb.2.2.1];apply Nat.eq_of_testBit_eq
     intro y;simp only [Nat.testBit_xor, Nat.testBit_and];cases x.testBit y <;> cases m.testBit y <;> cases (2 ^ j).testBit y <;> rfl
    rw [e] at hi2;have hpos : 0 < 2 ^ j := Nat.two_pow_pos j
    exact ih (clrB m j) (by omega) (by omega) hi2
theorem zz67 (l : List Int) (a : Nat) (ha : a ≤ 4) (hl : l.length = 2 ^ a) (x : Nat) (hx : x < 2 ^ a) (h1 : rd l (x : Int) ≠ 0) : ∃ p ∈ masksM l a 0 (2 ^ a), covE p x = true := by
 refine zz66 l a ha x hx (2 ^ a) (2 ^ a - 1) (by omega) (by have := Nat.two_pow_pos a; omega) ?_
 unfold impliesM;rw [List.all_eq_true];intro y hy;rw [hl] at hy;obtain ⟨j, rfl, _, hj, h2⟩ := idxM_mem (Nat.le_refl _) hy
 have e : j = x := by
  rw [Nat.and_two_pow_sub_one_eq_mod, Nat.and_two_pow_sub_one_eq_mod, Nat.mod_eq_of_lt hj, Nat.mod_eq_of_lt hx] at h2;exact h2
 subst e;unfold nz;exact decide_eq_true h1
def nearB (ps : List S72) (x y : Nat) : Bool := ps.any (fun p => covE p x && covE p y)
def barB (ps : List S72) (cur : List Int) (x : Int) : Bool := cur.any (fun y => nearB ps y.toNat x.toNat)
def apartM (ps : List S72) : List Int → List Int → List Int
 | [], _ => []
 | x :: r, cur => if barB ps cur x = true then apartM ps r cur else if (apartM ps r (cur ++ [x])).length + 1 < (apartM ps r cur).length then apartM ps r cur else x :: apartM ps r (cur ++ [x])
theorem zz71 (ps : List S72) (r : List Int) : ∀ cur, (apartM ps r cur).length ≤ r.length := by
 induction r with
 | nil => intro cur; simp [apartM]
 | cons x r ih =>
  intro cur;have h1 := ih cur
  have h2 := ih (cur ++ [x])
  rw [apartM];split
  ·simp; omega
  ·split
   ·simp; omega
   ·simp; omega
def onesF (l : List Int) : Nat → Nat → List Int
 | _, 0 => []
 | i, d + 1 => (if rd l (i : Int) = 1 then [(i : Int)] else []) ++ onesF l (i + 1) d
theorem zz73 (l : List Int) (d : Nat) : ∀ i, (onesF l i d).length ≤ d := by
 induction d with
 | zero => intro i; simp [onesF]
 | succ d ih =>
  intro i;have := ih (i + 1)
  rw [onesF];split <;> simp <;> omega
theorem zz74 (l : List Int) (d : Nat) : ∀ i, ∀ y ∈ onesF l i d, (i : Int) ≤ y ∧ y < i + d := by
 induction d with
 | zero => intro i y hy; simp [onesF] at hy
 | succ d ih =>
  intro i y hy;rw [onesF, List.mem_append] at hy;rcases hy with hy | hy
  ·split at hy
   ·rw [List.mem_singleton] at hy
    omega
   ·simp at hy
  ·have := ih (i + 1) y hy
   omega
def pickM (cur best m : List Int) : List Int := if best.length < cur.length + m.length then cur ++ m else best
theorem pick_two (cur best m l : List Int) : pickM cur (pickM cur best l) m = pickM cur best (if l.length < m.length then m else l) := by
 unfold pickM;by_cases c1 : best.length < cur.length + l.length
 ·rw [if_pos c1]
  by_cases c2 : l.length < m.length
  ·rw [if_pos c2, if_pos (by simp; omega), if_pos (by omega)]
  ·rw [if_neg c2, if_neg (by simp; omega), if_pos c1]
 ·rw [if_neg c1]
  by_cases c2 : l.length < m.length
  ·rw [if_pos c2]
  ·rw [if_neg c2, if_neg (by omega), if_neg c1]
theorem zz77 (best m : List Int) : pickM [] best m = if best.length < m.length then m else best := by
 unfold pickM;simp
def goalN (l : List Int) (d : Nat) : Nat := orIdx 0 (onesF l 0 d)
theorem zz79 (l : List Int) (d : Nat) : ∀ i, ∀ y ∈ onesF l i d, rd l y = 1 := by
 induction d with
 | zero => intro i y hy; simp [onesF] at hy
 | succ d ih =>
  intro i y hy;rw [onesF, List.mem_append] at hy;rcases hy with hy | hy
  ·split at hy
   ·rename_i h
    rw [List.mem_singleton] at hy;rw [hy];exact h
   ·simp at hy
  ·exact ih (i + 1) y hy
theorem zz80 (l : List Int) (d x : Nat) (h : (goalN l d).testBit x = true) : x < d ∧ rd l (x : Int) = 1 ∧ (x : Int) ∈ onesF l 0 d := by
 unfold goalN at h;rw [zz43] at h;rcases h with h | ⟨y, hy, hx⟩
 ·simp at h
 ·have h1 := zz74 l d 0 y hy
  have h2 := zz79 l d 0 y hy
  have e : y = (x : Int) := by omega
  subst e;exact ⟨by omega, h2, hy⟩
theorem goalN_lt (l : List Int) (d : Nat) (hd : d ≤ 16) : goalN l d < 65536 := orIdx_lt _ (fun y hy => by have := zz74 l d 0 y hy; omega) 0 (by decide)
theorem zz82 (l : List Int) (x : Nat) (h : rd l (x : Int) = 1) (d : Nat) : ∀ i, i ≤ x → x < i + d → (x : Int) ∈ onesF l i d := by
 induction d with
 | zero => intro i h1 h2; omega
 | succ d ih =>
  intro i h1 h2;rw [onesF, List.mem_append];by_cases c : x = i
  ·subst c
   left
   rw [if_pos h];simp
  ·exact Or.inr (ih (i + 1) (by omega) (by omega))
theorem zz83 (l : List Int) (d x : Nat) : (goalN l d).testBit x = true ↔ x < d ∧ rd l (x : Int) = 1 := by
 constructor
 ·intro h
  have := zz80 l d x h
  exact ⟨this.1, this.2.1⟩
 ·rintro ⟨h1, h2⟩
  unfold goalN;rw [zz43];exact Or.inr ⟨(x : Int), zz82 l x h2 d 0 (by omega) (by omega), Int.toNat_natCast x⟩
theorem cov_sub {l : List Int} {a : Nat} (hl : l.length = 2 ^ a) (hb : ∀ x ∈ l, 0 ≤ x ∧ x ≤ 1) {p : S72} (hg : goodP l p) : covN a p &&& goalN l (2 ^ a) = covN a p := by
 apply Nat.eq_of_testBit_eq
 intro x;rw [Nat.testBit_and];cases hc : (covN a p).testBit x with
 | false => rfl
 | true =>
  rw [Bool.true_and, zz83];have h1 := (covN_bit p x).1 hc
  refine ⟨h1.1, ?_⟩
  obtain ⟨m, v, hm, hv, rfl, hi⟩ := hg
  unfold impliesM at hi;rw [List.all_eq_true, hl] at hi;have h2 := of_decide_eq_true h1.2
  simp only [Int.toNat_natCast] at h2;have h3 := hi (x : Int) (mem_idxM (Nat.le_refl _) (by omega) h1.1 h2)
  have h4 := of_decide_eq_true h3
  have hxl : x < l.length := by omega
  have h5 := hb (l[x]) (List.getElem_mem hxl)
  rw [rdN hxl] at h4 ⊢
  omega
def intsM (s : List Nat) : List Int := s.map (fun (y : Nat) => (y : Int))
theorem rdCov {cs p r : List Nat} {c : Nat} {i : Nat} (e : cs = p ++ c :: r) (hi : i = p.length) : rd (intsM cs) (i : Int) = (c : Int) := by
 rw [e];unfold intsM;rw [List.map_append, List.map_cons];exact rdA (by rw [List.length_map]; omega)
theorem zz87 (cs : List Nat) (hcs : ∀ c ∈ cs, c < 65536) (hcl : cs.length ≤ 81) (r : List Nat) : ∀ (p : List Nat) (i : Nat) (t left : Nat) (X : List Int) (C : Int), i = p.length → cs = p ++ r → t ≤ 16 → left < 65536 → 0 ≤ C → C + (chooseM r.length t : Nat) ≤ 1000000000000000000 → 0 < t →
  Ev (fun k => spec_nfSearch.l0 k (intsM cs) left t X C i) (combM intsM (X, C) (solsM r i t left)) := by
 have hll : (intsM cs).length = cs.length := by unfold intsM; exact List.length_map _
 induction r with
 | nil =>
  intro p i t left X C hi e ht hlf hC hb h0;have hlen : cs.length = p.length := by rw [e]; simp
  apply ev_up;simp only [spec_nfSearch.l0];obtain ⟨t, rfl⟩ : ∃ t', t = t' + 1 := ⟨t - 1, by omega⟩
  rw [solsM, comb_nil];exact ev_n (by omega) (Ev.now _)
 | cons c r ih =>
  intro p i t left X C hi e ht hlf hC hb h0;have hlen : cs.length = p.length + r.length + 1 := by rw [e]; simp; omega
  obtain ⟨t, rfl⟩ : ∃ t', t = t' + 1 := ⟨t - 1, by omega⟩
  have hc := hcs c (by rw [e]; simp)
  have hxx := rdCov e hi
  rw [List.length_cons, chooseM] at hb;have hl' : left ^^^ (left &&& c) < 65536 := Nat.xor_lt_two_pow (n := 16) hlf (Nat.lt_of_le_of_lt Nat.and_le_left hlf)
  have hsub : Ev (fun k => spec_nfSearch.f k (intsM cs) ((i + 1 : Nat) : Int) ((left ^^^ (left &&& c) : Nat) : Int) (t : Int)) (combM intsM ([], 0) (solsM r (i + 1) t (left ^^^ (left &&& c)))) := by
   apply ev_up;simp only [spec_nfSearch.f];refine ev_ite (fun c1 => ?_) (fun c1 => ?_)
   ·obtain rfl : t = 0 := by omega
    have es : solsM r (i + 1) 0 (left ^^^ (left &&& c)) = if left ^^^ (left &&& c) = 0 then [[]] else [] := by rw [solsM]
    rw [es];refine ev_ite (fun c2 => ev_eq (Ev.now _) ?_) (fun c2 => ev_eq (Ev.now _) ?_)
    ·rw [if_pos (by exact_mod_cast c2)]
     simp [combM, headM, intsM]
    ·rw [if_neg (fun hh => c2 (by exact_mod_cast hh)), comb_nil]
   ·exact ih (p ++ [c]) (i + 1) t _ [] 0 (by simp; omega) (by rw [e]; simp) (by omega) hl' (Int.le_refl _) (by omega) (by omega)
  have hS1 := zz2 r (i + 1) t (left ^^^ (left &&& c))
  have hlens := sols_len r (i + 1) t (left ^^^ (left &&& c))
  apply ev_up;simp only [spec_nfSearch.l0];refine ev_p (by omega) (ev_p (by omega) ?_)
  rw [hxx, wN (n := (i : Int) + 1) (m := i + 1) (by omega) (by omega), wN (n := ((t + 1 : Nat) : Int) - 1) (m := t) (by omega) (by omega), andNotN left c (by omega) (by omega)]
  refine Ev.bind hsub ?_
  rw [solsM];generalize solsM r (i + 1) t (left ^^^ (left &&& c)) = S at hS1 hlens ⊢
  have next : ∀ (X' : List Int) (C' : Int), 0 ≤ C' → C' + (chooseM r.length (t + 1) : Nat) ≤ 1000000000000000000 → Ev (fun k => spec_nfSearch.l0 k (intsM cs) left ((t + 1 : Nat) : Int) X' C' ((i + 1 : Nat) : Int)) (combM intsM (X', C') (solsM r (i + 1) (t + 1) left)) := fun X' C' h1 h2 => ih (p ++ [c]) (i + 1) (t + 1) left X' C' (by simp; omega) (by rw [e]; simp) ht hlf h1 h2 (by omega)
  have hn : (combM intsM ([], 0) S).2 = (S.length : Int) := by unfold combM; simp
  rw [hn, w64 (n := C + (S.length : Int)) (by omega) (by omega)]
  rw [← zz19 _ _ hC];refine ev_ite (fun c1 => ev_ite (fun c2 => ?_) (fun c2 => ?_)) (fun c1 => ?_)
  ·obtain ⟨s, S', rfl⟩ : ∃ s S', S = s :: S' := by
    cases S with
    | nil => simp at c1
    | cons s S' => exact ⟨s, S', rfl⟩
   have hs := (hlens s (by simp)).1
   have e1 : (combM intsM ([], 0) (s :: S')).1 = intsM s := by unfold combM; simp [headM]
   rw [e1];have hsl : (intsM s).length = t := by unfold intsM; rw [List.length_map, hs]
   refine Ev.bind (ev_c rfl) (ev_p (by rw [hsl]; simp; omega) ?_)
   refine ev_eq (next _ _ (by omega) (by omega)) ?_
   congr 1
   unfold combM;rw [if_pos ⟨c2, by simp⟩]
   simp [headM, intsM]
  ·refine ev_eq (next _ _ (by omega) (by omega)) ?_
   congr 1
   unfold combM;rw [if_neg (fun hh => c2 hh.1), List.length_map]
  ·have : S = [] := List.length_eq_zero_iff.1 (by omega)
   subst this;refine ev_eq (next _ _ (by omega) (by simp; omega)) ?_
   simp [comb_nil]
theorem zz88 (cs : List Nat) (hcs : ∀ c ∈ cs, c < 65536) (hcl : cs.length ≤ 81) (t g : Nat) (ht : t ≤ 16) (hg : g < 65536) : Ev (fun k => spec_nfSearch.f k (intsM cs) 0 g t) (combM intsM ([], 0) (solsM cs 0 t g)) := by
 have hch := zz8 hcl ht
 apply ev_up;simp only [spec_nfSearch.f];refine ev_ite (fun c1 => ?_) (fun c1 => ?_)
 ·obtain rfl : t = 0 := by omega
  have es : solsM cs 0 0 g = if g = 0 then [[]] else [] := by rw [solsM]
  rw [es];refine ev_ite (fun c2 => ev_eq (Ev.now _) ?_) (fun c2 => ev_eq (Ev.now _) ?_)
  ·rw [if_pos (by exact_mod_cast c2)]
   simp [combM, headM, intsM]
  ·rw [if_neg (fun hh => c2 (by exact_mod_cast hh)), comb_nil]
 ·exact zz87 cs hcs hcl cs [] 0 t g [] 0 rfl rfl ht hg (Int.le_refl _) (by omega) (by omega)
def termsAt (ps : List S72) (s : List Nat) : List S72 := s.map (fun (j : Nat) => rd_T72 ps (j : Int))
theorem sub_or {s c g : Nat} (hs : s &&& g = s) (hc : c &&& g = c) : (s ||| c) &&& g = s ||| c := by
 apply Nat.eq_of_testBit_eq
 intro x;have h1 := congrArg (fun n => n.testBit x) hs
 have h2 := congrArg (fun n => n.testBit x) hc
 simp only [Nat.testBit_and, Nat.testBit_or] at *
 revert h1 h2
 cases s.testBit x <;> cases c.testBit x <;> cases g.testBit x <;> simp
theorem full_iff {s g : Nat} (hs : s &&& g = s) : s = g ↔ g ^^^ (g &&& s) = 0 := by
 rw [zz53];constructor
 ·rintro rfl
  exact fun x h => h
 ·intro h
  apply Nat.eq_of_testBit_eq
  intro x;have h1 := congrArg (fun n => n.testBit x) hs
  have h2 := h x
  simp only [Nat.testBit_and] at h1;revert h1 h2
  cases s.testBit x <;> cases g.testBit x <;> simp
theorem union_lt (cs : List Nat) (h : ∀ c ∈ cs, c < 65536) : unionM cs < 65536 := by
 induction cs with
 | nil => decide
 | cons c cs ih => exact Nat.or_lt_two_pow (n := 16) (h c (by simp)) (ih (fun x hx => h x (by simp [hx])))
theorem zz93 (cs : List Nat) (g : Nat) (h : ∀ c ∈ cs, c &&& g = c) : unionM cs &&& g = unionM cs := by
 induction cs with
 | nil => simp [unionM]
 | cons c cs ih => exact sub_or (h c (by simp)) (ih (fun x hx => h x (by simp [hx])))
theorem zz94 (g : Nat) (hg : g < 65536) (ps : List S72) (cs : List Nat) (hcs : ∀ c ∈ cs, c < 65536) (hcg : ∀ c ∈ cs, c &&& g = c) (hps : ps.length = cs.length) (hcl : cs.length ≤ 81) (bh : List Int) (hbl : bh.length = cs.length + 1) (hbh : ∀ i, i ≤ cs.length → rd bh (i : Int) = ((unionM (cs.drop i) : Nat) : Int)) (r : List Nat) : ∀ (p : List Nat) (i t s : Nat) (list : List S72) (st : List S72 × Int), i = p.length → cs = p ++ r → t ≤ 16 → s < 65536 → s &&& g = s → list.length ≤ i → 0 ≤ st.2 → st.2 + (chooseM r.length t : Nat) ≤ 1000000000000000000 → 0 < t →
  Ev (fun k => impl_leastSums.l k g ps (intsM cs) bh list s t st i) (combM (fun u => list ++ termsAt ps u) st (solsM r i t (g ^^^ (g &&& s)))) := by
 have hll : (intsM cs).length = cs.length := by unfold intsM; exact List.length_map _
 induction r with
 | nil =>
  intro p i t s list st hi e ht hsl hsg hls hC hb h0;have hlen : cs.length = p.length := by rw [e]; simp
  apply ev_up;simp only [impl_leastSums.l];obtain ⟨t, rfl⟩ : ∃ t', t = t' + 1 := ⟨t - 1, by omega⟩
  rw [solsM, comb_nil, wN (n := (i : Int) + ((t + 1 : Nat) : Int)) (m := i + (t + 1)) (by omega) (by omega)]
  exact ev_n (by omega) (Ev.now _)
 | cons c r ih =>
  intro p i t s list st hi e ht hsl hsg hls hC hb h0;have hlen : cs.length = p.length + r.length + 1 := by rw [e]; simp; omega
  obtain ⟨t, rfl⟩ : ∃ t', t = t' + 1 := ⟨t - 1, by omega⟩
  have hc := hcs c (by rw [e]; simp)
  have hcg' := hcg c (by rw [e]; simp)
  have hxx := rdCov e hi
  have hdrop : cs.drop i = c :: r := by rw [e, hi, List.drop_left]
  have hbi := hbh i (by omega)
  rw [hdrop] at hbi;have hul := union_lt (c :: r) (fun x hx => hcs x (by rw [e]; exact List.mem_append_right _ hx))
  have hug := zz93 (c :: r) g (fun x hx => hcg x (by rw [e]; exact List.mem_append_right _ hx))
  apply ev_up;simp only [impl_leastSums.l];rw [wN (n := (i : Int) + ((t + 1 : Nat) : Int)) (m := i + (t + 1)) (by omega) (by omega), wN (n := (i : Int) + 1) (m := i + 1) (by omega) (by omega), wN (n := ((t + 1 : Nat) : Int) - 1) (m := t) (by omega) (by omega), hbi, orN s (unionM (c :: r)) (by omega) (by omega), hxx, orN s c (by omega) (by omega)]
  refine ev_ite (fun c1 => ev_p (by omega) (ev_p (by omega) (ev_ite (fun c2 => ?_) (fun c2 => ?_)))) (fun c1 => ?_)
  ·refine ev_p (by omega) (ev_p (by omega) (ev_p (by omega) ?_))
   rw [List.length_cons, chooseM] at hb;have hsc := sub_or hsg hcg'
   have hscl : s ||| c < 65536 := or_lt16 hsl hc
   have hS1 := zz2 r (i + 1) t (g ^^^ (g &&& (s ||| c)))
   have hsub : Ev (fun k => impl_leastSums.e (fun a b c d f => impl_leastSums.l k g ps (intsM cs) bh a b c d f) g (list ++ [rd_T72 ps (i : Int)]) ((s ||| c : Nat) : Int) ((i + 1 : Nat) : Int) (t : Int) st) (combM (fun u => (list ++ [rd_T72 ps (i : Int)]) ++ termsAt ps u) st (solsM r (i + 1) t (g ^^^ (g &&& (s ||| c))))) := by
    unfold impl_leastSums.e;refine ev_ite (fun c3 => ?_) (fun c3 => ?_)
    ·obtain rfl : t = 0 := by omega
     have es : solsM r (i + 1) 0 (g ^^^ (g &&& (s ||| c))) = if g ^^^ (g &&& (s ||| c)) = 0 then [[]] else [] := by rw [solsM]
     rw [es];refine ev_eq (Ev.now _) ?_
     unfold impl_leastSums.leaf;by_cases c4 : s ||| c = g
     ·rw [if_pos (by exact_mod_cast c4), if_pos ((full_iff hsc).1 c4), w64 (by omega) (by simp only [chooseM] at hb; omega)]
      unfold combM;ext1
      ·by_cases c5 : st.2 = 0
       ·simp [c5, headM, termsAt]
       ·simp [c5]
      ·simp
     ·rw [if_neg (fun hh => c4 (by exact_mod_cast hh)), if_neg (fun hh => c4 ((full_iff hsc).2 hh)), comb_nil]
    ·exact ih (p ++ [c]) (i + 1) t (s ||| c) _ st (by simp; omega) (by rw [e]; simp) (by omega) hscl hsc (by simp; omega) hC (by omega) (by omega)
   refine Ev.bind hsub ?_
   rw [solsM, zz12, ← zz19 _ _ hC, comb_map];have ef : (fun u => (list ++ [rd_T72 ps (i : Int)]) ++ termsAt ps u) = (fun u => list ++ termsAt ps (i :: u)) := by
    funext u
    simp [termsAt]
   rw [ef];generalize solsM r (i + 1) t (g ^^^ (g &&& (s ||| c))) = S at hS1 ⊢
   have h2 : (combM (fun u => list ++ termsAt ps (i :: u)) st S).2 = st.2 + S.length := rfl
   exact ih (p ++ [c]) (i + 1) (t + 1) s list _ (by simp; omega) (by rw [e]; simp) ht hsl hsg (by omega) (by rw [h2]; omega) (by rw [h2]; omega) (by omega)
  ·rw [zz13 (c :: r) i (t + 1) _ (fun hh => c2 ?_), comb_nil]
   ·exact Ev.now _
   ·rw [zz12] at hh
    have := (full_iff (sub_or hsg hug)).2 hh
    exact_mod_cast this
  ·rw [sols_few (c :: r) i (t + 1) _ (by simp only [List.length_cons]; omega), comb_nil]
   exact Ev.now _
theorem zz95 {a : Nat} (ha : a ≤ 4) (l : List Int) : (masksM l a 0 (2 ^ a)).length ≤ 256 ∧ ∀ p ∈ masksM l a 0 (2 ^ a), goodP l p := by
 have h8 : 2 ^ a ≤ 2 ^ 4 := Nat.pow_le_pow_right (by decide) ha
 have h1 := zz36 l a 16 (2 ^ a) 0 (by omega)
 exact ⟨by omega, zz40 l a (2 ^ a) 0 (by omega)⟩
def leastF (cs : List Nat) (g : Nat) : Nat → Nat → List (List Nat)
 | 0, m => solsM cs 0 m g
 | d + 1, m => if solsM cs 0 m g = [] then leastF cs g d (m + 1) else solsM cs 0 m g
theorem zz97 (p q : Nat → Bool) (R : List Nat) : R.countP (fun j => p j || q j) ≤ R.countP p + R.countP q := by
 induction R with
 | nil => simp
 | cons x R ih =>
  rw [List.countP_cons, List.countP_cons, List.countP_cons];cases p x <;> cases q x <;> simp <;> omega
theorem zz98 (L : List Nat) (n : Nat) : (List.range n).countP (fun j => L.any (fun y => decide (y = j))) ≤ L.length := by
 induction L with
 | nil => simp
 | cons y L ih =>
  have h1 : (List.range n).countP (fun j => (y :: L).any (fun y => decide (y = j))) ≤ (List.range n).countP (fun j => decide (y = j)) + (List.range n).countP (fun j => L.any (fun y => decide (y = j))) := by
   simp only [List.any_cons];exact zz97 _ _ _
  have h2 : (List.range n).countP (fun j => decide (y = j)) ≤ 1 := by
   have h3 : (List.range n).countP (fun j => decide (y = j)) = (List.range n).count y := by
    rw [List.count];congr 1
    funext j
    by_cases c : y = j
    ·simp [c]
    ·have c' : ¬ j = y := fun hh => c hh.symm
     simp [c, c']
   rw [h3];exact List.nodup_iff_count.1 List.nodup_range y
  simp only [List.length_cons];omega
theorem zz99 (l : List Int) (a : Nat) (ha : a ≤ 4) (hl : l.length = 2 ^ a) : ∃ t, t ≤ 16 ∧ solsM ((masksM l a 0 (2 ^ a)).map (covN a)) 0 t (goalN l (2 ^ a)) ≠ [] := by
 have h8 : 2 ^ a ≤ 2 ^ 4 := Nat.pow_le_pow_right (by decide) ha
 have hs := zz14 ((masksM l a 0 (2 ^ a)).map (covN a)) 0 (goalN l (2 ^ a)) (fun j => ((onesF l 0 (2 ^ a)).map (fun y => (masksM l a 0 (2 ^ a)).findIdx (fun p => covE p y.toNat))).any (fun y => decide (y = j))) (fun x hx => by
  obtain ⟨h1, h2, h3⟩ := zz80 l (2 ^ a) x hx
  have hex := zz67 l a ha hl x h1 (by rw [h2]; decide)
  have hlt : (masksM l a 0 (2 ^ a)).findIdx (fun p => covE p x) < (masksM l a 0 (2 ^ a)).length := List.findIdx_lt_length.2 hex
  have hget : covE ((masksM l a 0 (2 ^ a))[(masksM l a 0 (2 ^ a)).findIdx (fun p => covE p x)]) x = true := List.findIdx_getElem (w := hlt)
  refine ⟨(masksM l a 0 (2 ^ a)).findIdx (fun p => covE p x), covN a ((masksM l a 0 (2 ^ a))[(masksM l a 0 (2 ^ a)).findIdx (fun p => covE p x)]), ?_, ?_, ?_⟩
  ·rw [List.getElem?_map, List.getElem?_eq_getElem hlt]
   rfl
  ·rw [List.any_eq_true]
   refine ⟨_, List.mem_map_of_mem h3, ?_⟩
   rw [decide_eq_true_eq, Int.toNat_natCast];omega
  ·exact (covN_bit _ x).2 ⟨h1, hget⟩)
 refine ⟨_, ?_, hs⟩
 simp only [Nat.zero_add];refine Nat.le_trans (zz98 _ _) ?_
 rw [List.length_map];have := zz73 l (2 ^ a) 0
 omega
def leastRes (l : List Int) (a : Nat) : List S72 × Int :=
 let S := leastF ((masksM l a 0 (2 ^ a)).map (covN a)) (goalN l (2 ^ a)) 16 0
 (termsAt (masksM l a 0 (2 ^ a)) (headM S), (S.length : Int))
theorem zz101 (n : Int) (l : List Int) (hl : l.length ≤ 1000000) (d : Nat) : ∀ (i : Nat) (xs : List Int), i + d = l.length → xs.length ≤ i →
  Ev (fun k => spec_ttOnes.l0 k xs l l.length i) (xs ++ onesF l i d) := by
 induction d with
 | zero =>
  intro i xs hi hx;apply ev_up;simp only [spec_ttOnes.l0];refine ev_n (by omega) (ev_eq (Ev.now _) (by simp [onesF]))
 | succ d ih =>
  intro i xs hi hx;apply ev_up;simp only [spec_ttOnes.l0];refine ev_p (by omega) (ev_p (by omega) (ev_p (by omega) ?_))
  rw [wN (n := (i : Int) + 1) (m := i + 1) (by omega) (by omega), onesF]
  refine ev_ite (fun c => ev_p (by omega) ?_) (fun c => ?_)
  ·rw [if_pos c, ← List.append_assoc]
   exact ih (i + 1) _ (by omega) (by simp; omega)
  ·rw [if_neg c, List.nil_append]
   exact ih (i + 1) _ (by omega) (by omega)
theorem zz102 (n : Int) (l : List Int) (hl : l.length ≤ 1000000) : Ev (fun k => spec_ttOnes.f k n l) (onesF l 0 l.length) := by
 unfold spec_ttOnes.f;exact zz101 n l hl l.length 0 [] (by omega) (by simp)
theorem zz103 (ks : List Int) (hk : ∀ y ∈ ks, 0 ≤ y ∧ y < 16) (hkl : ks.length ≤ 1048576) (r : List Int) : ∀ (p : List Int) (j : Int) (acc : Nat), j = p.length → ks = p ++ r → acc < 65536 →
  Ev (fun k => spec_nfOnes.l0 k acc ks ks.length j) ((orIdx acc r : Nat) : Int) := by
 induction r with
 | nil =>
  intro p j acc hj e ha;have hlen : ks.length = p.length := by rw [e]; simp
  apply ev_up;simp only [spec_nfOnes.l0];exact ev_n (by omega) (Ev.now _)
 | cons y r ih =>
  intro p j acc hj e ha;have hlen : ks.length = p.length + r.length + 1 := by rw [e]; simp; omega
  have hxx : rd ks j = y := by rw [e]; exact rdA hj
  have hy := hk y (by rw [e]; simp)
  have hp := pow_lt16 hy.1 hy.2
  obtain ⟨b, rfl⟩ := nat_of hy.1
  rw [Int.toNat_natCast] at hp;apply ev_up;simp only [spec_nfOnes.l0];refine ev_p (by omega) (ev_p (by omega) (ev_p (by omega) ?_))
  rw [hxx, w64 (n := j + 1) (by omega) (by omega), u64w (by omega) (by omega), shl1 b (by omega), orN acc (2 ^ b) (by omega) (by omega), orIdx, Int.toNat_natCast]
  exact ev_p (by omega) (ih (p ++ [(b : Int)]) (j + 1) _ (by simp; omega) (by rw [e]; simp) (or_lt16 ha hp))
theorem zz104 (n : Int) (l : List Int) (hl : l.length ≤ 16) : Ev (fun k => spec_nfOnes.f k n l) ((goalN l l.length : Nat) : Int) := by
 unfold spec_nfOnes.f;refine Ev.bind (zz102 n l (by omega)) ?_
 have h1 := zz73 l l.length 0
 exact zz103 _ (fun y hy => by have := zz74 l l.length 0 y hy; omega) (by omega) _ [] 0 0 rfl rfl (by decide)
theorem zz105 (a m v : Nat) (ha : a ≤ 4) (hm : m < 65536) (d : Nat) : ∀ (xs : List Int) (i : Nat), i + d = 2 ^ a → xs.length ≤ i →
  Ev (fun k => spec_nfIndices.l0 k a xs i m v) (xs ++ idxM (2 ^ a) m v d) := by
 have h8 : 2 ^ a ≤ 2 ^ 4 := Nat.pow_le_pow_right (by decide) ha
 induction d with
 | zero =>
  intro xs i hi hx;apply ev_up;simp only [spec_nfIndices.l0];rw [u64w (by omega) (by omega), shl1 a (by omega)]
  refine ev_p (by omega) (ev_n (by omega) ?_)
  simpa [idxM] using Ev.now xs
 | succ d ih =>
  intro xs i hi hx;apply ev_up;simp only [spec_nfIndices.l0];rw [u64w (by omega) (by omega), shl1 a (by omega)]
  refine ev_p (by omega) (ev_p (by omega) ?_)
  rw [andN i m (by omega) (by omega), wN (m := i + 1) (by omega) (by omega)]
  have e : 2 ^ a - (d + 1) = i := by omega
  refine ev_ite (fun h => ?_) (fun h => ?_)
  ·refine ev_p (by omega) ?_
   refine ev_eq (ih _ (i + 1) (by omega) (by simp; omega)) ?_
   have h' : i &&& m = v := by exact_mod_cast h
   simp [idxM, e, h']
  ·refine ev_eq (ih _ (i + 1) (by omega) (by omega)) ?_
   have h' : ¬ i &&& m = v := fun h2 => h (by exact_mod_cast h2)
   simp [idxM, e, h']
theorem zz106 (a m v : Nat) (ha : a ≤ 4) (hm : m < 65536) : Ev (fun k => spec_nfIndices.f k a m v) (idxM (2 ^ a) m v (2 ^ a)) := by
 unfold spec_nfIndices.f;exact zz105 a m v ha hm (2 ^ a) [] 0 (by omega) (by simp)
theorem zz107 (n : Int) (l ks : List Int) (hk : ∀ x ∈ ks, 0 ≤ x ∧ x < l.length) (hl : ks.length ≤ 1048576) (r : List Int) : ∀ (p : List Int) (i : Int), i = p.length → ks = p ++ r →
  Ev (fun k => spec_nfImplies.l0 k ks ks.length i n l) (r.all (nz l)) := by
 induction r with
 | nil =>
  intro p i hi e;have hlen : ks.length = p.length := by rw [e]; simp
  apply ev_up;simp only [spec_nfImplies.l0];exact ev_n (by omega) (Ev.now _)
 | cons x r ih =>
  intro p i hi e;have hlen : ks.length = p.length + r.length + 1 := by rw [e]; simp; omega
  have hx : rd ks i = x := by rw [e]; exact rdA hi
  have hxb := hk x (by rw [e]; simp)
  have ih' := ih (p ++ [x]) (i + 1) (by simp; omega) (by rw [e]; simp)
  apply ev_up;simp only [spec_nfImplies.l0];refine ev_p (by omega) (ev_p (by omega) (ev_p (by omega) ?_))
  rw [hx, w64 (n := i + 1) (by omega) (by omega)]
  refine ev_p (by omega) (ev_p (by omega) (ev_ite (fun h => ?_) (fun h => ?_)))
  ·rw [List.all_cons, show nz l x = false from decide_eq_false (fun hh => hh h), Bool.false_and]
   exact Ev.now _
  ·rw [List.all_cons, show nz l x = true from decide_eq_true h, Bool.true_and]
   exact ih'
theorem zz108 (a m v : Nat) (l : List Int) (ha : a ≤ 4) (hl : l.length = 2 ^ a) (hm : m < 65536) : Ev (fun k => spec_nfImplies.f k a l m v) (impliesM l m v) := by
 unfold spec_nfImplies.f impliesM;have h8 : 2 ^ a ≤ 2 ^ 4 := Nat.pow_le_pow_right (by decide) ha
 rw [hl];have hi := zz22 (2 ^ a) m v (2 ^ a)
 refine Ev.bind (zz106 a m v ha hm) (zz107 a l _ (fun x hx => ?_) (by omega) _ [] 0 rfl rfl)
 obtain ⟨j, rfl, _, h2, _⟩ := idxM_mem (Nat.le_refl _) hx
 omega
theorem zz109 (a : Nat) (l : List Int) (ha : a ≤ 4) (hla : l.length = 2 ^ a) (hl16 : l.length ≤ 16) (m v : Nat) (hm : m < 16) (hv : v < 16) (xs : List S72) (hx : xs.length ≤ 1000000) (R : List S72) (d : Nat) : ∀ (i : Nat) (fit : Bool), i + d = a →
  Ev (fun k => spec_nfPrimes.l1 k (xs ++ (if primeF l m v fit i d = true then [⟨(m : Int), (v : Int)⟩] else [])) m (wrap64 ((v : Int) + 1)) a l) R → Ev (fun k => spec_nfPrimes.l2 k xs m v fit i a l m v) R := by
 induction d with
 | zero =>
  intro i fit hi h;apply ev_up;simp only [spec_nfPrimes.l2];rw [primeF] at h;refine ev_n (by omega) (ev_ite (fun c => ev_p (by omega) ?_) (fun c => ?_))
  ·rw [if_pos c] at h
   exact h
  ·rw [if_neg c, List.append_nil] at h
   exact h
 | succ d ih =>
  intro i fit hi h;have hi4 : i < 4 := by omega
  have hbf := bits_f m v i hm hv hi4
  rw [primeF] at h;apply ev_up;simp only [spec_nfPrimes.l2];rw [wN (n := (i : Int) + 1) (m := i + 1) (by omega) (by omega)]
  have h2i : 2 ^ i ≤ 2 ^ 3 := Nat.pow_le_pow_right (by decide) (by omega)
  rw [u64w (by omega) (by omega), shl1 i (by omega), andN m (2 ^ i) (by omega) (by omega), andN v (2 ^ i) (by omega) (by omega)]
  refine ev_p (by omega) (ev_p (by omega) (ev_ite (fun c => ?_) (fun c => ?_)))
  ·have c' : ¬ (m >>> i) % 2 = 1 := fun hh => hbf.1.2 hh (by exact_mod_cast c)
   rw [show (if (m >>> i) % 2 = 1 ∧ impliesM l (clrB m i) (clrB v i) = true then false else fit) = fit from if_neg (fun hh => c' hh.1)] at h
   exact ih (i + 1) fit (by omega) h
  ·have c' : (m >>> i) % 2 = 1 := hbf.1.1 (fun hh => c (by rw [hh]; rfl))
   have hb := hbf.2 c'
   rw [wN (n := (m : Int) - ((2 ^ i : Nat) : Int)) (m := clrB m i) (by omega) (by omega), wN (n := (v : Int) - ((v &&& 2 ^ i : Nat) : Int)) (m := clrB v i) (by unfold clrB; omega) (by omega)]
   refine Ev.bind (zz108 a (clrB m i) (clrB v i) l ha hla (by omega)) (ev_ite (fun c2 => ?_) (fun c2 => ?_))
   ·rw [show (if (m >>> i) % 2 = 1 ∧ impliesM l (clrB m i) (clrB v i) = true then false else fit) = false from if_pos ⟨c', c2⟩] at h
    exact ih (i + 1) false (by omega) h
   ·rw [show (if (m >>> i) % 2 = 1 ∧ impliesM l (clrB m i) (clrB v i) = true then false else fit) = fit from if_neg (fun hh => c2 hh.2)] at h
    exact ih (i + 1) fit (by omega) h
theorem zz110 (a : Nat) (l : List Int) (ha : a ≤ 4) (hla : l.length = 2 ^ a) (hl16 : l.length ≤ 16) (m : Nat) (hm : m < 16) (R : List S72) (d : Nat) : ∀ (v : Nat) (xs : List S72), v + d = m + 1 → xs.length + d ≤ 1000000 →
  Ev (fun k => spec_nfPrimes.l0 k (xs ++ valsM l a m v d) (wrap64 ((m : Int) + 1)) a l) R → Ev (fun k => spec_nfPrimes.l1 k xs m v a l) R := by
 induction d with
 | zero =>
  intro v xs hv hx h;apply ev_up;simp only [spec_nfPrimes.l1];rw [valsM, List.append_nil] at h;exact ev_n (by omega) h
 | succ d ih =>
  intro v xs hv hx h;have hvm : v < 16 := by omega
  rw [valsM] at h;have next : ∀ ys : List S72, ys.length ≤ 1 → Ev (fun k => spec_nfPrimes.l0 k (xs ++ (ys ++ valsM l a m (v + 1) d)) (wrap64 ((m : Int) + 1)) a l) R → Ev (fun k => spec_nfPrimes.l1 k (xs ++ ys) m (wrap64 ((v : Int) + 1)) a l) R := fun ys hys hh => by
   rw [wN (n := (v : Int) + 1) (m := v + 1) (by omega) (by omega)]
   refine ih (v + 1) _ (by omega) (by simp; omega) ?_
   rw [List.append_assoc];exact hh
  have skip : ¬ (v &&& m = v ∧ impliesM l m v = true) → Ev (fun k => spec_nfPrimes.l1 k xs m (wrap64 ((v : Int) + 1)) a l) R := fun c => by
   rw [if_neg (fun hh => c ⟨hh.1, hh.2.1⟩)] at h
   have := next [] (by simp) h
   rw [List.append_nil] at this;exact this
  apply ev_up;simp only [spec_nfPrimes.l1];rw [andN v m (by omega) (by omega)]
  refine ev_p (by omega) (ev_ite (fun c => Ev.bind (zz108 a m v l ha hla (by omega)) (ev_up ?_)) (fun c => ev_up ?_))
  ·have c' : v &&& m = v := by exact_mod_cast c
   simp only [spec_nfPrimes.j2];by_cases c2 : impliesM l m v = true
   ·rw [c2]
    refine ev_n (by decide) (zz109 a l ha hla hl16 m v hm hvm xs (by omega) R a 0 true (by omega) ?_)
    refine next _ (by split <;> simp) ?_
    have e : (if v &&& m = v ∧ impliesM l m v = true ∧ primeF l m v true 0 a = true then [(⟨(m : Int), (v : Int)⟩ : S72)] else []) = if primeF l m v true 0 a = true then [⟨(m : Int), (v : Int)⟩] else [] := by
     by_cases c3 : primeF l m v true 0 a = true
     ·rw [if_pos ⟨c', c2, c3⟩, if_pos c3]
     ·rw [if_neg (fun hh => c3 hh.2.2), if_neg c3]
    rw [e] at h;exact h
   ·rw [show impliesM l m v = false by simpa using c2]
    exact ev_p (by trivial) (skip (fun hh => c2 hh.2))
  ·simp only [spec_nfPrimes.j2]
   refine ev_p (by trivial) (skip (fun hh => c ?_))
   exact_mod_cast hh.1
theorem zz111 (a : Nat) (l : List Int) (ha : a ≤ 4) (hla : l.length = 2 ^ a) (hl16 : l.length ≤ 16) (d : Nat) : ∀ (m : Nat) (xs : List S72), m + d = 2 ^ a → xs.length ≤ 17 * m →
  Ev (fun k => spec_nfPrimes.l0 k xs m a l) (xs ++ masksM l a m d) := by
 induction d with
 | zero =>
  intro m xs hm hx;apply ev_up;simp only [spec_nfPrimes.l0];rw [u64w (by omega) (by omega), shl1 a (by omega)]
  refine ev_p (by omega) (ev_n (by omega) (ev_eq (Ev.now _) ?_))
  simp [masksM]
 | succ d ih =>
  intro m xs hm hx;apply ev_up;simp only [spec_nfPrimes.l0];have hvl := zz34 l a m (m + 1) 0
  rw [u64w (by omega) (by omega), shl1 a (by omega)]
  refine ev_p (by omega) (ev_p (by omega) ?_)
  refine zz110 a l ha hla hl16 m (by omega) _ (m + 1) 0 xs (by omega) (by omega) ?_
  rw [wN (n := (m : Int) + 1) (m := m + 1) (by omega) (by omega)]
  refine ev_eq (ih (m + 1) _ (by omega) (by simp; omega)) ?_
  simp [masksM]
theorem zz112 (a : Nat) (l : List Int) (ha : a ≤ 4) (hla : l.length = 2 ^ a) (hl16 : l.length ≤ 16) : Ev (fun k => spec_nfPrimes.f k a l) (masksM l a 0 (2 ^ a)) := by
 unfold spec_nfPrimes.f;exact zz111 a l ha hla hl16 (2 ^ a) 0 [] (by omega) (by simp)
theorem zz113 (a : Nat) (l : List Int) (xs : List Int) (ps : List S72) (i : Int) (t : List Int) (ht : ∀ y ∈ t, 0 ≤ y ∧ y < 16) (htl : t.length ≤ 1048576) (R : List Int) (hx : xs.length ≤ 1048576) (r : List Int) : ∀ (p : List Int) (j : Int) (acc : Nat), j = p.length → t = p ++ r → acc < 65536 →
  Ev (fun k => spec_nfCovers.l0 k (xs ++ [(orIdx acc r : Int)]) ps ps.length (wrap64 (i + 1)) a l) R → Ev (fun k => spec_nfCovers.l1 k xs acc ps ps.length i t t.length j a l) R := by
 induction r with
 | nil =>
  intro p j acc hj e ha h;have hlen : t.length = p.length := by rw [e]; simp
  apply ev_up;simp only [spec_nfCovers.l1];exact ev_n (by omega) (ev_p (by omega) h)
 | cons y r ih =>
  intro p j acc hj e ha h;have hlen : t.length = p.length + r.length + 1 := by rw [e]; simp; omega
  have hxx : rd t j = y := by rw [e]; exact rdA hj
  have hy := ht y (by rw [e]; simp)
  have hp := pow_lt16 hy.1 hy.2
  obtain ⟨b, rfl⟩ := nat_of hy.1
  rw [Int.toNat_natCast] at hp;apply ev_up;simp only [spec_nfCovers.l1];refine ev_p (by omega) (ev_p (by omega) (ev_p (by omega) ?_))
  rw [hxx, w64 (n := j + 1) (by omega) (by omega), u64w (by omega) (by omega), shl1 b (by omega), orN acc (2 ^ b) (by omega) (by omega)]
  rw [orIdx, Int.toNat_natCast] at h;exact ev_p (by omega) (ih (p ++ [(b : Int)]) (j + 1) _ (by simp; omega) (by rw [e]; simp) (or_lt16 ha hp) h)
theorem zz114 (a : Nat) (ha : a ≤ 4) (l : List Int) (ps : List S72) (hpl : ps.length ≤ 1048576) (hg : ∀ p ∈ ps, goodP l p) (r : List S72) : ∀ (p : List S72) (i : Int), i = p.length → ps = p ++ r →
  Ev (fun k => spec_nfCovers.l0 k (p.map (fun q => (covN a q : Int))) ps ps.length i a l) (ps.map (fun q => (covN a q : Int))) := by
 induction r with
 | nil =>
  intro p i hi e;have hlen : ps.length = p.length := by rw [e]; simp
  have e' : ps = p := by rw [e]; simp
  apply ev_up;simp only [spec_nfCovers.l0];rw [e'] at hlen ⊢
  exact ev_n (by omega) (Ev.now _)
 | cons q r ih =>
  intro p i hi e;have hlen : ps.length = p.length + r.length + 1 := by rw [e]; simp; omega
  have hxx : rd_T72 ps i = q := by rw [e]; exact rdTermA hi
  obtain ⟨m, v, hm, hv, hq, _⟩ := hg q (by rw [e]; simp)
  have hil := zz22 (2 ^ a) m v (2 ^ a)
  have h8 : 2 ^ a ≤ 2 ^ 4 := Nat.pow_le_pow_right (by decide) ha
  apply ev_up;simp only [spec_nfCovers.l0];refine ev_p (by omega) (ev_p (by omega) (ev_p (by omega) ?_))
  rw [hxx, hq];refine Ev.bind (zz106 a m v ha (by omega)) ?_
  refine zz113 a l _ ps i _ (zz48 ha m v) (by omega) _ (by simp; omega) _ [] 0 0 rfl rfl (by decide) ?_
  rw [w64 (n := i + 1) (by omega) (by omega)]
  have := ih (p ++ [q]) (i + 1) (by simp; omega) (by rw [e]; simp)
  have e2 : (p ++ [q]).map (fun q => (covN a q : Int)) = p.map (fun q => (covN a q : Int)) ++ [(orIdx 0 (idxM (2 ^ a) m v (2 ^ a)) : Int)] := by
   rw [List.map_append, List.map_cons, List.map_nil, hq];rfl
  rw [e2] at this;exact this
theorem zz115 (ps : List S72) (C : Int) (s : List Nat) (hs : ∀ y ∈ s, y < ps.length) (hsl : s.length ≤ 1048576) (r : List Nat) : ∀ (p : List Nat) (i : Nat), i = p.length → s = p ++ r →
  Ev (fun k => spec_nfLeast.l1 k ps C (termsAt ps p) (intsM s) (intsM s).length i) (termsAt ps s, C) := by
 have hll : (intsM s).length = s.length := by unfold intsM; exact List.length_map _
 induction r with
 | nil =>
  intro p i hi e;have e' : s = p := by rw [e]; simp
  apply ev_up;simp only [spec_nfLeast.l1];refine ev_n (by rw [hll, e']; omega) (ev_eq (Ev.now _) ?_)
  rw [e']
 | cons y r ih =>
  intro p i hi e;have hlen : s.length = p.length + r.length + 1 := by rw [e]; simp; omega
  have hxx := rdCov e hi
  have hy := hs y (by rw [e]; simp)
  have ht : (termsAt ps p).length = p.length := by unfold termsAt; exact List.length_map _
  apply ev_up;simp only [spec_nfLeast.l1];refine ev_p (by omega) (ev_p (by omega) (ev_p (by omega) ?_))
  rw [hxx, wN (n := (i : Int) + 1) (m := i + 1) (by omega) (by omega)]
  refine ev_p (by omega) (ev_p (by omega) (ev_p (by omega) ?_))
  have := ih (p ++ [y]) (i + 1) (by simp; omega) (by rw [e]; simp)
  rw [show termsAt ps (p ++ [y]) = termsAt ps p ++ [rd_T72 ps (y : Int)] by unfold termsAt; rw [List.map_append]; rfl] at this
  exact this
theorem zz116 (l : List Int) (a : Nat) (ha : a ≤ 4) (hl : l.length = 2 ^ a) (ps : List S72) (hps : ps = masksM l a 0 (2 ^ a)) (d : Nat) : ∀ m, m + d = 16 → (∃ t, m ≤ t ∧ t ≤ 16 ∧ solsM (ps.map (covN a)) 0 t (goalN l (2 ^ a)) ≠ []) →
  Ev (fun k => spec_nfLeast.l0 k ps (intsM (ps.map (covN a))) m a l) (termsAt ps (headM (leastF (ps.map (covN a)) (goalN l (2 ^ a)) d m)), ((leastF (ps.map (covN a)) (goalN l (2 ^ a)) d m).length : Int)) := by
 have h8 : 2 ^ a ≤ 2 ^ 4 := Nat.pow_le_pow_right (by decide) ha
 have hcl : (ps.map (covN a)).length ≤ 81 := by rw [List.length_map, hps]; exact zz62 ha l
 have hcs : ∀ c ∈ ps.map (covN a), c < 65536 := fun c hc => by
  obtain ⟨p, _, rfl⟩ := List.mem_map.1 hc
  exact covN_lt ha p
 have hg := goalN_lt l (2 ^ a) (by omega)
 have ho := zz104 (a : Int) l (by omega)
 rw [hl] at ho;have hit : ∀ m, m ≤ 16 → solsM (ps.map (covN a)) 0 m (goalN l (2 ^ a)) ≠ [] → Ev (fun k => spec_nfLeast.l0 k ps (intsM (ps.map (covN a))) m a l) (termsAt ps (headM (solsM (ps.map (covN a)) 0 m (goalN l (2 ^ a)))), ((solsM (ps.map (covN a)) 0 m (goalN l (2 ^ a))).length : Int)) := fun m hm hne => by
  apply ev_up;simp only [spec_nfLeast.l0];refine Ev.bind ho (Ev.bind (zz88 _ hcs hcl m _ hm hg) ?_)
  have hlens := sols_len (ps.map (covN a)) 0 m (goalN l (2 ^ a))
  generalize solsM (ps.map (covN a)) 0 m (goalN l (2 ^ a)) = S at hne hlens ⊢
  obtain ⟨s, S', rfl⟩ : ∃ s S', S = s :: S' := by
   cases S with
   | nil => exact absurd rfl hne
   | cons s S' => exact ⟨s, S', rfl⟩
  have e1 : combM intsM ([], 0) (s :: S') = (intsM s, ((s :: S').length : Int)) := by unfold combM; simp [headM]
  rw [e1];obtain ⟨hs1, hs2⟩ := hlens s (by simp)
  refine ev_n (by simp only [List.length_cons]; omega) ?_
  exact zz115 ps _ s (fun y hy => by have := (hs2 y hy).2; rw [List.length_map] at this; omega) (by omega) s [] 0 rfl rfl
 induction d with
 | zero =>
  intro m hm ⟨t, h1, h2, h3⟩
  obtain rfl : t = m := by omega
  exact hit t h2 h3
 | succ d ih =>
  intro m hm ⟨t, h1, h2, h3⟩
  by_cases c : solsM (ps.map (covN a)) 0 m (goalN l (2 ^ a)) = []
  ·rw [leastF, if_pos c]
   have hmt : m ≠ t := fun hh => h3 (hh ▸ c)
   apply ev_up;simp only [spec_nfLeast.l0];refine Ev.bind ho (Ev.bind (zz88 _ hcs hcl m _ (by omega) hg) ?_)
   rw [c, comb_nil, wN (n := (m : Int) + 1) (m := m + 1) (by omega) (by omega)]
   exact ev_p rfl (ih (m + 1) (by omega) ⟨t, by omega, h2, h3⟩)
  ·rw [leastF, if_neg c]
   exact hit m (by omega) c
theorem zz117 (l : List Int) (a : Nat) (ha : a ≤ 4) (hl : l.length = 2 ^ a) : Ev (fun k => spec_nfLeast.f k a l) (leastRes l a) := by
 have h8 : 2 ^ a ≤ 2 ^ 4 := Nat.pow_le_pow_right (by decide) ha
 obtain ⟨h1, h2⟩ := zz95 ha l
 unfold spec_nfLeast.f;refine Ev.bind (zz112 a l ha hl (by omega)) ?_
 have hc : Ev (fun k => spec_nfCovers.f k a l (masksM l a 0 (2 ^ a))) ((masksM l a 0 (2 ^ a)).map (fun q => (covN a q : Int))) := by
  unfold spec_nfCovers.f;exact zz114 a ha l _ (by omega) h2 _ [] 0 rfl rfl
 refine Ev.bind hc ?_
 rw [show (masksM l a 0 (2 ^ a)).map (fun q => (covN a q : Int)) = intsM ((masksM l a 0 (2 ^ a)).map (covN a)) by unfold intsM; rw [List.map_map]; rfl]
 obtain ⟨t, h3, h4⟩ := zz99 l a ha hl
 exact zz116 l a ha hl _ rfl 16 0 rfl ⟨t, by omega, h3, h4⟩
def covP (p : S72) : Nat → Nat
 | 0 => 0
 | j + 1 => if covE p j = true then covP p j ||| 2 ^ j else covP p j
theorem covP_bit (p : S72) (x : Nat) (n : Nat) : (covP p n).testBit x = true ↔ x < n ∧ covE p x = true := by
 induction n with
 | zero => simp [covP]
 | succ n ih =>
  rw [covP];split
  ·rename_i h
   rw [Nat.testBit_or, Bool.or_eq_true, ih, Nat.testBit_two_pow, decide_eq_true_eq];constructor
   ·rintro (⟨h1, h2⟩ | rfl)
    ·exact ⟨by omega, h2⟩
    ·exact ⟨by omega, h⟩
   ·rintro ⟨h1, h2⟩
    by_cases c : n = x
    ·exact Or.inr c
    ·exact Or.inl ⟨by omega, h2⟩
  ·rename_i h
   rw [ih];constructor
   ·rintro ⟨h1, h2⟩
    exact ⟨by omega, h2⟩
   ·rintro ⟨h1, h2⟩
    refine ⟨?_, h2⟩
    by_cases c : x = n
    ·subst c; exact absurd h2 h
    ·omega
theorem zz120 {a : Nat} (p : S72) : covP p (2 ^ a) = covN a p := by
 apply Nat.eq_of_testBit_eq
 intro x;rw [Bool.eq_iff_iff, covP_bit, covN_bit]
theorem covP_lt (p : S72) (n : Nat) (hn : n ≤ 16) : covP p n < 65536 := by
 induction n with
 | zero => simp [covP]
 | succ n ih =>
  rw [covP];split
  ·exact or_lt16 (ih (by omega)) (by have : 2 ^ n ≤ 2 ^ 15 := Nat.pow_le_pow_right (by decide) (by omega); omega)
  ·exact ih (by omega)
theorem zz122 {l : List Int} {p : S72} (hg : goodP l p) (n : Nat) (hn : n ≤ 16) : impl_leastSums.cov p n = ((covP p n : Nat) : Int) := by
 induction n with
 | zero => rfl
 | succ n ih =>
  obtain ⟨m, v, hm, hv, rfl, _⟩ := hg
  have hlt := covP_lt ⟨(m : Int), (v : Int)⟩ n (by omega)
  have h2n : 2 ^ n ≤ 2 ^ 15 := Nat.pow_le_pow_right (by decide) (by omega)
  rw [impl_leastSums.cov, covP, ih (by omega), andN n m (by omega) (by omega), shl1 n (by omega), orN _ (2 ^ n) (by omega) (by omega)]
  unfold covE;simp only [Int.toNat_natCast, decide_eq_true_eq];by_cases c : n &&& m = v
  ·rw [if_pos c, if_pos (by exact_mod_cast c)]
  ·rw [if_neg c, if_neg (fun hh => c (by exact_mod_cast hh))]
theorem zz123 {l : List Int} {a : Nat} (ha : a ≤ 4) (ps : List S72) (hg : ∀ p ∈ ps, goodP l p) : impl_leastSums.covs ps (2 ^ a) = intsM (ps.map (covN a)) := by
 have h8 : 2 ^ a ≤ 2 ^ 4 := Nat.pow_le_pow_right (by decide) ha
 unfold impl_leastSums.covs intsM;rw [List.map_map];apply List.map_congr_left
 intro p hp;rw [zz122 (hg p hp) (2 ^ a) (by omega), zz120]
 rfl
theorem zz124 (cs : List Nat) (hcs : ∀ c ∈ cs, c < 65536) (d : Nat) : d ≤ cs.length → impl_leastSums.bh (intsM cs) cs.length d = rmap (cs.length + 1) (fun i => if cs.length - d ≤ i then ((unionM (cs.drop i) : Nat) : Int) else 0) := by
 induction d with
 | zero =>
  intro _;rw [impl_leastSums.bh, rmap_const];apply rmap_congr
  intro k hk;split
  ·have : k = cs.length := by omega
   subst this;simp [unionM]
  ·rfl
 | succ d ih =>
  intro hd;have hi : cs.length - 1 - d < cs.length := by omega
  have hdr : cs.drop (cs.length - 1 - d) = cs[cs.length - 1 - d] :: cs.drop (cs.length - d) := by
   rw [List.drop_eq_getElem_cons hi];congr 2
   omega
  have hu := union_lt (cs.drop (cs.length - d)) (fun c hc => hcs c (List.mem_of_mem_drop hc))
  have hcv := hcs _ (List.getElem_mem hi)
  have h1 : rd (rmap (cs.length + 1) (fun i => if cs.length - d ≤ i then ((unionM (cs.drop i) : Nat) : Int) else 0)) ((cs.length : Int) - 1 - d + 1) = ((unionM (cs.drop (cs.length - d)) : Nat) : Int) := by
   rw [show (cs.length : Int) - 1 - d + 1 = ((cs.length - d : Nat) : Int) by omega]
   unfold rd;rw [rmap_get (by omega), if_pos (Nat.le_refl _)]
  have h2 : rd (intsM cs) ((cs.length : Int) - 1 - d) = ((cs[cs.length - 1 - d] : Nat) : Int) := by
   rw [show (cs.length : Int) - 1 - d = ((cs.length - 1 - d : Nat) : Int) by omega, rdN (by unfold intsM; rw [List.length_map]; exact hi)]
   simp [intsM]
  rw [impl_leastSums.bh, ih (by omega), h1, h2, orN _ _ (by omega) (by omega), rmap_set (by omega)]
  apply rmap_congr
  intro k hk;by_cases c : k = cs.length - 1 - d
  ·subst c
   rw [if_pos rfl, if_pos (by omega), hdr]
   congr 1
   show _ = cs[cs.length - 1 - d] ||| unionM (cs.drop (cs.length - d))
   exact Nat.or_comm _ _
  ·rw [if_neg c]
   by_cases c2 : cs.length - d ≤ k
   ·rw [if_pos c2, if_pos (by omega)]
   ·rw [if_neg c2, if_neg (by omega)]
theorem zz125 (l : List Int) (hl : l.length ≤ 16) (hb : ∀ x ∈ l, 0 ≤ x ∧ x ≤ 1) (d : Nat) : ∀ (i acc : Nat), i + d = l.length → acc < 65536 →
  Ev (fun k => impl_numberOf.l0 k acc l l.length i) ((orIdx acc (onesF l i d) : Nat) : Int) := by
 induction d with
 | zero =>
  intro i acc hi ha;apply ev_up;simp only [impl_numberOf.l0];refine ev_n (by omega) (ev_eq (Ev.now _) ?_)
  simp [onesF, orIdx]
 | succ d ih =>
  intro i acc hi ha;have hil : i < l.length := by omega
  have hx := hb (l[i]) (List.getElem_mem hil)
  have hr := rdN hil
  apply ev_up;simp only [impl_numberOf.l0];have hp := pow_lt16 (y := (i : Int)) (by omega) (by omega)
  rw [Int.toNat_natCast] at hp;refine ev_p (by omega) (ev_p (by omega) (ev_p (by omega) ?_))
  rw [wN (n := (i : Int) + 1) (m := i + 1) (by omega) (by omega), onesF]
  by_cases c : rd l (i : Int) = 1
  ·rw [if_pos c, c, shl1 i (by omega), orN acc (2 ^ i) (by omega) (by omega)]
   refine ev_eq (ih (i + 1) _ (by omega) (or_lt16 ha hp)) ?_
   show _ = ((orIdx (acc ||| 2 ^ ((i : Int)).toNat) (onesF l (i + 1) d) : Nat) : Int)
   rw [Int.toNat_natCast]
  ·have c0 : rd l (i : Int) = ((0 : Nat) : Int) := by rw [hr] at c ⊢; omega
   rw [if_neg c, c0, shlN 0 i (by omega) (by simp), orN acc (0 * 2 ^ i) (by omega) (by simp), Nat.zero_mul, Nat.or_zero, List.nil_append]
   exact ih (i + 1) _ (by omega) ha
theorem zz126 (l : List Int) (hl : l.length ≤ 16) (hb : ∀ x ∈ l, 0 ≤ x ∧ x ≤ 1) : Ev (fun k => impl_numberOf.f k l) ((goalN l l.length : Nat) : Int) := by
 unfold impl_numberOf.f goalN;exact zz125 l hl hb l.length 0 0 (by omega) (by decide)
theorem zz127 (l : List Int) (m v : Nat) (hm : m < 65536) (hl : l.length ≤ 1048576) (d : Nat) : ∀ (i : Nat), i + d = l.length →
  Ev (fun k => impl_implies.l0 k l l.length i m v) ((idxM l.length m v d).all (nz l)) := by
 induction d with
 | zero =>
  intro i hi;apply ev_up;simp only [impl_implies.l0];exact ev_n (by omega) (Ev.now _)
 | succ d ih =>
  intro i hi;have e : l.length - (d + 1) = i := by omega
  have ih' := ih (i + 1) (by omega)
  apply ev_up;simp only [impl_implies.l0];refine ev_p (by omega) (ev_p (by omega) (ev_p (by omega) ?_))
  rw [andN i m (by omega) (by omega), wN (m := i + 1) (by omega) (by omega)]
  unfold idxM;rw [e, List.all_append];refine ev_ite (fun h => ev_ite (fun h2 => ?_) (fun h2 => ?_)) (fun h => ?_)
  ·have h' : i &&& m = v := by exact_mod_cast h2
   rw [if_pos h', List.all_cons, show nz l (i : Int) = false from decide_eq_false (fun hh => hh h), Bool.false_and, Bool.false_and]
   exact Ev.now _
  ·have h' : ¬ i &&& m = v := fun h3 => h2 (by exact_mod_cast h3)
   rw [if_neg h', List.all_nil, Bool.true_and];exact ih'
  ·have e2 : (if i &&& m = v then [(i : Int)] else []).all (nz l) = true := by
    split
    ·simp [nz, h]
    ·rfl
   rw [e2, Bool.true_and];exact ih'
theorem zz128 (n : Int) (l : List Int) (m v : Nat) (hm : m < 65536) (hl : l.length ≤ 1048576) : Ev (fun k => impl_implies.f k n l m v) (impliesM l m v) := by
 unfold impl_implies.f impliesM;exact zz127 l m v hm hl l.length 0 (by omega)
theorem zz129 (a : Nat) (l : List Int) (ha : a ≤ 4) (hla : l.length = 2 ^ a) (hl16 : l.length ≤ 16) (m v : Nat) (hm : m < 16) (hv : v < 16) (xs : List S72) (hx : xs.length ≤ 1000000) (R : List S72) (d : Nat) : ∀ (i : Nat) (fit : Bool), i + d = a →
  Ev (fun k => impl_primesOf.l1 k (xs ++ (if primeF l m v fit i d = true then [⟨(m : Int), (v : Int)⟩] else [])) m (wrap64 ((v : Int) + 1)) a l) R → Ev (fun k => impl_primesOf.l2 k xs m v fit i a l m v) R := by
 induction d with
 | zero =>
  intro i fit hi h;apply ev_up;simp only [impl_primesOf.l2];rw [primeF] at h;refine ev_n (by omega) (ev_ite (fun c => ev_p (by omega) ?_) (fun c => ?_))
  ·rw [if_pos c] at h
   exact h
  ·rw [if_neg c, List.append_nil] at h
   exact h
 | succ d ih =>
  intro i fit hi h;have hi4 : i < 4 := by omega
  have hbf := bits_f m v i hm hv hi4
  rw [primeF] at h;apply ev_up;simp only [impl_primesOf.l2];rw [wN (n := (i : Int) + 1) (m := i + 1) (by omega) (by omega)]
  have h2i : 2 ^ i ≤ 2 ^ 3 := Nat.pow_le_pow_right (by decide) (by omega)
  rw [bit_and1 m i (by omega) (by omega), shl1 i (by omega), andNotN m (2 ^ i) (by omega) (by omega), andNotN v (2 ^ i) (by omega) (by omega)]
  refine ev_p (by omega) (ev_p (by omega) (ev_ite (fun c => ?_) (fun c => ?_)))
  ·have c' : (m >>> i) % 2 = 1 := by exact_mod_cast c
   have hb := hbf.2 c'
   rw [hb.2.2.1, hb.2.2.2];refine Ev.bind (zz128 a l (clrB m i) (clrB v i) (by omega) (by omega)) (ev_ite (fun c2 => ?_) (fun c2 => ?_))
   ·rw [show (if (m >>> i) % 2 = 1 ∧ impliesM l (clrB m i) (clrB v i) = true then false else fit) = false from if_pos ⟨c', c2⟩] at h
    exact ih (i + 1) false (by omega) h
   ·rw [show (if (m >>> i) % 2 = 1 ∧ impliesM l (clrB m i) (clrB v i) = true then false else fit) = fit from if_neg (fun hh => c2 hh.2)] at h
    exact ih (i + 1) fit (by omega) h
  ·have c' : ¬ (m >>> i) % 2 = 1 := fun hh => c (by exact_mod_cast hh)
   rw [show (if (m >>> i) % 2 = 1 ∧ impliesM l (clrB m i) (clrB v i) = true then false else fit) = fit from if_neg (fun hh => c' hh.1)] at h
   exact ih (i + 1) fit (by omega) h
theorem zz130 (a : Nat) (l : List Int) (ha : a ≤ 4) (hla : l.length = 2 ^ a) (hl16 : l.length ≤ 16) (m : Nat) (hm : m < 16) (R : List S72) (d : Nat) : ∀ (v : Nat) (xs : List S72), v + d = m + 1 → xs.length + d ≤ 1000000 →
  Ev (fun k => impl_primesOf.l0 k (xs ++ valsM l a m v d) (wrap64 ((m : Int) + 1)) a l) R → Ev (fun k => impl_primesOf.l1 k xs m v a l) R := by
 induction d with
 | zero =>
  intro v xs hv hx h;apply ev_up;simp only [impl_primesOf.l1];rw [valsM, List.append_nil] at h;exact ev_n (by omega) h
 | succ d ih =>
  intro v xs hv hx h;have hvm : v < 16 := by omega
  rw [valsM] at h;have next : ∀ ys : List S72, ys.length ≤ 1 → Ev (fun k => impl_primesOf.l0 k (xs ++ (ys ++ valsM l a m (v + 1) d)) (wrap64 ((m : Int) + 1)) a l) R → Ev (fun k => impl_primesOf.l1 k (xs ++ ys) m (wrap64 ((v : Int) + 1)) a l) R := fun ys hys hh => by
   rw [wN (n := (v : Int) + 1) (m := v + 1) (by omega) (by omega)]
   refine ih (v + 1) _ (by omega) (by simp; omega) ?_
   rw [List.append_assoc];exact hh
  have skip : ¬ (v &&& m = v ∧ impliesM l m v = true) → Ev (fun k => impl_primesOf.l1 k xs m (wrap64 ((v : Int) + 1)) a l) R := fun c => by
   rw [if_neg (fun hh => c ⟨hh.1, hh.2.1⟩)] at h
   have := next [] (by simp) h
   rw [List.append_nil] at this;exact this
  apply ev_up;simp only [impl_primesOf.l1];rw [andNotN v m (by omega) (by omega)]
  refine ev_p (by omega) (ev_ite (fun c => Ev.bind (zz128 a l m v (by omega) (by omega)) (ev_up ?_)) (fun c => ev_up ?_))
  ·have c' : v &&& m = v := ((xor_eq_zero v (v &&& m)).1 (by exact_mod_cast c)).symm
   simp only [impl_primesOf.j2];by_cases c2 : impliesM l m v = true
   ·rw [c2]
    refine ev_n (by decide) (zz129 a l ha hla hl16 m v hm hvm xs (by omega) R a 0 true (by omega) ?_)
    refine next _ (by split <;> simp) ?_
    have e : (if v &&& m = v ∧ impliesM l m v = true ∧ primeF l m v true 0 a = true then [(⟨(m : Int), (v : Int)⟩ : S72)] else []) = if primeF l m v true 0 a = true then [⟨(m : Int), (v : Int)⟩] else [] := by
     by_cases c3 : primeF l m v true 0 a = true
     ·rw [if_pos ⟨c', c2, c3⟩, if_pos c3]
     ·rw [if_neg (fun hh => c3 hh.2.2), if_neg c3]
    rw [e] at h;exact h
   ·rw [show impliesM l m v = false by simpa using c2]
    exact ev_p (by trivial) (skip (fun hh => c2 hh.2))
  ·simp only [impl_primesOf.j2]
   refine ev_p (by trivial) (skip (fun hh => c ?_))
   have e := (xor_eq_zero v (v &&& m)).2 hh.1.symm; exact_mod_cast e
theorem zz131 (a : Nat) (l : List Int) (ha : a ≤ 4) (hla : l.length = 2 ^ a) (hl16 : l.length ≤ 16) (d : Nat) : ∀ (m : Nat) (xs : List S72), m + d = 2 ^ a → xs.length ≤ 17 * m →
  Ev (fun k => impl_primesOf.l0 k xs m a l) (xs ++ masksM l a m d) := by
 induction d with
 | zero =>
  intro m xs hm hx;apply ev_up;simp only [impl_primesOf.l0];refine (ev_n (by omega) (ev_eq (Ev.now _) ?_))
  simp [masksM]
 | succ d ih =>
  intro m xs hm hx;apply ev_up;simp only [impl_primesOf.l0];have hvl := zz34 l a m (m + 1) 0
  refine (ev_p (by omega) ?_)
  refine zz130 a l ha hla hl16 m (by omega) _ (m + 1) 0 xs (by omega) (by omega) ?_
  rw [wN (n := (m : Int) + 1) (m := m + 1) (by omega) (by omega)]
  refine ev_eq (ih (m + 1) _ (by omega) (by simp; omega)) ?_
  simp [masksM]
theorem zz132 (a : Nat) (l : List Int) (ha : a ≤ 4) (hla : l.length = 2 ^ a) (hl16 : l.length ≤ 16) : Ev (fun k => impl_primesOf.f k a l) (masksM l a 0 (2 ^ a)) := by
 unfold impl_primesOf.f;exact zz131 a l ha hla hl16 (2 ^ a) 0 [] (by omega) (by simp)
theorem zz133 (l : List Int) (a : Nat) (ha : a ≤ 4) (hl : l.length = 2 ^ a) (hb : ∀ x ∈ l, 0 ≤ x ∧ x ≤ 1) (ps : List S72) (hps : ps = masksM l a 0 (2 ^ a)) (bh : List Int) (hbl : bh.length = (ps.map (covN a)).length + 1) (hbh : ∀ i, i ≤ (ps.map (covN a)).length → rd bh (i : Int) = ((unionM ((ps.map (covN a)).drop i) : Nat) : Int)) (d : Nat) : ∀ m, m + d = 16 → (∃ t, m ≤ t ∧ t ≤ 16 ∧ solsM (ps.map (covN a)) 0 t (goalN l (2 ^ a)) ≠ []) →
  Ev (fun k => impl_leastSums.n k (goalN l (2 ^ a) : Nat) ps (intsM (ps.map (covN a))) bh m ([], 0)) (termsAt ps (headM (leastF (ps.map (covN a)) (goalN l (2 ^ a)) d m)), ((leastF (ps.map (covN a)) (goalN l (2 ^ a)) d m).length : Int)) := by
 have h8 : 2 ^ a ≤ 2 ^ 4 := Nat.pow_le_pow_right (by decide) ha
 have hgood : ∀ p ∈ ps, goodP l p := by rw [hps]; exact (zz95 ha l).2
 have hcl : (ps.map (covN a)).length ≤ 81 := by rw [List.length_map, hps]; exact zz62 ha l
 have hcs : ∀ c ∈ ps.map (covN a), c < 65536 := fun c hc => by
  obtain ⟨p, _, rfl⟩ := List.mem_map.1 hc
  exact covN_lt ha p
 have hcg : ∀ c ∈ ps.map (covN a), c &&& goalN l (2 ^ a) = c := fun c hc => by
  obtain ⟨p, hp, rfl⟩ := List.mem_map.1 hc
  exact cov_sub hl hb (hgood p hp)
 have hg := goalN_lt l (2 ^ a) (by omega)
 have he : ∀ m : Nat, m ≤ 16 → Ev (fun k => impl_leastSums.e (fun a' b c d f => impl_leastSums.l k (goalN l (2 ^ a) : Nat) ps (intsM (ps.map (covN a))) bh a' b c d f) (goalN l (2 ^ a) : Nat) [] 0 0 m ([], 0)) (combM (termsAt ps) ([], 0) (solsM (ps.map (covN a)) 0 m (goalN l (2 ^ a)))) := fun m hm => by
  have hch := zz8 hcl hm
  unfold impl_leastSums.e;refine ev_ite (fun c3 => ?_) (fun c3 => ?_)
  ·obtain rfl : m = 0 := by omega
   have es : solsM (ps.map (covN a)) 0 0 (goalN l (2 ^ a)) = if goalN l (2 ^ a) = 0 then [[]] else [] := by rw [solsM]
   rw [es];refine ev_eq (Ev.now _) ?_
   unfold impl_leastSums.leaf;by_cases c4 : goalN l (2 ^ a) = 0
   ·rw [if_pos (by rw [c4]; rfl), if_pos c4]
    simp [combM, headM, termsAt, wrap64]
   ·rw [if_neg (fun hh => c4 (by exact_mod_cast hh.symm)), if_neg c4, comb_nil]
  ·have := zz94 (goalN l (2 ^ a)) hg ps (ps.map (covN a)) hcs hcg (by rw [List.length_map]) hcl bh hbl hbh (ps.map (covN a)) [] 0 m 0 [] ([], 0) rfl rfl hm (by decide) (by simp) (by simp) (Int.le_refl _) (by simp only []; omega) (by omega)
   simp only [Nat.and_zero, Nat.xor_zero, List.nil_append] at this;exact this
 have hcount : ∀ m : Nat, m ≤ 16 → (ps.length : Int) < m → solsM (ps.map (covN a)) 0 m (goalN l (2 ^ a)) = [] := fun m hm h => sols_few _ _ _ _ (by rw [List.length_map]; omega)
 have hit : ∀ m : Nat, m ≤ 16 → solsM (ps.map (covN a)) 0 m (goalN l (2 ^ a)) ≠ [] → Ev (fun k => impl_leastSums.n k (goalN l (2 ^ a) : Nat) ps (intsM (ps.map (covN a))) bh m ([], 0)) (termsAt ps (headM (solsM (ps.map (covN a)) 0 m (goalN l (2 ^ a)))), ((solsM (ps.map (covN a)) 0 m (goalN l (2 ^ a))).length : Int)) := fun m hm hne => by
  apply ev_up;simp only [impl_leastSums.n];refine ev_p (Int.not_lt.1 (fun hh => hne (hcount m hm hh))) (Ev.bind (he m hm) ?_)
  generalize solsM (ps.map (covN a)) 0 m (goalN l (2 ^ a)) = S at hne ⊢
  obtain ⟨s, S', rfl⟩ : ∃ s S', S = s :: S' := by
   cases S with
   | nil => exact absurd rfl hne
   | cons s S' => exact ⟨s, S', rfl⟩
  have e1 : combM (termsAt ps) ([], 0) (s :: S') = (termsAt ps (headM (s :: S')), ((s :: S').length : Int)) := by unfold combM; simp
  rw [e1];exact ev_p (by simp only [List.length_cons]; omega) (Ev.now _)
 induction d with
 | zero =>
  intro m hm ⟨t, h1, h2, h3⟩
  obtain rfl : t = m := by omega
  exact hit t h2 h3
 | succ d ih =>
  intro m hm ⟨t, h1, h2, h3⟩
  have htl : (t : Int) ≤ ps.length := Int.not_lt.1 (fun hh => h3 (hcount t h2 hh))
  by_cases c : solsM (ps.map (covN a)) 0 m (goalN l (2 ^ a)) = []
  ·rw [leastF, if_pos c]
   have hmt : m ≠ t := fun hh => h3 (hh ▸ c)
   apply ev_up;simp only [impl_leastSums.n];refine ev_p (by omega) (Ev.bind (he m (by omega)) ?_)
   rw [c, comb_nil, wN (n := (m : Int) + 1) (m := m + 1) (by omega) (by omega)]
   exact ev_n (by decide) (ih (m + 1) (by omega) ⟨t, by omega, h2, h3⟩)
  ·rw [leastF, if_neg c]
   exact hit m (by omega) c
theorem zz134 (l : List Int) (a : Nat) (ha : a ≤ 4) (hl : l.length = 2 ^ a) (hb : ∀ x ∈ l, 0 ≤ x ∧ x ≤ 1) : Ev (fun k => impl_leastSums.f k a l) (leastRes l a) := by
 have h8 : 2 ^ a ≤ 2 ^ 4 := Nat.pow_le_pow_right (by decide) ha
 obtain ⟨h1, h2⟩ := zz95 ha l
 unfold impl_leastSums.f;refine Ev.bind (zz132 a l ha hl (by omega)) (ev_p ⟨by omega, by omega⟩ (Ev.bind (zz126 l (by omega) hb) ?_))
 have hcs : ∀ c ∈ (masksM l a 0 (2 ^ a)).map (covN a), c < 65536 := fun c hc => by
  obtain ⟨p, _, rfl⟩ := List.mem_map.1 hc
  exact covN_lt ha p
 have hcl : ((masksM l a 0 (2 ^ a)).map (covN a)).length = (masksM l a 0 (2 ^ a)).length := List.length_map _
 have hbe := zz124 _ hcs ((masksM l a 0 (2 ^ a)).map (covN a)).length (Nat.le_refl _)
 rw [hl, zz123 ha _ h2, ← hcl, hbe];obtain ⟨t, h3, h4⟩ := zz99 l a ha hl
 refine zz133 l a ha hl hb _ rfl _ (rmap_length _ _) (fun i hi => ?_) 16 0 rfl ⟨t, by omega, h3, h4⟩
 unfold rd;rw [rmap_get (by omega), if_pos (by omega)]
theorem l1In_eq (a b c : Int) : spec_l1In.f a b c = some (decide (b ≤ a ∧ a ≤ c)) := by
 unfold spec_l1In.f;by_cases h : b ≤ a
 ·rw [if_pos h]; simp [h]
 ·rw [if_neg h]; simp [h]
def inB (a b : Int) (x : Int) : Bool := decide (a ≤ x ∧ x ≤ b)
theorem l1All_l0 (l : List Int) (a b : Int) (hl : l.length ≤ 9223372036854775807) (r : List Int) : ∀ (p : List Int) (i : Int), i = p.length → l = p ++ r →
  Ev (fun k => spec_l1All.l0 k a b l l.length i) (r.all (inB a b)) := by
 induction r with
 | nil =>
  intro p i hi e;have hlen : l.length = p.length := by rw [e]; simp
  apply ev_up;simp only [spec_l1All.l0];exact ev_n (by omega) (Ev.now _)
 | cons x r ih =>
  intro p i hi e;have hlen : l.length = p.length + r.length + 1 := by rw [e]; simp; omega
  have hx : rd l i = x := by rw [e]; exact rdA hi
  have ih' := ih (p ++ [x]) (i + 1) (by simp; omega) (by rw [e]; simp)
  apply ev_up;simp only [spec_l1All.l0];refine ev_p (by omega) (ev_p (by omega) (ev_p (by omega) ?_))
  rw [hx, l1In_eq];refine Ev.bind (ev_c rfl) ?_
  refine ev_ite (fun h => ?_) (fun h => ?_)
  ·rw [w64 (by omega) (by omega)]
   refine ev_eq ih' ?_
   rw [List.all_cons, show inB a b x = true from h, Bool.true_and]
  ·refine ev_eq (Ev.now _) ?_
   rw [List.all_cons, show inB a b x = false from decide_eq_false (fun hh => h (decide_eq_true hh)), Bool.false_and]
theorem l1All_ev (l : List Int) (a b : Int) (hl : l.length ≤ 9223372036854775807) : Ev (fun k => spec_l1All.f k l a b) (l.all (inB a b)) := by
 unfold spec_l1All.f;exact l1All_l0 l a b hl l [] 0 rfl rfl
theorem zz139 (a : Int) : spec_ttInputs.f a = some (decide (0 ≤ a ∧ a ≤ 4)) := by
 unfold spec_ttInputs.f;rw [l1In_eq, Option.bind_some]
def tableM (n : Int) (l : List Int) : Bool := decide (0 ≤ n ∧ n ≤ 4 ∧ l.length = 2 ^ n.toNat) && l.all (inB 0 1)
theorem zz141 {n : Int} {l : List Int} (h : tableM n l = true) : ∃ a : Nat, n = a ∧ a ≤ 4 ∧ l.length = 2 ^ a ∧ l.length ≤ 16 ∧ ∀ x ∈ l, 0 ≤ x ∧ x ≤ 1 := by
 unfold tableM at h;rw [Bool.and_eq_true, List.all_eq_true] at h;obtain ⟨h1, h2, h3⟩ := of_decide_eq_true h.1
 obtain ⟨a, rfl⟩ := nat_of h1
 simp only [Int.toNat_natCast] at h3;have h8 : 2 ^ a ≤ 2 ^ 4 := Nat.pow_le_pow_right (by decide) (by omega)
 exact ⟨a, rfl, by omega, h3, by omega, fun x hx => of_decide_eq_true (h.2 x hx)⟩
theorem zz142 (n : Int) (l : List Int) (hl : l.length ≤ 9223372036854775807) : Ev (fun k => spec_ttGood.f k n l) (tableM n l) := by
 unfold spec_ttGood.f tableM;rw [zz139];refine Ev.bind (ev_c rfl) (ev_ite (fun h => ?_) (fun h => ?_))
 ·have h' := of_decide_eq_true h
  obtain ⟨a, rfl⟩ := nat_of h'.1
  rw [u64w (by omega) (by omega), shl1 a (by omega)]
  refine ev_p (by omega) (ev_ite (fun h2 => ?_) (fun h2 => ?_))
  ·have h3 : l.length = 2 ^ a := by exact_mod_cast h2
   rw [decide_eq_true ⟨h'.1, h'.2, by simpa using h3⟩, Bool.true_and]
   exact Ev.bind (l1All_ev l 0 1 hl) (Ev.now _)
  ·rw [decide_eq_false (fun hh => h2 (by have := hh.2.2; simp only [Int.toNat_natCast] at this; exact_mod_cast this)), Bool.false_and]
   exact Ev.now _
 ·rw [decide_eq_false (fun hh => h (decide_eq_true ⟨hh.1, hh.2.1⟩)), Bool.false_and]
  exact Ev.now _
theorem zz143 (l : List Int) (hl : l.length ≤ 9223372036854775807) (r : List Int) : ∀ (p : List Int) (i : Int), i = p.length → l = p ++ r →
  Ev (fun k => impl_areBits.l0 k l l.length i) (r.all (inB 0 1)) := by
 induction r with
 | nil =>
  intro p i hi e;have hlen : l.length = p.length := by rw [e]; simp
  apply ev_up;simp only [impl_areBits.l0];exact ev_n (by omega) (Ev.now _)
 | cons x r ih =>
  intro p i hi e;have hlen : l.length = p.length + r.length + 1 := by rw [e]; simp; omega
  have hx : rd l i = x := by rw [e]; exact rdA hi
  have ih' := ih (p ++ [x]) (i + 1) (by simp; omega) (by rw [e]; simp)
  apply ev_up;simp only [impl_areBits.l0];refine ev_p (by omega) (ev_p (by omega) (ev_p (by omega) ?_))
  rw [hx, w64 (n := i + 1) (by omega) (by omega)]
  refine ev_ite (fun h => ?_) (fun h => ev_ite (fun h2 => ?_) (fun h2 => ?_))
  ·rw [List.all_cons, show inB 0 1 x = true from decide_eq_true (by omega), Bool.true_and]
   exact ih'
  ·rw [List.all_cons, show inB 0 1 x = true from decide_eq_true (by omega), Bool.true_and]
   exact ih'
  ·rw [List.all_cons, show inB 0 1 x = false from decide_eq_false (by omega), Bool.false_and]
   exact Ev.now _
theorem zz144 (l : List Int) (hl : l.length ≤ 9223372036854775807) : Ev (fun k => impl_areBits.f k l) (l.all (inB 0 1)) := by
 unfold impl_areBits.f;exact zz143 l hl l [] 0 rfl rfl
theorem zz145 (n : Int) (l : List Int) (hl : l.length ≤ 9223372036854775807) : Ev (fun k => impl_IsTable.f k n l) (tableM n l) := by
 unfold impl_IsTable.f tableM;refine ev_ite (fun h1 => ev_ite (fun h2 => ?_) (fun h2 => ?_)) (fun h1 => ?_)
 ·obtain ⟨a, rfl⟩ := nat_of h1
  rw [shl1 a (by omega)]
  refine ev_p (by omega) (ev_ite (fun h3 => ?_) (fun h3 => ?_))
  ·have h4 : l.length = 2 ^ a := by exact_mod_cast h3
   rw [decide_eq_true ⟨h1, h2, by simpa using h4⟩, Bool.true_and]
   exact Ev.bind (zz144 l hl) (Ev.now _)
  ·rw [decide_eq_false (fun hh => h3 (by have := hh.2.2; simp only [Int.toNat_natCast] at this; exact_mod_cast this)), Bool.false_and]
   exact Ev.now _
 ·rw [decide_eq_false (fun hh => h2 hh.2.1), Bool.false_and]
  exact Ev.now _
 ·rw [decide_eq_false (fun hh => h1 hh.1), Bool.false_and]
  exact Ev.now _
def zz146 (n : Int) (l : List Int) : List S72 × Bool := if tableM n l = true then ((leastRes l n.toNat).1, true) else ([], false)
theorem zz147 (cs : List Nat) (g : Nat) (d : Nat) : ∀ m, ∀ s ∈ leastF cs g d m, s.length ≤ m + d := by
 induction d with
 | zero =>
  intro m s hs;have := (sols_len cs 0 m g s hs).1
  omega
 | succ d ih =>
  intro m s hs;rw [leastF] at hs;split at hs
  ·have := ih (m + 1) s hs
   omega
  ·have := (sols_len cs 0 m g s hs).1
   omega
theorem zz148 (n : Int) (l : List Int) : (zz146 n l).1.length ≤ 16 := by
 unfold zz146;split
 ·unfold leastRes termsAt
  simp only [List.length_map];have h := zz147 ((masksM l n.toNat 0 (2 ^ n.toNat)).map (covN n.toNat)) (goalN l (2 ^ n.toNat)) 16 0
  generalize leastF ((masksM l n.toNat 0 (2 ^ n.toNat)).map (covN n.toNat)) (goalN l (2 ^ n.toNat)) 16 0 = S at h
  cases S with
  | nil => simp [headM]
  | cons s S => exact h s (by simp)
 ·simp
theorem zz149 (n : Int) (l : List Int) (hl : l.length ≤ 9223372036854775807) : Ev (fun k => spec_LeastSum.f k n l) (zz146 n l) := by
 unfold spec_LeastSum.f zz146;refine Ev.bind (zz142 n l hl) (ev_ite (fun h => ?_) (fun h => ?_))
 ·rw [if_pos h]
  obtain ⟨a, rfl, ha, hla, hl16, _⟩ := zz141 h
  exact Ev.bind (zz117 l a ha hla) (Ev.now _)
 ·rw [if_neg h]
  exact Ev.now _
theorem zz150 (n : Int) (l : List Int) (hl : l.length ≤ 9223372036854775807) : Ev (fun k => impl_LeastSum.f k n l) (zz146 n l) := by
 unfold impl_LeastSum.f zz146;refine Ev.bind (zz145 n l hl) (ev_ite (fun h => ?_) (fun h => ?_))
 ·rw [if_pos h]
  obtain ⟨a, rfl, ha, hla, hl16, hb⟩ := zz141 h
  exact Ev.bind (zz134 l a ha hla hb) (Ev.now _)
 ·rw [if_neg h]
  exact Ev.now _
def nearS (a : Nat) (p : S72) (j v : Nat) : Nat := if (covN a p).testBit j = true then v ||| covN a p else v
theorem nearS_lt {a : Nat} (ha : a ≤ 4) (p : S72) (j v : Nat) (h : v < 65536) : nearS a p j v < 65536 := by
 unfold nearS;split
 ·exact or_lt16 h (covN_lt ha p)
 ·exact h
def nearF (a : Nat) : List S72 → Nat → Nat → Nat
 | [], _, v => v
 | p :: r, j, v => nearF a r j (nearS a p j v)
theorem zz154 (a : Nat) (p : List S72) (q : S72) (j : Nat) : ∀ v, nearF a (p ++ [q]) j v = nearS a q j (nearF a p j v) := by
 induction p with
 | nil => intro v; rfl
 | cons x p ih => intro v; exact ih _
theorem nearF_lt {a : Nat} (ha : a ≤ 4) (r : List S72) (j : Nat) : ∀ v, v < 65536 → nearF a r j v < 65536 := by
 induction r with
 | nil => intro v h; exact h
 | cons p r ih => intro v h; exact ih _ (nearS_lt ha p j v h)
theorem zz156 {a : Nat} (r : List S72) (j x : Nat) (hj : j < 2 ^ a) (hx : x < 2 ^ a) : ∀ v, (nearF a r j v).testBit x = (v.testBit x || nearB r j x) := by
 induction r with
 | nil => intro v; simp [nearF, nearB]
 | cons p r ih =>
  intro v;have e1 : ∀ y, y < 2 ^ a → (covN a p).testBit y = covE p y := fun y hy => by rw [Bool.eq_iff_iff, covN_bit]; exact ⟨fun h => h.2, fun h => ⟨hy, h⟩⟩
  rw [nearF, ih];unfold nearS nearB;rw [List.any_cons, e1 j hj];by_cases c : covE p j = true
  ·rw [if_pos c, Nat.testBit_or, e1 x hx, c, Bool.true_and, Bool.or_assoc]
  ·rw [if_neg c, show covE p j = false by simpa using c, Bool.false_and, Bool.false_or]
theorem bit_test (B x : Nat) : ((((B >>> x) % 2 : Nat) : Int) = 1) ↔ B.testBit x = true := by
 rw [Nat.testBit_eq_decide_div_mod_eq, decide_eq_true_eq, Nat.shiftRight_eq_div_pow];exact_mod_cast Iff.rfl
theorem zz158 (ps : List S72) (cur : List Int) (y x : Int) : barB ps (cur ++ [y]) x = (barB ps cur x || nearB ps y.toNat x.toNat) := by
 unfold barB;rw [List.any_append];simp
theorem zz159 (a : Nat) (ha : a ≤ 4) (ps : List S72) (near : List Int) (hnear : near = rmap (2 ^ a) (fun j => ((nearF a ps j 0 : Nat) : Int))) (ones : List Int) (hones : ∀ y ∈ ones, 0 ≤ y ∧ y < (2 ^ a : Nat)) (hol : ones.length ≤ 1048576) (r : List Int) : ∀ (p : List Int) (i : Int) (B : Nat) (cur best : List Int), i = p.length → ones = p ++ r → B < 65536 → (∀ x, x < 2 ^ a → B.testBit x = barB ps cur (x : Int)) → best.length ≤ 1048576 →
  Ev (fun k => spec_nfApart.l0 k ones near B best i) (pickM [] best (apartM ps r cur)) := by
 have h8 : 2 ^ a ≤ 2 ^ 4 := Nat.pow_le_pow_right (by decide) ha
 have hnl : near.length = 2 ^ a := by rw [hnear]; exact rmap_length _ _
 induction r with
 | nil =>
  intro p i B cur best hi e hB hbit hb;have hlen : ones.length = p.length := by rw [e]; simp
  apply ev_up;simp only [spec_nfApart.l0];refine ev_n (by omega) (ev_eq (Ev.now _) ?_)
  simp [pickM, apartM]
 | cons y r ih =>
  intro p i B cur best hi e hB hbit hb;have hlen : ones.length = p.length + r.length + 1 := by rw [e]; simp; omega
  have hxx : rd ones i = y := by rw [e]; exact rdA hi
  have hy := hones y (by rw [e]; simp)
  obtain ⟨b, rfl⟩ := nat_of hy.1
  have hba : b < 2 ^ a := by omega
  have hml := zz71 ps r cur
  have hml2 := zz71 ps r (cur ++ [(b : Int)])
  have next : ∀ best' : List Int, best'.length ≤ 1048576 → Ev (fun k => spec_nfApart.l0 k ones near B best' (i + 1)) (pickM [] best' (apartM ps r cur)) := fun best' hb' => ih (p ++ [(b : Int)]) (i + 1) B cur best' (by simp; omega) (by rw [e]; simp) hB hbit hb'
  apply ev_up;simp only [spec_nfApart.l0];refine ev_p (by omega) (ev_p (by omega) ?_)
  rw [hxx, u64w (by omega) (by omega), bit_and1 B b (by omega) (by omega)]
  refine ev_p (by omega) (ev_ite (fun c => ?_) (fun c => ?_))
  ·have c' : barB ps cur (b : Int) = true := by rw [← hbit b hba]; exact (bit_test B b).1 c
   apply ev_up;simp only [spec_nfApart.j1];rw [w64 (n := i + 1) (by omega) (by omega), apartM, if_pos c']
   exact ev_p (by trivial) (next best hb)
  ·have c' : ¬ barB ps cur (b : Int) = true := by rw [← hbit b hba]; exact fun hh => c ((bit_test B b).2 hh)
   have hlong : (if ((b : Int) :: apartM ps r (cur ++ [(b : Int)])).length < (apartM ps r cur).length then apartM ps r cur else (b : Int) :: apartM ps r (cur ++ [(b : Int)])) = apartM ps ((b : Int) :: r) cur := by
    rw [apartM, if_neg c', List.length_cons]
   apply ev_up;simp only [spec_nfApart.j1];rw [w64 (n := i + 1) (by omega) (by omega), wN (n := (ones.length : Int) - i) (m := r.length + 1) (by omega) (by omega)]
   refine ev_ite (fun c2 => ?_) (fun c2 => ?_)
   ·have c3 := of_decide_eq_true c2
    refine ev_eq (next best hb) ?_
    rw [← hlong, ← pick_two];congr 1
    unfold pickM;rw [if_neg (by simp; omega)]
   ·have c3 : ¬ ((r.length + 1 : Nat) : Int) ≤ (best.length : Int) := fun hh => c2 (decide_eq_true hh)
    rw [hxx];have hnr : rd near (b : Int) = ((nearF a ps b 0 : Nat) : Int) := by rw [hnear]; exact rmap_get hba _
    have hnlt := nearF_lt ha ps b 0 (by decide)
    rw [hnr, orN B (nearF a ps b 0) (by omega) (by omega)]
    refine ev_p (by omega) (ev_p (by omega) (Ev.bind (ev_c rfl) (ev_p (by omega) (ev_p (by omega) ?_))))
    have hsub : Ev (fun k => spec_nfApart.f k ones near (i + 1) ((B ||| nearF a ps b 0 : Nat) : Int)) (apartM ps r (cur ++ [(b : Int)])) := by
     apply ev_up;simp only [spec_nfApart.f];refine ev_eq (ih (p ++ [(b : Int)]) (i + 1) (B ||| nearF a ps b 0) (cur ++ [(b : Int)]) [] (by simp; omega) (by rw [e]; simp) (or_lt16 hB hnlt) (fun x hx => ?_) (by simp)) ?_
     ·rw [Nat.testBit_or, zz156 ps b x hba hx, hbit x hx, zz158, Int.toNat_natCast, Int.toNat_natCast, Nat.zero_testBit, Bool.false_or]
     ·rw [zz77]
      by_cases c4 : 0 < (apartM ps r (cur ++ [(b : Int)])).length
      ·rw [if_pos (by simpa using c4)]
      ·rw [if_neg (by simpa using c4)]
       exact (List.length_eq_zero_iff.1 (by omega)).symm
    refine Ev.bind hsub (ev_p (by simp; omega) (Ev.bind (ev_c rfl) ?_))
    rw [← hlong, ← pick_two];refine ev_ite (fun c5 => ?_) (fun c5 => ?_)
    ·refine ev_eq (next _ (by simp; omega)) ?_
     congr 1
     rw [zz77, if_pos (by simp at c5 ⊢; omega)]
     rfl
    ·refine ev_eq (next _ hb) ?_
     congr 1
     rw [zz77, if_neg (by simp at c5 ⊢; omega)]
theorem zz160 (a : Nat) (ha : a ≤ 4) (n : Int) (l : List Int) (cs : List Int) (i : Int) (q : S72) (f : Nat → Nat) (hf : ∀ j, f j < 65536) (R : List Int × Bool) (d : Nat) : ∀ (x : Nat), x + d = 2 ^ a →
  Ev (fun k => spec_SeparateOnes.l0 k (rmap (2 ^ a) (fun j => ((nearS a q j (f j) : Nat) : Int))) cs cs.length (wrap64 (i + 1)) n l) R →
  Ev (fun k => spec_SeparateOnes.l1 k (rmap (2 ^ a) (fun j => (((if j < x then nearS a q j (f j) else f j) : Nat) : Int))) (covN a q : Int) cs cs.length i ((2 ^ a : Nat) : Int) x n l) R := by
 have h8 : 2 ^ a ≤ 2 ^ 4 := Nat.pow_le_pow_right (by decide) ha
 have hcq := covN_lt ha q
 induction d with
 | zero =>
  intro x hx h;apply ev_up;simp only [spec_SeparateOnes.l1];refine ev_n (by omega) ?_
  rw [show rmap (2 ^ a) (fun j => (((if j < x then nearS a q j (f j) else f j) : Nat) : Int)) = rmap (2 ^ a) (fun j => ((nearS a q j (f j) : Nat) : Int)) from rmap_congr (fun j hj => by rw [if_pos (by omega)])]
  exact h
 | succ d ih =>
  intro x hx h;have hxa : x < 2 ^ a := by omega
  apply ev_up;simp only [spec_SeparateOnes.l1];have hg : rd (rmap (2 ^ a) (fun j => (((if j < x then nearS a q j (f j) else f j) : Nat) : Int))) (x : Int) = ((f x : Nat) : Int) := by
   unfold rd;rw [rmap_get hxa];simp
  have ih' := ih (x + 1) (by omega) h
  rw [wN (n := (x : Int) + 1) (m := x + 1) (by omega) (by omega), u64w (by omega) (by omega), bit_and1 (covN a q) x (by omega) (by omega), hg, orN (f x) (covN a q) (by have := hf x; omega) (by omega), rmap_length, Int.toNat_natCast, rmap_set hxa]
  refine ev_p (by omega) (ev_p (by omega) (ev_ite (fun c => ev_p (by omega) (ev_p (by omega) ?_)) (fun c => ?_)))
  ·have c' := (bit_test _ _).1 c
   refine ev_eq ?_ rfl
   rw [show rmap (2 ^ a) (fun j => if j = x then (((f x ||| covN a q : Nat)) : Int) else (((if j < x then nearS a q j (f j) else f j) : Nat) : Int)) = rmap (2 ^ a) (fun j => (((if j < x + 1 then nearS a q j (f j) else f j) : Nat) : Int)) from rmap_congr (fun j hj => by
    by_cases c2 : j = x
    ·subst c2
     rw [if_pos rfl, if_pos (by omega)]
     unfold nearS;rw [if_pos c']
    ·rw [if_neg c2]
     by_cases c3 : j < x
     ·rw [if_pos c3, if_pos (by omega)]
     ·rw [if_neg c3, if_neg (by omega)])]
   exact ih'
  ·have c' : ¬ (covN a q).testBit x = true := fun hh => c ((bit_test _ _).2 hh)
   rw [show rmap (2 ^ a) (fun j => (((if j < x then nearS a q j (f j) else f j) : Nat) : Int)) = rmap (2 ^ a) (fun j => (((if j < x + 1 then nearS a q j (f j) else f j) : Nat) : Int)) from rmap_congr (fun j hj => by
    by_cases c2 : j = x
    ·subst c2
     rw [if_neg (by omega), if_pos (by omega)]
     unfold nearS;rw [if_neg c']
    ·by_cases c3 : j < x
     ·rw [if_pos c3, if_pos (by omega)]
     ·rw [if_neg c3, if_neg (by omega)])]
   exact ih'
theorem zz161 (a : Nat) (ha : a ≤ 4) (l : List Int) (hl : l.length = 2 ^ a) (ps : List S72) (hpl : ps.length ≤ 1048576) (r : List S72) : ∀ (p : List S72) (i : Int), i = p.length → ps = p ++ r →
  Ev (fun k => spec_SeparateOnes.l0 k (rmap (2 ^ a) (fun j => ((nearF a p j 0 : Nat) : Int))) (ps.map (fun q => (covN a q : Int))) (ps.map (fun q => (covN a q : Int))).length i a l) (apartM ps (onesF l 0 (2 ^ a)) [], true) := by
 have h8 : 2 ^ a ≤ 2 ^ 4 := Nat.pow_le_pow_right (by decide) ha
 induction r with
 | nil =>
  intro p i hi e;have e' : ps = p := by rw [e]; simp
  apply ev_up;simp only [spec_SeparateOnes.l0];refine ev_n (by rw [List.length_map, e']; omega) ?_
  have ho := zz102 a l (by omega)
  rw [hl] at ho;refine Ev.bind ho ?_
  have hol := zz73 l (2 ^ a) 0
  have hob := zz74 l (2 ^ a) 0
  have hA : Ev (fun k => spec_nfApart.f k (onesF l 0 (2 ^ a)) (rmap (2 ^ a) (fun j => ((nearF a p j 0 : Nat) : Int))) 0 0) (apartM ps (onesF l 0 (2 ^ a)) []) := by
   apply ev_up;simp only [spec_nfApart.f];rw [← e'];refine ev_eq (zz159 a ha ps _ rfl (onesF l 0 (2 ^ a)) (fun y hy => by have := hob y hy; omega) (by omega) _ [] 0 0 [] [] rfl rfl (by decide) (fun x hx => by simp [barB]) (by simp)) ?_
   rw [zz77];by_cases c4 : 0 < (apartM ps (onesF l 0 (2 ^ a)) []).length
   ·rw [if_pos (by simpa using c4)]
   ·rw [if_neg (by simpa using c4)]
    exact (List.length_eq_zero_iff.1 (by omega)).symm
  exact Ev.bind hA (Ev.now _)
 | cons q r ih =>
  intro p i hi e;have hlen : ps.length = p.length + r.length + 1 := by rw [e]; simp; omega
  have hxx : rd (ps.map (fun q => (covN a q : Int))) i = (covN a q : Int) := by rw [e, List.map_append, List.map_cons]; exact rdA (by rw [List.length_map]; exact hi)
  apply ev_up;simp only [spec_SeparateOnes.l0];have hml : (ps.map (fun q => (covN a q : Int))).length = ps.length := List.length_map _
  refine ev_p (by omega) (ev_p (by omega) (ev_p (by omega) ?_))
  rw [hxx, rmap_length];have h1 := zz160 a ha a l (ps.map (fun q => (covN a q : Int))) i q (fun j => nearF a p j 0) (fun j => nearF_lt ha p j 0 (by decide)) (apartM ps (onesF l 0 (2 ^ a)) [], true) (2 ^ a) 0 (by omega)
  simp only [Nat.not_lt_zero, if_false] at h1;refine h1 ?_
  rw [w64 (n := i + 1) (by omega) (by omega)]
  have h2 := ih (p ++ [q]) (i + 1) (by simp; omega) (by rw [e]; simp)
  simp only [zz154] at h2;exact h2
def sepP (ps : List S72) (cur : List Int) (x : Int) : Bool := ps.all (fun p => !(covE p x.toNat && cur.any (fun y => covE p y.toNat)))
theorem sep_bar (ps : List S72) (cur : List Int) (x : Int) : sepP ps cur x = !barB ps cur x := by
 unfold sepP barB nearB;rw [Bool.eq_iff_iff];simp only [List.all_eq_true, Bool.not_eq_true', Bool.and_eq_false_iff, List.any_eq_false, List.any_eq_true, Bool.and_eq_true, not_exists, not_and, Bool.not_eq_true];constructor
 ·intro h y hy p hp h1
  rcases h p hp with h2 | h2
  ·exact h2
  ·rw [h2 y hy] at h1; cases h1
 ·intro h p hp
  by_cases c : covE p x.toNat = true
  ·right
   intro y hy;by_cases c2 : covE p y.toNat = true
   ·rw [h y hy p hp c2] at c; cases c
   ·simpa using c2
  ·left
   simpa using c
theorem cov_and {l : List Int} {p : S72} (hg : goodP l p) {x : Nat} (hx : x < 16) : (Go.bits .and .i64 (x : Int) p.f0 = p.f1) ↔ covE p x = true := by
 obtain ⟨m, v, hm, hv, rfl, _⟩ := hg
 unfold covE;simp only [Int.toNat_natCast];rw [andN x m (by omega) (by omega), decide_eq_true_eq]
 exact Int.ofNat_inj
theorem zz165 (l : List Int) (ps : List S72) (q : S72) (hg : goodP l q) (cur : List Int) (hc : ∀ y ∈ cur, 0 ≤ y ∧ y < 16) (hcl : cur.length ≤ 1048576) (x j : Int) (R : Bool) (r : List Int) : ∀ (p : List Int) (i : Int), i = p.length → cur = p ++ r →
  (r.any (fun y => covE q y.toNat) = true → R = false) → (r.any (fun y => covE q y.toNat) = false → Ev (fun k => impl_isSeparate.l0 k cur x ps ps.length (wrap64 (j + 1))) R) → Ev (fun k => impl_isSeparate.l1 k cur x ps ps.length j cur cur.length i q.f0 q.f1) R := by
 induction r with
 | nil =>
  intro p i hi e _ h;have hlen : cur.length = p.length := by rw [e]; simp
  apply ev_up;simp only [impl_isSeparate.l1];exact ev_n (by omega) (h rfl)
 | cons y r ih =>
  intro p i hi e h1 h;have hlen : cur.length = p.length + r.length + 1 := by rw [e]; simp; omega
  have hxx : rd cur i = y := by rw [e]; exact rdA hi
  have hy := hc y (by rw [e]; simp)
  obtain ⟨b, rfl⟩ := nat_of hy.1
  apply ev_up;simp only [impl_isSeparate.l1];refine ev_p (by omega) (ev_p (by omega) (ev_p (by omega) ?_))
  rw [hxx];refine ev_ite (fun c => ?_) (fun c => ?_)
  ·have c' := (cov_and hg (by omega)).1 c
   have e1 := h1 (by simp [c'])
   subst e1;exact Ev.now _
  ·have c' : covE q b = false := by
    have := fun hh => c ((cov_and hg (by omega)).2 hh)
    simpa using this
   rw [w64 (n := i + 1) (by omega) (by omega)]
   exact ih (p ++ [(b : Int)]) (i + 1) (by simp; omega) (by rw [e]; simp) (fun hh => h1 (by simpa [c'] using hh)) (fun hh => h (by simpa [c'] using hh))
theorem zz166 (l : List Int) (ps : List S72) (hg : ∀ p ∈ ps, goodP l p) (hpl : ps.length ≤ 1048576) (cur : List Int) (hc : ∀ y ∈ cur, 0 ≤ y ∧ y < 16) (hcl : cur.length ≤ 1048576) (x : Nat) (hx : x < 16) (r : List S72) : ∀ (p : List S72) (j : Int), j = p.length → ps = p ++ r →
  Ev (fun k => impl_isSeparate.l0 k cur x ps ps.length j) (sepP r cur x) := by
 induction r with
 | nil =>
  intro p j hj e;have hlen : ps.length = p.length := by rw [e]; simp
  apply ev_up;simp only [impl_isSeparate.l0];exact ev_n (by omega) (Ev.now _)
 | cons q r ih =>
  intro p j hj e;have hlen : ps.length = p.length + r.length + 1 := by rw [e]; simp; omega
  have hxx : rd_T72 ps j = q := by rw [e]; exact rdTermA hj
  have hq := hg q (by rw [e]; simp)
  have ih' := ih (p ++ [q]) (j + 1) (by simp; omega) (by rw [e]; simp)
  apply ev_up;simp only [impl_isSeparate.l0];refine ev_p (by omega) (ev_p (by omega) (ev_p (by omega) ?_))
  rw [hxx];refine ev_ite (fun c => ?_) (fun c => ?_)
  ·have c' := (cov_and hq hx).1 c
   refine zz165 l ps q hq cur hc hcl x j _ cur [] 0 rfl rfl (fun hh => ?_) (fun hh => ?_)
   ·simp only [sepP, List.all_cons, Int.toNat_natCast, c', hh, Bool.and_self, Bool.not_true, Bool.false_and]
   ·rw [w64 (n := j + 1) (by omega) (by omega)]
    refine ev_eq ih' ?_
    simp only [sepP, List.all_cons, Int.toNat_natCast, c', hh, Bool.and_false, Bool.not_false, Bool.true_and]
  ·have c' : covE q x = false := by
    have := fun hh => c ((cov_and hq hx).2 hh)
    simpa using this
   rw [w64 (n := j + 1) (by omega) (by omega)]
   refine ev_eq ih' ?_
   simp only [sepP, List.all_cons, Int.toNat_natCast, c', Bool.false_and, Bool.not_false, Bool.true_and]
theorem zz167 (l : List Int) (ps : List S72) (hg : ∀ p ∈ ps, goodP l p) (hpl : ps.length ≤ 1048576) (cur : List Int) (hc : ∀ y ∈ cur, 0 ≤ y ∧ y < 16) (hcl : cur.length ≤ 1048576) (x : Nat) (hx : x < 16) : Ev (fun k => impl_isSeparate.f k ps cur x) (!barB ps cur x) := by
 unfold impl_isSeparate.f;rw [← sep_bar];exact zz166 l ps hg hpl cur hc hcl x hx ps [] 0 rfl rfl
theorem pick_in (cur best m : List Int) (x : Int) (h : cur.length ≤ best.length) : pickM (cur ++ [x]) (impl_SeparateOnes.long (cur ++ [x]) best) m = pickM cur best (x :: m) := by
 unfold pickM impl_SeparateOnes.long;simp only [List.length_append, List.length_cons, List.length_nil, List.append_assoc, List.singleton_append];by_cases c : best.length < cur.length + (0 + 1)
 ·rw [if_pos c, if_pos (show best.length < cur.length + (m.length + 1) by omega)]
  by_cases c2 : 0 < m.length
  ·rw [if_pos (by simp; omega)]
  ·have : m = [] := List.length_eq_zero_iff.1 (by omega)
   subst this;simp
 ·rw [if_neg c]
  by_cases c2 : best.length < cur.length + (m.length + 1)
  ·rw [if_pos c2, if_pos (by omega)]
  ·rw [if_neg c2, if_neg (by omega)]
theorem zz169 (ps : List S72) (hpl : ps.length ≤ 1048576) (l : List Int) (hl16 : l.length ≤ 16) (hg : ∀ p ∈ ps, goodP l p) (d : Nat) : ∀ (i : Nat) (cur best : List Int), i + d = l.length → cur.length ≤ i → best.length ≤ 16 → cur.length ≤ best.length → (∀ y ∈ cur, 0 ≤ y ∧ y < 16) →
  Ev (fun k => impl_SeparateOnes.l k ps l cur best i) (pickM cur best (apartM ps (onesF l i d) cur)) := by
 induction d with
 | zero =>
  intro i cur best hi hci hb hcb hc;apply ev_up;simp only [impl_SeparateOnes.l];refine ev_n (by omega) (ev_eq (Ev.now _) ?_)
  simp only [onesF, apartM, pickM, List.length_nil];rw [if_neg (by omega)]
 | succ d ih =>
  intro i cur best hi hci hb hcb hc;have hal := zz71 ps (onesF l i (d + 1)) cur
  have hol := zz73 l (d + 1) i
  apply ev_up;simp only [impl_SeparateOnes.l];refine ev_p (by omega) (ev_p (by omega) ?_)
  rw [wN (n := (cur.length : Int) + (l.length : Int)) (m := cur.length + l.length) (by omega) (by omega), wN (n := ((cur.length + l.length : Nat) : Int) - (i : Int)) (m := cur.length + l.length - i) (by omega) (by omega), wN (n := (i : Int) + 1) (m := i + 1) (by omega) (by omega)]
  refine ev_ite (fun c => ev_eq (Ev.now _) ?_) (fun c => ?_)
  ·unfold pickM
   rw [if_neg (by omega)]
  ·have rest : ∀ best' : List Int, best'.length ≤ 16 → cur.length ≤ best'.length → Ev (fun k => impl_SeparateOnes.l k ps l cur best' ((i + 1 : Nat) : Int)) (pickM cur best' (apartM ps (onesF l (i + 1) d) cur)) := fun best' h1 h2 => ih (i + 1) cur best' (by omega) (by omega) h1 h2 hc
   by_cases c1 : rd l (i : Int) = 1
   ·have eo : onesF l i (d + 1) = (i : Int) :: onesF l (i + 1) d := by rw [onesF, if_pos c1]; rfl
    rw [eo];refine Ev.bind (ev_p c1 (zz167 l ps hg hpl cur hc (by omega) i (by omega))) ?_
    by_cases c2 : barB ps cur (i : Int) = true
    ·rw [c2]
     refine ev_n (by decide) (ev_eq (rest best hb hcb) ?_)
     rw [apartM, if_pos c2]
    ·have c2' : barB ps cur (i : Int) = false := by simpa using c2
     rw [c2'];refine ev_p rfl (ev_p (by omega) ?_)
     have h1 := ih (i + 1) (cur ++ [(i : Int)]) (impl_SeparateOnes.long (cur ++ [(i : Int)]) best) (by omega) (by simp; omega) (by unfold impl_SeparateOnes.long; split; (simp; omega); omega) (by unfold impl_SeparateOnes.long; split; (exact Nat.le_refl _); (rename_i hh; simp at hh ⊢; omega)) (fun y hy => by
      rw [List.mem_append, List.mem_singleton] at hy;rcases hy with hy | hy
      ·exact hc y hy
      ·omega)
     rw [pick_in _ _ _ _ hcb] at h1;have ha1 := zz71 ps (onesF l (i + 1) d) (cur ++ [(i : Int)])
     have ho1 := zz73 l d (i + 1)
     have hp1 : (pickM cur best ((i : Int) :: apartM ps (onesF l (i + 1) d) (cur ++ [(i : Int)]))).length ≤ 16 ∧ cur.length ≤ (pickM cur best ((i : Int) :: apartM ps (onesF l (i + 1) d) (cur ++ [(i : Int)]))).length := by
      unfold pickM;split
      ·simp; omega
      ·omega
     refine Ev.bind h1 (ev_p (by omega) (ev_eq (rest _ hp1.1 hp1.2) ?_))
     rw [pick_two, apartM, if_neg c2, List.length_cons]
   ·have eo : onesF l i (d + 1) = onesF l (i + 1) d := by rw [onesF, if_neg c1]; rfl
    rw [eo];refine Ev.bind (ev_n c1 (ev_c rfl)) (ev_n (by decide) (rest best hb hcb))
def zz170 (n : Int) (l : List Int) : List Int × Bool := if tableM n l = true then (apartM (masksM l n.toNat 0 (2 ^ n.toNat)) (onesF l 0 (2 ^ n.toNat)) [], true) else ([], false)
theorem zz171 (n : Int) (l : List Int) : (zz170 n l).1.length ≤ 16 := by
 unfold zz170;split
 ·rename_i h
  obtain ⟨a, rfl, ha, hla, hl16, _⟩ := zz141 h
  have h1 := zz71 (masksM l a 0 (2 ^ a)) (onesF l 0 (2 ^ a)) []
  have h2 := zz73 l (2 ^ a) 0
  simp only [Int.toNat_natCast];omega
 ·simp
theorem zz172 (n : Int) (l : List Int) (hl : l.length ≤ 9223372036854775807) : Ev (fun k => spec_SeparateOnes.f k n l) (zz170 n l) := by
 unfold spec_SeparateOnes.f zz170;refine Ev.bind (zz142 n l hl) (ev_ite (fun h => ?_) (fun h => ?_))
 ·rw [if_pos h]
  obtain ⟨a, rfl, ha, hla, hl16, _⟩ := zz141 h
  rw [Int.toNat_natCast];obtain ⟨h1, h2⟩ := zz95 ha l
  refine ev_p (by omega) (ev_p (by omega) (Ev.bind (zz112 a l ha hla hl16) ?_))
  have hc : Ev (fun k => spec_nfCovers.f k a l (masksM l a 0 (2 ^ a))) ((masksM l a 0 (2 ^ a)).map (fun q => (covN a q : Int))) := by
   unfold spec_nfCovers.f;exact zz114 a ha l _ (by omega) h2 _ [] 0 rfl rfl
  refine Ev.bind hc ?_
  rw [Int.toNat_natCast, hla, rmap_const];exact zz161 a ha l hla (masksM l a 0 (2 ^ a)) (by omega) _ [] 0 rfl rfl
 ·rw [if_neg h]
  exact Ev.now _
theorem zz173 (n : Int) (l : List Int) (hl : l.length ≤ 9223372036854775807) : Ev (fun k => impl_SeparateOnes.f k n l) (zz170 n l) := by
 unfold impl_SeparateOnes.f zz170;refine Ev.bind (zz145 n l hl) (ev_ite (fun h => ?_) (fun h => ?_))
 ·rw [if_pos h]
  obtain ⟨a, rfl, ha, hla, hl16, hbits⟩ := zz141 h
  rw [Int.toNat_natCast];obtain ⟨h1, h2⟩ := zz95 ha l
  refine Ev.bind (zz132 a l ha hla hl16) ?_
  have hA := zz169 (masksM l a 0 (2 ^ a)) (by omega) l hl16 h2 (2 ^ a) 0 [] [] (by omega) (by simp) (by simp) (by simp) (by simp)
  refine Ev.bind hA (ev_eq (Ev.now _) ?_)
  rw [zz77];by_cases c4 : 0 < (apartM (masksM l a 0 (2 ^ a)) (onesF l 0 (2 ^ a)) []).length
  ·rw [if_pos (by simpa using c4)]
  ·rw [if_neg (by simpa using c4)]
   rw [List.length_eq_zero_iff.1 (show (apartM (masksM l a 0 (2 ^ a)) (onesF l 0 (2 ^ a)) []).length = 0 by omega)]
 ·rw [if_neg h]
  exact Ev.now _
def zz174 (n : Int) (l : List Int) : Int × Bool := if tableM n l = true then ((leastRes l n.toNat).2, true) else (0, false)
theorem zz175 (n : Int) (l : List Int) (hl : l.length ≤ 9223372036854775807) : Ev (fun k => spec_CountLeastSums.f k n l) (zz174 n l) := by
 unfold spec_CountLeastSums.f zz174;refine Ev.bind (zz142 n l hl) (ev_ite (fun h => ?_) (fun h => ?_))
 ·rw [if_pos h]
  obtain ⟨a, rfl, ha, hla, hl16, _⟩ := zz141 h
  exact Ev.bind (zz117 l a ha hla) (Ev.now _)
 ·rw [if_neg h]
  exact Ev.now _
theorem zz176 (n : Int) (l : List Int) (hl : l.length ≤ 9223372036854775807) : Ev (fun k => impl_CountLeastSums.f k n l) (zz174 n l) := by
 unfold impl_CountLeastSums.f zz174;refine Ev.bind (zz145 n l hl) (ev_ite (fun h => ?_) (fun h => ?_))
 ·rw [if_pos h]
  obtain ⟨a, rfl, ha, hla, hl16, hb⟩ := zz141 h
  exact Ev.bind (zz134 l a ha hla hb) (Ev.now _)
 ·rw [if_neg h]
  exact Ev.now _
theorem zz177 (a : Nat) (ha : a ≤ 4) (ps : List S72) (hpl : ps.length ≤ 1048576) (i : Nat) (w : S72) (hw : ps[i]? = some w) (xs : List S72) (hx : xs.length ≤ 1048576) (R : List S72 × Bool) (r : List S72) : ∀ (p : List S72) (j acc : Nat), j = p.length → ps = p ++ r → acc < 65536 →
  Ev (fun k => spec_EssentialTerms.l0 k (ps.map (fun q => (covN a q : Int))) (xs ++ (if ¬ covN a w ^^^ (covN a w &&& restR a i r j acc) = 0 then [w] else [])) ps ps.length (wrap64 ((i : Int) + 1))) R →
  Ev (fun k => spec_EssentialTerms.l1 k (ps.map (fun q => (covN a q : Int))) xs i acc ps ps.length i (ps.map (fun q => (covN a q : Int))) (ps.map (fun q => (covN a q : Int))).length j w.f0 w.f1) R := by
 have hil : i < ps.length := by
  have := List.getElem?_eq_some_iff.1 hw
  exact this.1
 have hci : rd (ps.map (fun q => (covN a q : Int))) (i : Int) = covN a w := by
  have h1 : i < (ps.map (fun q => (covN a q : Int))).length := by simpa using hil
  have h2 : rd (ps.map (fun q => (covN a q : Int))) (i : Int) = (ps.map (fun q => (covN a q : Int)))[i] := getDN h1
  obtain ⟨h3, h4⟩ := List.getElem?_eq_some_iff.1 hw
  rw [h2, List.getElem_map, h4]
 induction r with
 | nil =>
  intro p j acc hj e hacc h;have hlen : ps.length = p.length := by rw [e]; simp
  have hcl := covN_lt ha w
  apply ev_up;simp only [spec_EssentialTerms.l1];rw [restR] at h;rw [hci, andNotN (covN a w) acc (by omega) (by omega)]
  refine ev_n (by simp; omega) (ev_p (by omega) (ev_p (by simp; omega) (ev_ite (fun c => ?_) (fun c => ?_))))
  ·have c' : covN a w ^^^ (covN a w &&& acc) = 0 := by exact_mod_cast c
   rw [if_neg (fun hh => hh c'), List.append_nil] at h
   exact h
  ·have c' : ¬ covN a w ^^^ (covN a w &&& acc) = 0 := fun hh => c (by rw [hh]; rfl)
   rw [if_pos c'] at h;exact ev_p (by omega) h
 | cons q r ih =>
  intro p j acc hj e hacc h;have hlen : ps.length = p.length + r.length + 1 := by rw [e]; simp; omega
  have hxx : rd (ps.map (fun q => (covN a q : Int))) (j : Int) = covN a q := by
   rw [e, List.map_append, List.map_cons];exact rdA (by simp; omega)
  have hcl := covN_lt ha q
  rw [restR] at h;apply ev_up;simp only [spec_EssentialTerms.l1];rw [wN (n := (j : Int) + 1) (m := j + 1) (by omega) (by omega)]
  refine ev_p (by simp; omega) (ev_p (by omega) (ev_p (by simp; omega) (ev_ite (fun c => ?_) (fun c => ?_))))
  ·rw [if_pos (show j = i by omega)] at h
   exact ih (p ++ [q]) (j + 1) acc (by simp; omega) (by rw [e]; simp) hacc h
  ·rw [if_neg (show ¬ j = i by omega)] at h
   rw [hxx, orN acc (covN a q) (by omega) (by omega)]
   exact ih (p ++ [q]) (j + 1) _ (by simp; omega) (by rw [e]; simp) (or_lt16 hacc hcl) h
theorem zz178 (a : Nat) (ha : a ≤ 4) (ps : List S72) (hpl : ps.length ≤ 1000) (r : List S72) : ∀ (p : List S72) (i : Nat) (xs : List S72), i = p.length → ps = p ++ r → xs.length ≤ i →
  Ev (fun k => spec_EssentialTerms.l0 k (ps.map (fun q => (covN a q : Int))) xs ps ps.length i) (xs ++ essL a ps r i, true) := by
 induction r with
 | nil =>
  intro p i xs hi e hx;have hlen : ps.length = p.length := by rw [e]; simp
  apply ev_up;simp only [spec_EssentialTerms.l0];rw [essL, List.append_nil];exact ev_n (by omega) (Ev.now _)
 | cons q r ih =>
  intro p i xs hi e hx;have hlen : ps.length = p.length + r.length + 1 := by rw [e]; simp; omega
  have hxx : rd_T72 ps (i : Int) = q := by rw [e]; exact rdTermA (by omega)
  have hw : ps[i]? = some q := by rw [e, hi]; simp
  apply ev_up;simp only [spec_EssentialTerms.l0];refine ev_p (by omega) (ev_p (by omega) (ev_p (by omega) ?_))
  rw [hxx];refine zz177 a ha ps (by omega) i q hw xs (by omega) _ ps [] 0 0 rfl rfl (by decide) ?_
  rw [wN (n := (i : Int) + 1) (m := i + 1) (by omega) (by omega)]
  have e2 : (if ¬ covN a q ^^^ (covN a q &&& restR a i ps 0 0) = 0 then [q] else []) = if essB a ps i q = true then [q] else [] := by
   unfold essB;by_cases c : ¬ covN a q ^^^ (covN a q &&& restR a i ps 0 0) = 0
   ·rw [if_pos c, decide_eq_true c, if_pos rfl]
   ·rw [if_neg c, decide_eq_false c, if_neg (by decide)]
  rw [e2];refine ev_eq (ih (p ++ [q]) (i + 1) _ (by simp; omega) (by rw [e]; simp) (by split <;> simp <;> omega)) ?_
  rw [essL, List.append_assoc]
noncomputable def zz179 (n : Int) (l : List Int) : List S72 × Bool := if tableM n l = true then (essL n.toNat (masksM l n.toNat 0 (2 ^ n.toNat)) (masksM l n.toNat 0 (2 ^ n.toNat)) 0, true) else ([], false)
theorem zz180 (n : Int) (l : List Int) (hl : l.length ≤ 9223372036854775807) : Ev (fun k => spec_EssentialTerms.f k n l) (zz179 n l) := by
 unfold spec_EssentialTerms.f zz179;refine Ev.bind (zz142 n l hl) (ev_ite (fun h => ?_) (fun h => ?_))
 ·rw [if_pos h]
  obtain ⟨a, rfl, ha, hla, hl16, _⟩ := zz141 h
  rw [Int.toNat_natCast];obtain ⟨h1, h2⟩ := zz95 ha l
  refine Ev.bind (zz112 a l ha hla hl16) ?_
  have hc : Ev (fun k => spec_nfCovers.f k a l (masksM l a 0 (2 ^ a))) ((masksM l a 0 (2 ^ a)).map (fun q => (covN a q : Int))) := by
   unfold spec_nfCovers.f;exact zz114 a ha l _ (by omega) h2 _ [] 0 rfl rfl
  refine Ev.bind hc ?_
  have := zz178 a ha (masksM l a 0 (2 ^ a)) (by omega) _ [] 0 [] rfl rfl (by simp)
  rw [List.nil_append] at this;exact this
 ·rw [if_neg h]
  exact Ev.now _
def ltT (p q : S72) : Prop := p.f0 < q.f0 ∨ (p.f0 = q.f0 ∧ p.f1 < q.f1)
theorem zz182 (l : List Int) (a m : Nat) (d : Nat) : ∀ v, ∀ p ∈ valsM l a m v d, ∃ y : Nat, v ≤ y ∧ y < v + d ∧ p = ⟨(m : Int), (y : Int)⟩ ∧ y &&& m = y ∧ impliesM l m y = true ∧ primeF l m y true 0 a = true := by
 induction d with
 | zero => intro v p hp; simp [valsM] at hp
 | succ d ih =>
  intro v p hp;rw [valsM, List.mem_append] at hp;rcases hp with hp | hp
  ·split at hp
   ·rename_i h
    rw [List.mem_singleton] at hp;exact ⟨v, by omega, by omega, hp, h⟩
   ·simp at hp
  ·obtain ⟨y, h1, h2, h3⟩ := ih (v + 1) p hp
   exact ⟨y, by omega, by omega, h3⟩
theorem zz183 (l : List Int) (a : Nat) (d : Nat) : ∀ m, ∀ p ∈ masksM l a m d, ∃ x y : Nat, m ≤ x ∧ x < m + d ∧ y ≤ x ∧ p = ⟨(x : Int), (y : Int)⟩ ∧ y &&& x = y ∧ impliesM l x y = true ∧ primeF l x y true 0 a = true := by
 induction d with
 | zero => intro m p hp; simp [masksM] at hp
 | succ d ih =>
  intro m p hp;rw [masksM, List.mem_append] at hp;rcases hp with hp | hp
  ·obtain ⟨y, h1, h2, h3⟩ := zz182 l a m (m + 1) 0 p hp
   exact ⟨m, y, by omega, by omega, by omega, h3⟩
  ·obtain ⟨x, y, h1, h2, h3⟩ := ih (m + 1) p hp
   exact ⟨x, y, by omega, by omega, h3⟩
theorem zz184 (l : List Int) (a m : Nat) (d : Nat) : ∀ v, (valsM l a m v d).Pairwise ltT := by
 induction d with
 | zero => intro v; simp [valsM]
 | succ d ih =>
  intro v;rw [valsM, List.pairwise_append];refine ⟨by split <;> simp, ih (v + 1), fun p hp q hq => ?_⟩
  split at hp
  ·rw [List.mem_singleton] at hp
   obtain ⟨y, h1, _, h3, _⟩ := zz182 l a m d (v + 1) q hq
   subst hp h3
   exact Or.inr ⟨rfl, by dsimp only; omega⟩
  ·simp at hp
theorem zz185 (l : List Int) (a : Nat) (d : Nat) : ∀ m, (masksM l a m d).Pairwise ltT := by
 induction d with
 | zero => intro m; simp [masksM]
 | succ d ih =>
  intro m;rw [masksM, List.pairwise_append];refine ⟨zz184 l a m _ 0, ih (m + 1), fun p hp q hq => ?_⟩
  obtain ⟨y, _, _, h3, _⟩ := zz182 l a m (m + 1) 0 p hp
  obtain ⟨x, z, h4, _, _, h5, _⟩ := zz183 l a d (m + 1) q hq
  subst h3 h5
  exact Or.inl (by dsimp only; omega)
theorem cov_zero (x : Nat) (r : List S72) : r.countP (fun p => covE p x) = 0 ↔ ∀ (k : Nat) (q : S72), r[k]? = some q → covE q x = false := by
 rw [List.countP_eq_zero];constructor
 ·intro h k q hq
  simpa using h q (List.mem_of_getElem? hq)
 ·intro h p hp
  obtain ⟨k, hk⟩ := List.mem_iff_getElem?.1 hp
  simp [h k p hk]
theorem cov_one (x : Nat) (r : List S72) : ∀ (i : Nat) (p : S72), r[i]? = some p → covE p x = true → (r.countP (fun p => covE p x) = 1 ↔ ∀ (k : Nat) (q : S72), k ≠ i → r[k]? = some q → covE q x = false) := by
 induction r with
 | nil => intro i p h; simp at h
 | cons s r ih =>
  intro i p hp hc;rw [List.countP_cons];cases i with
  | zero =>
   have : s = p := by simpa using hp
   subst this;rw [if_pos hc];have h0 := cov_zero x r
   constructor
   ·intro h k q hk hq
    cases k with
    | zero => exact absurd rfl hk
    | succ k => exact h0.1 (by omega) k q (by simpa using hq)
   ·intro h
    have := h0.2 (fun k q hq => h (k + 1) q (by omega) (by simpa using hq))
    omega
  | succ i =>
   have hp' : r[i]? = some p := by simpa using hp
   have h1 := ih i p hp' hc
   have hpos : 0 < r.countP (fun p => covE p x) := List.countP_pos_iff.2 ⟨p, List.mem_of_getElem? hp', hc⟩
   by_cases cs : covE s x = true
   ·rw [if_pos cs]
    constructor
    ·intro h; omega
    ·intro h
     have := h 0 s (by omega) (by simp)
     rw [cs] at this;simp at this
   ·rw [if_neg cs, Nat.add_zero, h1]
    constructor
    ·intro h k q hk hq
     cases k with
     | zero =>
      have : s = q := by simpa using hq
      subst this;simpa using cs
     | succ k => exact h k q (by omega) (by simpa using hq)
    ·intro h k q hk hq
     exact h (k + 1) q (by omega) (by simpa using hq)
theorem essL_mem (a : Nat) (ps : List S72) (q : S72) (r : List S72) : ∀ i, q ∈ essL a ps r i ↔ ∃ j, r[j]? = some q ∧ essB a ps (i + j) q = true := by
 induction r with
 | nil => intro i; simp [essL]
 | cons s r ih =>
  intro i;rw [essL, List.mem_append, ih (i + 1)];constructor
  ·rintro (h | ⟨j, hj, he⟩)
   ·split at h
    ·rename_i hs
     rw [List.mem_singleton] at h;subst h;exact ⟨0, by simp, hs⟩
    ·simp at h
   ·exact ⟨j + 1, by simpa using hj, by rw [show i + (j + 1) = i + 1 + j by omega]; exact he⟩
  ·rintro ⟨j, hj, he⟩
   cases j with
   | zero =>
    have : s = q := by simpa using hj
    subst this;left
    rw [Nat.add_zero] at he;rw [if_pos he];simp
   | succ j => exact Or.inr ⟨j, by simpa using hj, by rw [show i + 1 + j = i + (j + 1) by omega]; exact he⟩
theorem zz189 {a : Nat} {ps : List S72} (hs : ps.Pairwise ltT) {i : Nat} {x : S72} (hx : ps[i]? = some x) : x ∈ essL a ps ps 0 ↔ ∃ y, y < 2 ^ a ∧ covE x y = true ∧ ps.countP (fun p => covE p y) = 1 := by
 rw [essL_mem];constructor
 ·rintro ⟨j, hj, he⟩
  rw [Nat.zero_add] at he;obtain ⟨y, hy, ⟨p, hp, hc⟩, ho⟩ := (essB_iff hj).1 he
  have : p = x := by rw [hj] at hp; exact (Option.some.inj hp).symm
  subst this;exact ⟨y, hy, hc, (cov_one y ps j p hj hc).2 ho⟩
 ·rintro ⟨y, hy, hc, h1⟩
  exact ⟨i, hx, by rw [Nat.zero_add]; exact (essB_iff hx).2 ⟨y, hy, ⟨x, hx, hc⟩, (cov_one y ps i x hx hc).1 h1⟩⟩
def isTermM (n m v : Int) : Bool := decide (0 ≤ n ∧ n ≤ 4 ∧ 0 ≤ m ∧ m < 2 ^ n.toNat ∧ 0 ≤ v ∧ v.toNat &&& m.toNat = v.toNat)
theorem zz191 {n m v : Int} (h : isTermM n m v = true) : ∃ a b c : Nat, n = a ∧ m = b ∧ v = c ∧ a ≤ 4 ∧ b < 2 ^ a ∧ c &&& b = c ∧ c ≤ b ∧ b < 16 := by
 unfold isTermM at h;simp only [decide_eq_true_eq] at h;obtain ⟨h1, h2, h3, h4, h5, h6⟩ := h
 obtain ⟨a, rfl⟩ := nat_of h1
 obtain ⟨b, rfl⟩ := nat_of h3
 obtain ⟨c, rfl⟩ := nat_of h5
 simp only [Int.toNat_natCast] at h4 h6;have h7 : b < 2 ^ a := by exact_mod_cast h4
 have h8 : 2 ^ a ≤ 2 ^ 4 := Nat.pow_le_pow_right (by decide) (by omega)
 refine ⟨a, b, c, rfl, rfl, rfl, by omega, h7, h6, ?_, by omega⟩
 rw [← h6];exact Nat.and_le_right
def nRow (m : Nat) (f : Nat → Nat) : List Int := (List.range m).map (fun k => ((f k : Nat) : Int))
theorem zz193 (m : Nat) (f : Nat → Nat) : (nRow m f).length = m := by simp [nRow]
theorem nRow_set {m : Nat} {f : Nat → Nat} {k v : Nat} (h : k < m) : (nRow m f).set k (v : Int) = nRow m (fun j => if j = k then v else f j) := by
 apply List.ext_getElem
 ·simp [nRow]
 ·intro n h1 h2
  rw [List.getElem_set];simp only [nRow, List.getElem_map, List.getElem_range];by_cases e : n = k
  ·rw [if_pos e.symm, if_pos e]
  ·rw [if_neg (fun h => e h.symm), if_neg e]
theorem zz195 {m : Nat} {f g : Nat → Nat} (h : ∀ k, k < m → f k = g k) : nRow m f = nRow m g := by
 unfold nRow;apply List.map_congr_left
 intro k hk;rw [h k (by simpa using hk)]
theorem zz196 (m : Nat) : List.replicate m (0 : Int) = nRow m (fun _ => 0) := by
 have e1 : nRow m (fun _ => 0) = (List.range m).map (fun _ => (0 : Int)) := rfl
 rw [e1, List.map_const', List.length_range]
def covB (x : S72) (j : Nat) : Bool := decide (j &&& x.f0.toNat = x.f1.toNat)
def sumF (p : List S72) (j : Nat) : Nat := if p.any (fun x => covB x j) then 1 else 0
def okTerm (n : Int) (x : S72) : Bool := isTermM n x.f0 x.f1
def zz200 (n : Int) (l : List S72) : Int × List Int × Bool := if 0 ≤ n ∧ n ≤ 4 ∧ l.length ≤ 16 ∧ l.all (okTerm n) = true then (n, nRow (2 ^ n.toNat) (sumF l), true) else (0, [], false)
theorem zz201 (n : Int) (l : List S72) : (zz200 n l).2.1.length ≤ 16 := by
 unfold zz200;split
 ·rename_i h
  obtain ⟨a, rfl⟩ := nat_of h.1
  have h8 : 2 ^ a ≤ 2 ^ 4 := Nat.pow_le_pow_right (by decide) (by omega)
  simp only [zz193, Int.toNat_natCast];omega
 ·simp
theorem nat_term {a m v : Nat} (ha : a ≤ 4) (hm : m < 2 ^ a) (hv : v &&& m = v) : isTermM (a : Int) (m : Int) (v : Int) = true := by
 unfold isTermM;rw [decide_eq_true_eq];simp only [Int.toNat_natCast];have h3 : ((2 : Int) ^ a) = ((2 ^ a : Nat) : Int) := by push_cast; rfl
 refine ⟨by omega, by omega, by omega, by rw [h3]; omega, by omega, hv⟩
theorem zz203 (n m v : Int) (hv : I64 v) : impl_IsTerm.f n m v = some (isTermM n m v) := by
 unfold impl_IsTerm.f;unfold I64 at hv;by_cases h1 : n ≥ 0
 ·rw [if_pos h1]
  by_cases h2 : n ≤ 4
  ·rw [if_pos h2]
   by_cases h3 : m ≥ 0
   ·rw [if_pos h3, if_pos h1]
    obtain ⟨a, rfl⟩ := nat_of h1
    obtain ⟨b, rfl⟩ := nat_of h3
    rw [shl1 a (by omega)]
    have h8 : 2 ^ a ≤ 2 ^ 4 := Nat.pow_le_pow_right (by decide) (by omega : a ≤ 4)
    by_cases h4 : (b : Int) < ((2 ^ a : Nat) : Int)
    ·rw [if_pos h4]
     by_cases h5 : v ≥ 0
     ·rw [if_pos h5]
      obtain ⟨c, rfl⟩ := nat_of h5
      rw [andNotN c b (by omega) (by omega)]
      congr 1
      unfold isTermM;rw [Bool.eq_iff_iff];simp only [Int.toNat_natCast, beq_iff_eq, decide_eq_true_eq];constructor
      ·intro e
       have e2 : c ^^^ (c &&& b) = 0 := by exact_mod_cast e
       refine ⟨by omega, by omega, by omega, by exact_mod_cast h4, by omega, ((xor_eq_zero _ _).1 e2).symm⟩
      ·rintro ⟨_, _, _, _, _, e⟩
       rw [e];simp
     ·rw [if_neg h5]
      congr 1; symm; unfold isTermM
      exact decide_eq_false (fun h => h5 h.2.2.2.2.1)
    ·rw [if_neg h4]
     congr 1; symm; unfold isTermM
     exact decide_eq_false (fun h => h4 (by have := h.2.2.2.1; simpa using this))
   ·rw [if_neg h3]
    congr 1; symm; unfold isTermM
    exact decide_eq_false (fun h => h3 h.2.2.1)
  ·rw [if_neg h2]
   congr 1; symm; unfold isTermM
   exact decide_eq_false (fun h => h2 h.2.1)
 ·rw [if_neg h1]
  congr 1; symm; unfold isTermM
  exact decide_eq_false (fun h => h1 h.1)
theorem zz204 (a : Nat) (m : Nat) (hm : m ≤ 16) (l : List S72) (hl : l.length ≤ 16) (hok : ∀ x ∈ l, okTerm a x = true) (i : Nat) (hi : i < m) (e : Int) (res : Int × List Int × Bool) (r : List S72) : ∀ (p : List S72) (f : Nat → Nat) (n : Int), n = p.length → l = p ++ r →
  Ev (fun k => impl_SumTable.l1 k l e (wrap64 ((i : Int) + 1)) a (nRow m (fun b => if b = i ∧ r.any (fun x => covB x i) = true then 1 else f b))) res → Ev (fun k => impl_SumTable.l2 k l i e i l l.length n a (nRow m f)) res := by
 induction r with
 | nil =>
  intro p f n hn he h;have hlen : l.length = p.length := by rw [he]; simp
  apply ev_up;simp only [impl_SumTable.l2];refine ev_n (by omega) ?_
  simpa using h
 | cons x r ih =>
  intro p f n hn he h;have hlen : l.length = p.length + r.length + 1 := by rw [he]; simp; omega
  have hx : rd_T72 l n = x := by rw [he]; exact rdTermA hn
  obtain ⟨a', b, c, ea, eb, ec, _, hb, _, hcb, hb16⟩ := zz191 (hok x (by rw [he]; simp))
  have ex : covB x i = decide (i &&& b = c) := by unfold covB; rw [eb, ec]; rfl
  apply ev_up;simp only [impl_SumTable.l2];refine ev_p (by omega) (ev_p (by omega) (ev_p (by omega) ?_))
  rw [hx, w64 (n := n + 1) (by omega) (by omega), eb, ec, andN i b (by omega) (by omega)]
  refine ev_ite (fun hc => ?_) (fun hc => ?_)
  ·have hc' : i &&& b = c := by exact_mod_cast hc
   refine ev_p (by omega) (ev_p (by rw [zz193]; omega) ?_)
   have es := nRow_set (f := f) (v := 1) hi
   rw [Int.toNat_natCast, show (1 : Int) = ((1 : Nat) : Int) from rfl, es]
   refine ih (p ++ [x]) _ (n + 1) (by simp; omega) (by rw [he]; simp) ?_
   have e2 : nRow m (fun b => if b = i ∧ r.any (fun x => covB x i) = true then 1 else (if b = i then 1 else f b)) = nRow m (fun b => if b = i ∧ (x :: r).any (fun x => covB x i) = true then 1 else f b) := by
    apply zz195
    intro b _;rw [List.any_cons, ex, decide_eq_true hc', Bool.true_or];by_cases hb : b = i
    ·rw [if_pos (show b = i ∧ true = true from ⟨hb, rfl⟩)]
     split <;> first | rfl | (rw [if_pos hb])
    ·rw [if_neg (fun hh => hb hh.1), if_neg hb, if_neg (fun hh => hb hh.1)]
   rw [e2];exact h
  ·have hc' : ¬ i &&& b = c := fun hh => hc (by exact_mod_cast hh)
   refine ih (p ++ [x]) f (n + 1) (by simp; omega) (by rw [he]; simp) ?_
   rw [List.any_cons, ex, decide_eq_false hc', Bool.false_or] at h;exact h
theorem zz205 (a : Nat) (m : Nat) (hm : m ≤ 16) (l : List S72) (hl : l.length ≤ 16) (hok : ∀ x ∈ l, okTerm a x = true) (d : Nat) : ∀ (i : Nat), i + d = m →
  Ev (fun k => impl_SumTable.l1 k l m i a (nRow m (fun b => if b < i then sumF l b else 0))) ((a : Int), nRow m (sumF l), true) := by
 induction d with
 | zero =>
  intro i hi;apply ev_up;simp only [impl_SumTable.l1];refine ev_n (by omega) (ev_eq (Ev.now _) ?_)
  have : nRow m (fun b => if b < i then sumF l b else 0) = nRow m (sumF l) := zz195 (fun b hb => by rw [if_pos (by omega)])
  rw [this]
 | succ d ih =>
  intro i hi;apply ev_up;simp only [impl_SumTable.l1];refine ev_p (by omega) ?_
  refine zz204 a m hm l hl hok i (by omega) m _ l [] _ 0 rfl rfl ?_
  rw [wN (n := (i : Int) + 1) (m := i + 1) (by omega) (by omega)]
  have : nRow m (fun b => if b = i ∧ l.any (fun x => covB x i) = true then 1 else (if b < i then sumF l b else 0)) = nRow m (fun b => if b < i + 1 then sumF l b else 0) := by
   apply zz195
   intro b _;by_cases hb : b = i
   ·subst hb
    rw [if_pos (show b < b + 1 by omega)]
    by_cases hc : l.any (fun x => covB x b) = true
    ·rw [if_pos ⟨rfl, hc⟩]
     unfold sumF;rw [if_pos hc]
    ·rw [if_neg (fun hh => hc hh.2), if_neg (Nat.lt_irrefl b)]
     unfold sumF;rw [if_neg hc]
   ·rw [if_neg (fun hh => hb hh.1)]
    by_cases h1 : b < i
    ·rw [if_pos h1, if_pos (show b < i + 1 by omega)]
    ·rw [if_neg h1, if_neg (show ¬ b < i + 1 by omega)]
  rw [this];exact ih (i + 1) (by omega)
theorem zz206 (a : Nat) (ha : a ≤ 4) (l : List S72) (hl : l.length ≤ 16) (hi64 : ∀ x ∈ l, I64 x.f0 ∧ I64 x.f1) (r : List S72) : ∀ (p : List S72) (i : Int), i = p.length → l = p ++ r → (∀ x ∈ p, okTerm a x = true) →
  Ev (fun k => impl_SumTable.l0 k a l l l.length i) (if r.all (okTerm a) = true then ((a : Int), nRow (2 ^ a) (sumF l), true) else (0, [], false)) := by
 have h8 : 2 ^ a ≤ 2 ^ 4 := Nat.pow_le_pow_right (by decide) ha
 induction r with
 | nil =>
  intro p i hi e hp;have hlen : l.length = p.length := by rw [e]; simp
  have hpp : l = p := by rw [e]; simp
  have h9 : 0 < 2 ^ a := Nat.two_pow_pos a
  apply ev_up;simp only [impl_SumTable.l0];rw [shl1 a (by omega)]
  refine ev_n (by omega) (ev_p (by omega) (ev_p (by omega) (ev_p (by omega) (Ev.bind (ev_c rfl) ?_))))
  rw [List.all_nil, if_pos rfl, Int.toNat_natCast, zz196, zz193];have := zz205 a (2 ^ a) (by omega) l hl (by rw [hpp]; exact hp) (2 ^ a) 0 (by omega)
  have e2 : nRow (2 ^ a) (fun b => if b < 0 then sumF l b else 0) = nRow (2 ^ a) (fun _ => 0) := zz195 (fun b _ => by rw [if_neg (by omega)])
  rw [e2] at this;exact this
 | cons x r ih =>
  intro p i hi e hp;have hlen : l.length = p.length + r.length + 1 := by rw [e]; simp; omega
  have hx : rd_T72 l i = x := by rw [e]; exact rdTermA hi
  apply ev_up;simp only [impl_SumTable.l0];refine ev_p (by omega) (ev_p (by omega) (ev_p (by omega) ?_))
  rw [hx, zz203 a x.f0 x.f1 (hi64 x (by rw [e]; simp)).2, w64 (n := i + 1) (by omega) (by omega)]
  refine Ev.bind (ev_c rfl) (ev_ite (fun h => ?_) (fun h => ?_))
  ·have hok : okTerm a x = true := h
   rw [List.all_cons, hok, Bool.true_and];refine ih (p ++ [x]) (i + 1) (by simp; omega) (by rw [e]; simp) (fun y hy => ?_)
   rw [List.mem_append] at hy;rcases hy with hy | hy
   ·exact hp y hy
   ·simp only [List.mem_singleton] at hy
    rw [hy];exact hok
  ·have hok : okTerm a x = false := by unfold okTerm; simpa using h
   rw [List.all_cons, hok, Bool.false_and, if_neg (by decide)]
   exact Ev.now _
theorem zz207 (n : Int) (l : List S72) (hl : l.length ≤ 1048576) (hi64 : ∀ x ∈ l, I64 x.f0 ∧ I64 x.f1) : Ev (fun k => impl_SumTable.f k n l) (zz200 n l) := by
 have bad : ¬ (0 ≤ n ∧ n ≤ 4 ∧ l.length ≤ 16) → Ev (fun k => impl_SumTable.j0 k n l true) (zz200 n l) := fun h => by
  unfold zz200;rw [if_neg (fun hh => h ⟨hh.1, hh.2.1, hh.2.2.1⟩)]
  apply ev_up;simp only [impl_SumTable.j0];exact ev_p (by trivial) (Ev.now _)
 unfold impl_SumTable.f;refine ev_ite (fun h => bad (by omega)) (fun h1 => ev_ite (fun h => bad (by omega)) (fun h2 => ?_))
 apply ev_up;simp only [impl_SumTable.j0];refine ev_ite (fun h3 => ?_) (fun h3 => ?_)
 ·have h3' := of_decide_eq_true h3
  unfold zz200;rw [if_neg (fun hh => by omega)]
  exact Ev.now _
 ·have h3' : ¬ (l.length : Int) > 16 := fun hh => h3 (decide_eq_true hh)
  obtain ⟨a, rfl⟩ := nat_of (show 0 ≤ n by omega)
  have := zz206 a (by omega) l (by omega) hi64 l [] 0 rfl rfl (fun x hx => by simp at hx)
  refine ev_eq this ?_
  unfold zz200;by_cases hall : l.all (okTerm a) = true
  ·rw [if_pos hall, if_pos ⟨by omega, by omega, by omega, hall⟩, Int.toNat_natCast]
  ·rw [if_neg hall, if_neg (fun hh => hall hh.2.2.2)]
theorem zz208 (n m v : Int) (hv : I64 v) : spec_nfTerm.f n m v = some (isTermM n m v) := by
 unfold spec_nfTerm.f;rw [zz139, Option.bind_some];by_cases h : 0 ≤ n ∧ n ≤ 4
 ·rw [decide_eq_true h, if_pos rfl]
  obtain ⟨a, rfl⟩ := nat_of h.1
  have ha : a ≤ 4 := by omega
  rw [u64w (by omega) (by omega), if_pos (by omega), shl1 a (by omega)]
  have h8 : 2 ^ a ≤ 2 ^ 4 := Nat.pow_le_pow_right (by decide) ha
  have h9 : 0 < 2 ^ a := Nat.two_pow_pos a
  rw [w64 (by omega) (by omega), l1In_eq, Option.bind_some]
  by_cases hm : 0 ≤ m ∧ m ≤ ((2 ^ a : Nat) : Int) - 1
  ·rw [decide_eq_true hm, if_pos rfl, l1In_eq, Option.bind_some]
   obtain ⟨b, rfl⟩ := nat_of hm.1
   by_cases hc : 0 ≤ v ∧ v ≤ (b : Int)
   ·rw [decide_eq_true hc, if_pos rfl]
    obtain ⟨c, rfl⟩ := nat_of hc.1
    rw [andN c b (by omega) (by omega)]
    unfold isTermM;simp only [Int.toNat_natCast];congr 1
    rw [Bool.eq_iff_iff];simp only [beq_iff_eq, decide_eq_true_eq];constructor
    ·intro e
     refine ⟨by omega, by omega, by omega, ?_, by omega, by omega⟩
     have : b < 2 ^ a := by omega
     exact_mod_cast this
    ·rintro ⟨_, _, _, _, _, e⟩
     omega
   ·rw [decide_eq_false hc, if_neg (by decide)]
    congr 1
    symm
    unfold isTermM;apply decide_eq_false
    rintro ⟨_, _, _, _, h5, h6⟩
    obtain ⟨c, rfl⟩ := nat_of h5
    simp only [Int.toNat_natCast] at h6;have : c &&& b ≤ b := Nat.and_le_right
    omega
  ·rw [decide_eq_false hm, if_neg (by decide)]
   congr 1
   symm
   unfold isTermM;apply decide_eq_false
   rintro ⟨_, _, h3, h4, _, _⟩
   obtain ⟨b, rfl⟩ := nat_of h3
   simp only [Int.toNat_natCast] at h4;have : b < 2 ^ a := by exact_mod_cast h4
   omega
 ·rw [decide_eq_false h, if_neg (by decide)]
  congr 1
  symm
  unfold isTermM;apply decide_eq_false
  rintro ⟨h1, h2, _⟩
  exact h ⟨h1, h2⟩
theorem zz209 (n : Int) (m : Nat) (hm : m ≤ 16) (l : List S72) (e j : Int) (ks : List Int) (hks : ∀ x ∈ ks, 0 ≤ x ∧ x < m) (hkl : ks.length ≤ 16) (res : Int × List Int × Bool) (r : List Int) : ∀ (p : List Int) (f : Nat → Nat) (i : Int), i = p.length → ks = p ++ r →
  Ev (fun k => spec_SumTable.l0 k n l e (wrap64 (j + 1)) n (nRow m (fun a => if (a : Int) ∈ r then 1 else f a))) res → Ev (fun k => spec_SumTable.l1 k n l e j ks ks.length i n (nRow m f)) res := by
 induction r with
 | nil =>
  intro p f i hi he h;have hlen : ks.length = p.length := by rw [he]; simp
  apply ev_up;simp only [spec_SumTable.l1];refine ev_n (by omega) ?_
  simpa using h
 | cons x r ih =>
  intro p f i hi he h;have hlen : ks.length = p.length + r.length + 1 := by rw [he]; simp; omega
  have hx : rd ks i = x := by rw [he]; exact rdA hi
  have hxb := hks x (by rw [he]; simp)
  obtain ⟨a, rfl⟩ := nat_of hxb.1
  apply ev_up;simp only [spec_SumTable.l1];refine ev_p (by omega) (ev_p (by omega) (ev_p (by omega) ?_))
  rw [hx, w64 (n := i + 1) (by omega) (by omega)]
  refine ev_p (by omega) (ev_p (by rw [zz193]; omega) ?_)
  have es := nRow_set (f := f) (v := 1) (show a < m by omega)
  rw [Int.toNat_natCast, show (1 : Int) = ((1 : Nat) : Int) from rfl, es]
  refine ih (p ++ [(a : Int)]) _ (i + 1) (by simp; omega) (by rw [he]; simp) ?_
  have e2 : nRow m (fun b => if (b : Int) ∈ r then 1 else (if b = a then 1 else f b)) = nRow m (fun b => if (b : Int) ∈ (a : Int) :: r then 1 else f b) := by
   apply zz195
   intro b _;by_cases h1 : (b : Int) ∈ r
   ·rw [if_pos h1, if_pos (List.mem_cons_of_mem _ h1)]
   ·by_cases h2 : b = a
    ·rw [if_neg h1, if_pos h2, if_pos (by rw [h2]; exact List.mem_cons_self)]
    ·rw [if_neg h1, if_neg h2, if_neg (fun h3 => by
      rcases List.mem_cons.1 h3 with h3 | h3
      ·exact h2 (by exact_mod_cast h3)
      ·exact h1 h3)]
  rw [e2];exact h
theorem zz210 (a : Nat) (ha : a ≤ 4) (l : List S72) (hl : l.length ≤ 16) (hi64 : ∀ x ∈ l, I64 x.f0 ∧ I64 x.f1) (r : List S72) : ∀ (p : List S72) (i : Int), i = p.length → l = p ++ r →
  Ev (fun k => spec_SumTable.l0 k a l l.length i a (nRow (2 ^ a) (sumF p))) (if r.all (okTerm a) = true then ((a : Int), nRow (2 ^ a) (sumF l), true) else (0, [], false)) := by
 have h8 : 2 ^ a ≤ 2 ^ 4 := Nat.pow_le_pow_right (by decide) ha
 induction r with
 | nil =>
  intro p i hi e;have hlen : l.length = p.length := by rw [e]; simp
  have hp : l = p := by rw [e]; simp
  apply ev_up;simp only [spec_SumTable.l0];refine ev_n (by omega) ?_
  rw [List.all_nil, if_pos rfl, hp];exact Ev.now _
 | cons x r ih =>
  intro p i hi e;have hlen : l.length = p.length + r.length + 1 := by rw [e]; simp; omega
  have hx : rd_T72 l i = x := by rw [e]; exact rdTermA hi
  apply ev_up;simp only [spec_SumTable.l0];refine ev_p (by omega) (ev_p (by omega) (ev_p (by omega) ?_))
  rw [hx, zz208 a x.f0 x.f1 (hi64 x (by rw [e]; simp)).2]
  refine Ev.bind (ev_c rfl) (ev_ite (fun h => ?_) (fun h => ?_))
  ·have hok : okTerm a x = true := h
   obtain ⟨a', b, c, ea, eb, ec, _, hb, _, _, hb16⟩ := zz191 h
   obtain rfl : a = a' := by omega
   rw [eb, ec];have hi2 := zz22 (2 ^ a) b c (2 ^ a)
   refine Ev.bind (zz106 a b c ha (by omega)) ?_
   refine zz209 a (2 ^ a) (by omega) l l.length i _ (fun y hy => ?_) (by omega) _ _ [] (sumF p) 0 rfl rfl ?_
   ·obtain ⟨j, rfl, _, h2, _⟩ := idxM_mem (Nat.le_refl _) hy
    omega
   ·rw [List.all_cons, hok, Bool.true_and, w64 (n := i + 1) (by omega) (by omega)]
    have e2 : nRow (2 ^ a) (fun j => if (j : Int) ∈ idxM (2 ^ a) b c (2 ^ a) then 1 else sumF p j) = nRow (2 ^ a) (sumF (p ++ [x])) := by
     apply zz195
     intro j hj;unfold sumF;rw [List.any_append];have ex : covB x j = decide (j &&& b = c) := by unfold covB; rw [eb, ec]; rfl
     simp only [List.any_cons, List.any_nil, Bool.or_false, ex];by_cases hc : j &&& b = c
     ·rw [if_pos (mem_idxM (Nat.le_refl _) (by omega) hj hc), decide_eq_true hc, Bool.or_true, if_pos rfl]
     ·rw [if_neg (fun hm => by obtain ⟨j', e', _, _, h4⟩ := idxM_mem (Nat.le_refl _) hm; exact hc (by rw [show j = j' by omega]; exact h4)), decide_eq_false hc, Bool.or_false]
    rw [e2];exact ih (p ++ [x]) (i + 1) (by simp; omega) (by rw [e]; simp)
  ·have hok : okTerm a x = false := by unfold okTerm; simpa using h
   rw [List.all_cons, hok, Bool.false_and, if_neg (by decide)]
   exact Ev.now _
theorem zz211 (n : Int) (l : List S72) (hl : l.length ≤ 1048576) (hi64 : ∀ x ∈ l, I64 x.f0 ∧ I64 x.f1) : Ev (fun k => spec_SumTable.f k n l) (zz200 n l) := by
 have bad : ¬ (0 ≤ n ∧ n ≤ 4 ∧ l.length ≤ 16) → zz200 n l = (0, [], false) := fun h => by
  unfold zz200;rw [if_neg (fun hh => h ⟨hh.1, hh.2.1, hh.2.2.1⟩)]
 unfold spec_SumTable.f;rw [zz139];refine Ev.bind (ev_c rfl) (ev_ite (fun h => ?_) (fun h => ?_))
 ·have h' := of_decide_eq_true h
  apply ev_up;simp only [spec_SumTable.j0];refine ev_ite (fun h2 => ?_) (fun h2 => ?_)
  ·have h2' := of_decide_eq_true h2
   rw [bad (by omega)]
   exact Ev.now _
  ·have h2' : ¬ (l.length : Int) > 16 := fun hh => h2 (decide_eq_true hh)
   obtain ⟨a, rfl⟩ := nat_of h'.1
   have ha : a ≤ 4 := by omega
   have h8 : 2 ^ a ≤ 2 ^ 4 := Nat.pow_le_pow_right (by decide) ha
   have h9 : 0 < 2 ^ a := Nat.two_pow_pos a
   rw [u64w (by omega) (by omega), shl1 a (by omega)]
   refine ev_p (by omega) (ev_p (by omega) (ev_p (by omega) ?_))
   rw [Int.toNat_natCast, zz196];have := zz210 a ha l (by omega) hi64 l [] 0 rfl rfl
   refine ev_eq this ?_
   unfold zz200;by_cases hall : l.all (okTerm a) = true
   ·rw [if_pos hall, if_pos ⟨h'.1, h'.2, by omega, hall⟩, Int.toNat_natCast]
   ·rw [if_neg hall, if_neg (fun hh => hall hh.2.2.2)]
 ·apply ev_up
  simp only [spec_SumTable.j0];rw [bad (fun hh => h (decide_eq_true ⟨hh.1, hh.2.1⟩))]
  exact ev_p (by trivial) (Ev.now _)
def zz212 (n : Int) (l : List Int) (m v : Int) : Bool × Bool := if tableM n l = true ∧ isTermM n m v = true then (impliesM l m.toNat v.toNat, true) else (false, false)
theorem zz213 (n : Int) (l : List Int) (m v : Int) (hv : I64 v) (hl : l.length ≤ 9223372036854775807) : Ev (fun k => impl_IsImplicant.f k n l m v) (zz212 n l m v) := by
 unfold impl_IsImplicant.f zz212;refine Ev.bind (zz145 n l hl) (ev_ite (fun h1 => ?_) (fun h1 => ?_))
 ·rw [zz203 n m v hv]
  refine Ev.bind (ev_c rfl) (ev_ite (fun h2 => ?_) (fun h2 => ?_))
  ·rw [if_pos ⟨h1, h2⟩]
   obtain ⟨a, rfl, ha, hla, hl16, _⟩ := zz141 h1
   obtain ⟨_, b, c, _, rfl, rfl, _, _, _, _, hb⟩ := zz191 h2
   exact Ev.bind (zz128 a l b c (by omega) (by omega)) (Ev.now _)
  ·rw [if_neg (fun h => h2 h.2)]
   exact Ev.now _
 ·rw [if_neg (fun h => h1 h.1)]
  exact Ev.now _
theorem sol_cov (cs : List Nat) : ∀ i t left, ∀ s ∈ solsM cs i t left, ∀ x, left.testBit x = true → ∃ (j c : Nat), i + j ∈ s ∧ cs[j]? = some c ∧ c.testBit x = true := by
 induction cs with
 | nil =>
  intro i t left s hs x hx;cases t with
  | zero =>
   rw [solsM] at hs;split at hs
   ·rename_i h
    subst h;simp at hx
   ·simp at hs
  | succ t => simp [solsM] at hs
 | cons c cs ih =>
  intro i t left s hs x hx;cases t with
  | zero =>
   rw [solsM] at hs;split at hs
   ·rename_i h
    subst h;simp at hx
   ·simp at hs
  | succ t =>
   rw [solsM, List.mem_append, List.mem_map] at hs;rcases hs with ⟨s', hs', rfl⟩ | hs
   ·by_cases hc : c.testBit x = true
    ·exact ⟨0, c, by simp, by simp, hc⟩
    ·obtain ⟨j, d, h1, h2, h3⟩ := ih (i + 1) t _ s' hs' x (by rw [zz11, hx]; simpa using hc)
     exact ⟨j + 1, d, by rw [show i + (j + 1) = i + 1 + j by omega]; exact List.mem_cons_of_mem _ h1, by simpa using h2, h3⟩
   ·obtain ⟨j, d, h1, h2, h3⟩ := ih (i + 1) (t + 1) _ s hs x hx
    exact ⟨j + 1, d, by rw [show i + (j + 1) = i + 1 + j by omega]; exact h1, by simpa using h2, h3⟩
theorem zz215 (cs : List Nat) (g : Nat) (d : Nat) : ∀ m, ∀ s ∈ leastF cs g d m, ∃ t, s ∈ solsM cs 0 t g := by
 induction d with
 | zero => intro m s hs; exact ⟨m, hs⟩
 | succ d ih =>
  intro m s hs;rw [leastF] at hs;split at hs
  ·exact ih (m + 1) s hs
  ·exact ⟨m, hs⟩
theorem zz216 (cs : List Nat) (g : Nat) (d : Nat) : ∀ m, (∃ t, m ≤ t ∧ t ≤ m + d ∧ solsM cs 0 t g ≠ []) → leastF cs g d m ≠ [] := by
 induction d with
 | zero =>
  rintro m ⟨t, h1, h2, h3⟩
  rw [show m = t by omega]
  exact h3
 | succ d ih =>
  rintro m ⟨t, h1, h2, h3⟩
  rw [leastF];split
  ·rename_i h
   refine ih (m + 1) ⟨t, ?_, by omega, h3⟩
   by_cases e : m = t
   ·subst e
    exact absurd h h3
   ·omega
  ·assumption
structure LeastOk (l : List Int) (a : Nat) (L : List S72) (C : Int) : Prop where
 len : L.length ≤ 16
 count : 1 ≤ C
 sub : ∀ p ∈ L, p ∈ masksM l a 0 (2 ^ a)
 cov : ∀ x : Nat, x < 2 ^ a → rd l (x : Int) = 1 → ∃ p ∈ L, covE p x = true
 zero : (∀ x : Nat, x < 2 ^ a → rd l (x : Int) ≠ 1) → L = []
theorem least_ok (l : List Int) (a : Nat) (ha : a ≤ 4) (hl : l.length = 2 ^ a) : LeastOk l a (leastRes l a).1 (leastRes l a).2 := by
 obtain ⟨t, ht, hne⟩ := zz99 l a ha hl
 have h2 := zz216 ((masksM l a 0 (2 ^ a)).map (covN a)) (goalN l (2 ^ a)) 16 0 ⟨t, by omega, by omega, hne⟩
 have h3 := zz215 ((masksM l a 0 (2 ^ a)).map (covN a)) (goalN l (2 ^ a)) 16 0
 have h4 := zz147 ((masksM l a 0 (2 ^ a)).map (covN a)) (goalN l (2 ^ a)) 16 0
 have h5 : (∀ x : Nat, x < 2 ^ a → rd l (x : Int) ≠ 1) → headM (leastF ((masksM l a 0 (2 ^ a)).map (covN a)) (goalN l (2 ^ a)) 16 0) = [] := by
  intro h;have hg : goalN l (2 ^ a) = 0 := by
   apply Nat.eq_of_testBit_eq
   intro x;rw [Nat.zero_testBit];cases hb : (goalN l (2 ^ a)).testBit x with
   | false => rfl
   | true => exact absurd ((zz83 l (2 ^ a) x).1 hb).2 (h x ((zz83 l (2 ^ a) x).1 hb).1)
  rw [hg, leastF];have hs : solsM ((masksM l a 0 (2 ^ a)).map (covN a)) 0 0 0 = [[]] := by
   cases (masksM l a 0 (2 ^ a)).map (covN a) <;> simp [solsM]
  rw [hs];rfl
 unfold leastRes;dsimp only;generalize leastF ((masksM l a 0 (2 ^ a)).map (covN a)) (goalN l (2 ^ a)) 16 0 = S at h2 h3 h4 h5
 cases S with
 | nil => exact absurd rfl h2
 | cons s S =>
  have hh : headM (s :: S) = s := rfl
  rw [hh] at h5 ⊢
  obtain ⟨t, hs⟩ := h3 s (by simp)
  have hlen := (sols_len _ 0 t _ s hs).2
  have hcov := sol_cov _ 0 t _ s hs
  have h6 := h4 s (by simp)
  refine ⟨?_, ?_, ?_, ?_, ?_⟩
  ·unfold termsAt
   rw [List.length_map];omega
  ·rw [List.length_cons]
   omega
  ·intro p hp
   unfold termsAt at hp;rw [List.mem_map] at hp;obtain ⟨j, hj, rfl⟩ := hp
   have hj2 := hlen j hj
   rw [List.length_map] at hj2;have q : j < (masksM l a 0 (2 ^ a)).length := by omega
   show (masksM l a 0 (2 ^ a)).getD ((j : Int)).toNat _ ∈ _
   rw [getDN q];exact List.getElem_mem q
  ·intro x hx h1
   obtain ⟨j, c, g1, g2, g3⟩ := hcov x ((zz83 l (2 ^ a) x).2 ⟨hx, h1⟩)
   rw [Nat.zero_add] at g1;rw [List.getElem?_map] at g2;obtain ⟨p, hp, rfl⟩ := Option.map_eq_some_iff.1 g2
   refine ⟨p, ?_, ((covN_bit p x).1 g3).2⟩
   unfold termsAt;rw [List.mem_map];refine ⟨j, g1, ?_⟩
   obtain ⟨q, hq⟩ := List.getElem?_eq_some_iff.1 hp
   show (masksM l a 0 (2 ^ a)).getD ((j : Int)).toNat _ = p
   rw [getDN q, hq]
  ·intro h
   rw [h5 h];rfl
theorem zz218 (ps : List S72) (r : List Int) : ∀ cur, ∀ y ∈ apartM ps r cur, y ∈ r ∧ barB ps cur y = false := by
 induction r with
 | nil => intro cur y hy; simp [apartM] at hy
 | cons x r ih =>
  intro cur y hy;rw [apartM] at hy;split at hy
  ·have := ih cur y hy
   exact ⟨List.mem_cons_of_mem _ this.1, this.2⟩
  ·rename_i hb
   split at hy
   ·have := ih cur y hy
    exact ⟨List.mem_cons_of_mem _ this.1, this.2⟩
   ·rw [List.mem_cons] at hy
    rcases hy with rfl | hy
    ·exact ⟨by simp, by simpa using hb⟩
    ·have := ih (cur ++ [x]) y hy
     refine ⟨List.mem_cons_of_mem _ this.1, ?_⟩
     have h2 := this.2
     rw [zz158, Bool.or_eq_false_iff] at h2;exact h2.1
theorem zz219 (ps : List S72) (r : List Int) : ∀ cur, (apartM ps r cur).Pairwise (fun x y => nearB ps x.toNat y.toNat = false) := by
 induction r with
 | nil => intro cur; simp [apartM]
 | cons x r ih =>
  intro cur;rw [apartM];split
  ·exact ih cur
  ·split
   ·exact ih cur
   ·rw [List.pairwise_cons]
    refine ⟨fun y hy => ?_, ih (cur ++ [x])⟩
    have h2 := (zz218 ps r (cur ++ [x]) y hy).2
    rw [zz158, Bool.or_eq_false_iff] at h2;exact h2.2
theorem zz220 (q : Int → Bool) (A : List Int) (h : A.Pairwise (fun x y => ¬ (q x = true ∧ q y = true))) : (A.filter q).length ≤ 1 := by
 induction A with
 | nil => simp
 | cons x A ih =>
  rw [List.pairwise_cons] at h;have := ih h.2
  rw [List.filter_cons];split
  ·rename_i hx
   have : A.filter q = [] := by
    rw [List.filter_eq_nil_iff];intro y hy hq;exact h.1 y hy ⟨hx, hq⟩
   rw [this];simp
  ·exact this
theorem apart_le (L : List S72) : ∀ A : List Int, A.Pairwise (fun x y => ∀ p ∈ L, ¬ (covE p x.toNat = true ∧ covE p y.toNat = true)) → (∀ x ∈ A, ∃ p ∈ L, covE p x.toNat = true) → A.length ≤ L.length := by
 induction L with
 | nil =>
  intro A _ h;cases A with
  | nil => simp
  | cons x A =>
   obtain ⟨p, hp, _⟩ := h x (by simp)
   simp at hp
 | cons p L ih =>
  intro A h1 h2;have hA : A.length = (A.filter (fun x => covE p x.toNat)).length + (A.filter (fun x => !covE p x.toNat)).length := by
   have := List.length_eq_countP_add_countP (l := A) (fun x => covE p x.toNat)
   rw [List.countP_eq_length_filter, List.countP_eq_length_filter] at this;rw [this];congr 2
   apply List.filter_congr
   intro x _;cases covE p x.toNat <;> simp
  have ho := zz220 (fun x => covE p x.toNat) A (h1.imp (fun h => h p (by simp)))
  have hr := ih (A.filter (fun x => !covE p x.toNat)) ((h1.filter _).imp (fun h q hq => h q (by simp [hq]))) (fun x hx => by
   rw [List.mem_filter] at hx;obtain ⟨q, hq, hc⟩ := h2 x hx.1
   rw [List.mem_cons] at hq;rcases hq with rfl | hq
   ·have := hx.2
    rw [hc] at this;simp at this
   ·exact ⟨q, hq, hc⟩)
  rw [List.length_cons];omega
theorem zz222 {l : List Int} {a : Nat} (hl : l.length = 2 ^ a) (hb : ∀ x ∈ l, 0 ≤ x ∧ x ≤ 1) {p : S72} (hg : goodP l p) {x : Nat} (hx : x < 2 ^ a) (hc : covE p x = true) : rd l (x : Int) = 1 := by
 obtain ⟨m, v, _, _, rfl, himp⟩ := hg
 unfold covE at hc;rw [decide_eq_true_eq] at hc;simp only [Int.toNat_natCast] at hc;unfold impliesM at himp;rw [List.all_eq_true] at himp;have h := himp (x : Int) (mem_idxM (Nat.le_refl _) (by omega) (by omega) hc)
 unfold nz at h;rw [decide_eq_true_eq] at h;have := hb (rd l (x : Int)) (by rw [rdN (by omega)]; exact List.getElem_mem _)
 omega
theorem nRow_eq {l : List Int} {N : Nat} (hl : l.length = N) (f : Nat → Nat) (h : ∀ x, x < N → rd l (x : Int) = (f x : Int)) : nRow N f = l := by
 apply List.ext_getElem
 ·rw [zz193, hl]
 ·intro n h1 h2
  have := h n (by rw [zz193] at h1; exact h1)
  rw [rdN h2] at this;rw [this];simp [nRow]
def gs (x : Int) : Int := (x * 6364136223846793005 + 1442695040888963407) % 18446744073709551616
def itg : Nat → Int → Int
 | 0, x => x
 | n + 1, x => itg n (gs x)
def byteOf (x : Int) : Int := x / 1099511627776 % 256
theorem itg_add (m n : Nat) : ∀ x, itg (m + n) x = itg n (itg m x) := by
 induction m with
 | zero => intro x; rw [Nat.zero_add]; rfl
 | succ m ih => intro x; rw [Nat.succ_add, itg, itg, ih]
def Lin (n : Nat) (A C : Int) : Prop := ∀ x : Int, itg n x % 281474976710656 = (x * A + C) % 281474976710656
theorem Lin.one : Lin 1 6364136223846793005 1442695040888963407 := fun x => by
 show (x * 6364136223846793005 + 1442695040888963407) % 18446744073709551616 % 281474976710656 = _
 omega
theorem Lin.comp {m n : Nat} {A C B D : Int} (h : Lin m A C) (k : Lin n B D) : Lin (m + n) (A * B % 281474976710656) ((C * B + D) % 281474976710656) := fun x => by
 rw [itg_add, k, Int.add_emod, Int.mul_emod, h x, ← Int.mul_emod, ← Int.add_emod, Int.add_mul, Int.mul_assoc, Int.add_assoc];have e : x * (A * B % 281474976710656) % 281474976710656 = x * (A * B) % 281474976710656 := by rw [Int.mul_emod, Int.emod_emod, ← Int.mul_emod]
 generalize x * (A * B % 281474976710656) = p at e
 generalize x * (A * B) = q at e
 omega
def dbl : Nat → Int × Int → Int × Int
 | 0, p => p
 | n + 1, p => dbl n (p.1 * p.1 % 281474976710656, (p.2 * p.1 + p.2) % 281474976710656)
theorem Lin.dbl (e : Nat) : ∀ (n : Nat) (p : Int × Int), Lin n p.1 p.2 → Lin (n * 2 ^ e) (dbl e p).1 (dbl e p).2 := by
 induction e with
 | zero => intro n p h; rw [Nat.pow_zero, Nat.mul_one]; exact h
 | succ e ih =>
  intro n p h;have := ih (n + n) (p.1 * p.1 % 281474976710656, (p.2 * p.1 + p.2) % 281474976710656) (h.comp h)
  rw [show n * 2 ^ (e + 1) = (n + n) * 2 ^ e by rw [Nat.pow_succ, Nat.mul_comm (2 ^ e) 2, ← Nat.mul_assoc, Nat.mul_two]]
  exact this
theorem lin3 : Lin 3 115959589578997 132088203477273 := by
 have h := (Lin.one.comp Lin.one).comp Lin.one
 have e1 : (6364136223846793005 * 6364136223846793005 % 281474976710656 * 6364136223846793005 % 281474976710656 : Int) = 115959589578997 := by decide +kernel
 have e2 : (((1442695040888963407 * 6364136223846793005 + 1442695040888963407) % 281474976710656 * 6364136223846793005 + 1442695040888963407) % 281474976710656 : Int) = 132088203477273 := by decide +kernel
 rw [e1, e2] at h;exact h
theorem lin5 : Lin 5 46017728403453 84500833292787 := by
 have h := (lin3.comp Lin.one).comp Lin.one
 have e1 : (115959589578997 * 6364136223846793005 % 281474976710656 * 6364136223846793005 % 281474976710656 : Int) = 46017728403453 := by decide +kernel
 have e2 : (((132088203477273 * 6364136223846793005 + 1442695040888963407) % 281474976710656 * 6364136223846793005 + 1442695040888963407) % 281474976710656 : Int) = 84500833292787 := by decide +kernel
 rw [e1, e2] at h;exact h
theorem far3 : Lin (3 * 2 ^ 40) 48378511622145 16492674416640 := by
 have h := Lin.dbl 40 3 (115959589578997, 132088203477273) lin3
 have e : dbl 40 (115959589578997, 132088203477273) = (48378511622145, 16492674416640) := by decide +kernel
 rw [e] at h;exact h
theorem far5 : Lin (5 * 2 ^ 40) 268280837177345 27487790694400 := by
 have h := Lin.dbl 40 5 (46017728403453, 84500833292787) lin5
 have e : dbl 40 (46017728403453, 84500833292787) = (268280837177345, 27487790694400) := by decide +kernel
 rw [e] at h;exact h
theorem byte_fin : ∀ b d : Fin 256, d.1 % 2 = 1 → 2 ≤ b.1 % 24 ∨ 2 ≤ (b.1 + d.1) % 256 % 24 ∨ 2 ≤ (b.1 + 2 * d.1) % 256 % 24 := by decide +kernel
theorem byte_int (b d : Int) (hb : 0 ≤ b ∧ b < 256) (hd : d % 2 = 1) : 2 ≤ b % 24 ∨ 2 ≤ (b + d) % 256 % 24 ∨ 2 ≤ (b + 2 * d) % 256 % 24 := by
 have h := byte_fin ⟨b.toNat, by omega⟩ ⟨(d % 256).toNat, by omega⟩ (by dsimp only; omega)
 dsimp only at h
 omega
theorem zz236 (n : Nat) (A C u w : Int) (h : Lin n A C) (hA : A = 1 + 4398046511104 * u) (hC : C = 1099511627776 * w) (hw : w % 2 = 1) (y : Int) : ∃ i, i ≤ 2 ∧ 2 ≤ byteOf (itg (i * n) y) % 24 := by
 have step : ∀ y, byteOf (itg n y) = (byteOf y + (4 * u * y + w)) % 256 ∧ itg n y % 64 = y % 64 := fun y => by
  have hy := h y
  subst hA hC
  generalize itg n y = z at hy
  have e : y * (1 + 4398046511104 * u) + 1099511627776 * w = y + 1099511627776 * (4 * u * y + w) := by
   rw [Int.mul_add, Int.mul_one, Int.mul_add];have : y * (4398046511104 * u) = 1099511627776 * (4 * u * y) := by
    rw [Int.mul_left_comm y, Int.mul_comm y u, show (4398046511104 : Int) = 1099511627776 * 4 from rfl, Int.mul_assoc, Int.mul_assoc 4 u y]
   omega
  rw [e] at hy;generalize 4 * u * y + w = d at hy
  unfold byteOf;omega
 have hb : 0 ≤ byteOf y ∧ byteOf y < 256 := by unfold byteOf; omega
 have s1 := step y
 have s2 := step (itg n y)
 have d1 : (4 * u * y + w) % 2 = 1 := by rw [Int.mul_assoc 4]; generalize u * y = q; omega
 have d2 : (4 * u * itg n y + w) % 256 = (4 * u * y + w) % 256 := by
  have := s1.2
  have e : 4 * u * itg n y = 4 * (u * itg n y) := Int.mul_assoc _ _ _
  have e' : 4 * u * y = 4 * (u * y) := Int.mul_assoc _ _ _
  have e2 : (u * itg n y) % 64 = (u * y) % 64 := by rw [Int.mul_emod, this, ← Int.mul_emod]
  rw [e, e'];omega
 rcases byte_int (byteOf y) (4 * u * y + w) hb d1 with c | c | c
 ·exact ⟨0, by omega, by rw [Nat.zero_mul]; exact c⟩
 ·exact ⟨1, by omega, by rw [Nat.one_mul, s1.1]; exact c⟩
 ·refine ⟨2, by omega, ?_⟩
  rw [Nat.two_mul, itg_add, s2.1, s1.1];generalize 4 * u * itg n y + w = q at d2
  omega
theorem good3 (y : Int) : ∃ K, K ≤ 4398046511104 ∧ 2 ≤ byteOf (itg (3 * K) y) % 24 := by
 obtain ⟨i, hi, h⟩ := zz236 _ _ _ 11 15 far3 (by rfl) (by rfl) (by rfl) y
 exact ⟨i * 2 ^ 40, by omega, by rw [show 3 * (i * 2 ^ 40) = i * (3 * 2 ^ 40) by rw [Nat.mul_left_comm]]; exact h⟩
theorem good5 (y : Int) : ∃ K, K ≤ 4398046511104 ∧ 2 ≤ byteOf (itg (5 * K) y) % 24 := by
 obtain ⟨i, hi, h⟩ := zz236 _ _ _ 61 25 far5 (by rfl) (by rfl) (by rfl) y
 exact ⟨i * 2 ^ 40, by omega, by rw [show 5 * (i * 2 ^ 40) = i * (5 * 2 ^ 40) by rw [Nat.mul_left_comm]]; exact h⟩
theorem rd_mem {ds : List Int} {i : Int} (h0 : 0 ≤ i) (h1 : i < ds.length) : rd ds i ∈ ds := by
 obtain ⟨n, rfl⟩ := nat_of h0
 have hn : n < ds.length := by omega
 rw [rdN hn];exact List.getElem_mem hn
def bytesOk (code : List Int) : Prop := code.length ≤ 140737488355328 ∧ ∀ x ∈ code, 0 ≤ x ∧ x ≤ 255
theorem bits255 (y : Int) : 0 ≤ wrap64 (Go.bits .and .u64 y 255) ∧ wrap64 (Go.bits .and .u64 y 255) ≤ 255 := by
 show 0 ≤ wrap64 (IntKind.u64.wrap ((BitVec.ofInt 64 y &&& BitVec.ofInt 64 255).toNat : Int)) ∧ wrap64 (IntKind.u64.wrap ((BitVec.ofInt 64 y &&& BitVec.ofInt 64 255).toNat : Int)) ≤ 255
 have h : (BitVec.ofInt 64 y &&& BitVec.ofInt 64 255).toNat ≤ 255 := by
  rw [BitVec.toNat_and];exact Nat.le_trans Nat.and_le_right (by decide)
 generalize (BitVec.ofInt 64 y &&& BitVec.ofInt 64 255).toNat = m at h
 rw [u64w (by omega) (by omega), w64 (n := (m : Int)) (by omega) (by omega)]
 omega
theorem next_ok {code : List Int} (hc : bytesOk code) (at_ mix : Int) (h0 : 0 ≤ at_) (h1 : at_ ≤ 4000000000000000000) : ∃ r m, spec_l1Cur_next.f code at_ mix = some (r, at_ + 1, m) ∧ 0 ≤ r ∧ r ≤ 255 := by
 unfold spec_l1Cur_next.f;rw [w64 (n := at_ + 1) (by omega) (by omega)]
 by_cases c1 : at_ < (code.length : Int)
 ·have hm := hc.2 (rd code at_) (rd_mem h0 c1)
  rw [if_pos c1, if_pos h0, if_pos (by omega), w64 (n := rd code at_) (by omega) (by omega)]
  exact ⟨_, _, rfl, hm.1, hm.2⟩
 ·rw [if_neg c1, if_neg (by omega)]
  exact ⟨_, _, rfl, (bits255 _).1, (bits255 _).2⟩
theorem pick_ok {code : List Int} (hc : bytesOk code) (at_ mix n : Int) (h0 : 0 ≤ at_) (h1 : at_ ≤ 3999999999999999990) : ∃ r a m, spec_l1Cur_pick.f code at_ mix n = some (r, a, m) ∧ (at_ ≤ a ∧ a ≤ at_ + 2) ∧ 0 ≤ r ∧ (r = 0 ∨ r < n) := by
 unfold spec_l1Cur_pick.f;by_cases c : n ≤ 1
 ·rw [if_pos c]
  exact ⟨0, at_, mix, rfl, by omega, by omega, .inl rfl⟩
 ·rw [if_neg c]
  obtain ⟨r, m, e, hr0, hr1⟩ := next_ok hc at_ mix h0 (by omega)
  rw [e, Option.bind_some];by_cases c2 : n > 200
  ·obtain ⟨r2, m2, e2, hs0, hs1⟩ := next_ok hc (at_ + 1) m (by omega) (by omega)
   rw [if_pos c2, e2, Option.bind_some, if_neg (by omega)]
   dsimp only;rw [w64 (n := r * 256) (by omega) (by omega), w64 (n := r * 256 + r2) (by omega) (by omega)]
   exact ⟨_, _, _, rfl, by omega, Int.tmod_nonneg _ (by omega), .inr (Int.tmod_lt_of_pos _ (by omega))⟩
  ·rw [if_neg c2, if_neg (by omega)]
   dsimp only;exact ⟨_, _, _, rfl, by omega, Int.tmod_nonneg _ (by omega), .inr (Int.tmod_lt_of_pos _ (by omega))⟩
theorem among_ok {code : List Int} (hc : bytesOk code) (at_ mix : Int) (l : List Int) (hl : 0 < l.length) (h0 : 0 ≤ at_) (h1 : at_ ≤ 3999999999999999990) : ∃ r a m, spec_l1Cur_among.f code at_ mix l = some (r, a, m) ∧ (at_ ≤ a ∧ a ≤ at_ + 2) ∧ r ∈ l := by
 unfold spec_l1Cur_among.f;obtain ⟨r, a, m, e, ha, hr0, hr1⟩ := pick_ok hc at_ mix (l.length : Int) h0 h1
 have hr2 : r < (l.length : Int) := by omega
 rw [e, Option.bind_some];dsimp only;rw [if_pos hr0, if_pos hr2];exact ⟨_, _, _, rfl, ha, rd_mem hr0 hr2⟩
theorem one_ok {code : List Int} (hc : bytesOk code) (at_ mix n : Int) (h0 : 0 ≤ at_) (h1 : at_ ≤ 3999999999999999990) : ∃ r a m, spec_l1Cur_one.f code at_ mix n = some (r, a, m) ∧ (at_ ≤ a ∧ a ≤ at_ + 2) := by
 unfold spec_l1Cur_one.f;obtain ⟨r, a, m, e, ha, _⟩ := pick_ok hc at_ mix n h0 h1
 rw [e, Option.bind_some];exact ⟨_, _, _, rfl, ha⟩
theorem bytes_of {l : List Int} (h1 : l.length * 1 ≤ 140737488351232) (h2 : ∀ x ∈ l, (Lit.int .u8 x).wf = true) : bytesOk l := by
 refine ⟨by omega, fun x hx => ?_⟩
 have := h2 x hx
 simp [Lit.wf, IntKind.min, IntKind.max, IntKind.bits, IntKind.signed] at this
 omega
theorem zz247 (a n : Nat) (ha : a < 2 ^ 62) (hn : n ≤ 62) : spec_ttBit.f (a : Int) (n : Int) = some (((a >>> n) % 2 : Nat) : Int) := by
 unfold spec_ttBit.f;rw [u64w (by omega) (by omega), if_pos (by omega), bit_and1 a n ha hn]
theorem zz248 (a i : Nat) (ha : a ≤ 4) (hi : i < 16) (c : List Int) (at_ m n : Int) (xs : List Int) (hx : xs.length ≤ 1000) (d : Nat) : ∀ (s j : Nat), j + d = a → s ≤ j →
  ∃ b : Int, ∀ v, Ev (fun k => spec_l1Cur_tableOf.l0 k a 8 (wrap64 ((i : Int) + 1)) c at_ m n (xs ++ [b])) v → Ev (fun k => spec_l1Cur_tableOf.l1 k a 8 i s j c at_ m n xs) v := by
 induction d with
 | zero =>
  intro s j hj hs;refine ⟨Int.tmod (wrap64 (Int.tdiv (s : Int) 2)) 2, fun v hv => ?_⟩
  apply ev_up;simp only [spec_l1Cur_tableOf.l1];exact ev_n (by omega) (ev_p (by omega) hv)
 | succ d ih =>
  intro s j hj hs;obtain ⟨b, hb⟩ := ih (s + (i >>> j) % 2) (j + 1) (by omega) (by omega)
  refine ⟨b, fun v hv => ?_⟩
  apply ev_up;simp only [spec_l1Cur_tableOf.l1];refine ev_p (by omega) ?_
  rw [zz247 i j (by omega) (by omega)]
  refine Ev.bind (ev_c rfl) ?_
  rw [wN (m := s + (i >>> j) % 2) (by push_cast; rfl) (by omega), wN (m := j + 1) (by push_cast; rfl) (by omega)]
  exact hb v hv
theorem zz249 {c : List Int} (hc : bytesOk c) (a : Nat) (ha : a ≤ 4) (x6 n : Int) (d : Nat) : ∀ (i : Nat) (at_ m : Int) (xs : List Int), i + d = 2 ^ a → 0 ≤ at_ → at_ + 2 * d ≤ 999000000 → xs.length = i →
  ∃ ys a' m', Ev (fun k => spec_l1Cur_tableOf.l0 k a x6 i c at_ m n xs) (n, ys, a', m') ∧ (at_ ≤ a' ∧ a' ≤ at_ + 2 * d) ∧ ys.length = 2 ^ a := by
 have h8 : 2 ^ a ≤ 2 ^ 4 := Nat.pow_le_pow_right (by decide) ha
 induction d with
 | zero =>
  intro i at_ m xs hi h0 h1 hx;refine ⟨xs, at_, m, ?_, by omega, by omega⟩
  apply ev_up;simp only [spec_l1Cur_tableOf.l0];rw [u64w (by omega) (by omega), shl1 a (by omega)]
  exact ev_p (by omega) (ev_n (by omega) (Ev.now _))
 | succ d ih =>
  intro i at_ m xs hi h0 h1 hx;by_cases c8 : x6 = 8
  ·subst c8
   obtain ⟨b, hb⟩ := zz248 a i ha (by omega) c at_ m n xs (by omega) a 0 0 (by omega) (by omega)
   obtain ⟨ys, a', m', e, hr, hl⟩ := ih (i + 1) at_ m (xs ++ [b]) (by omega) h0 (by omega) (by simp; omega)
   refine ⟨ys, a', m', ?_, by omega, hl⟩
   apply ev_up;simp only [spec_l1Cur_tableOf.l0];rw [u64w (by omega) (by omega), shl1 a (by omega)]
   refine ev_p (by omega) (ev_p (by omega) (ev_p (by trivial) (hb _ ?_)))
   rw [wN (m := i + 1) (by push_cast; rfl) (by omega)]
   exact e
  ·obtain ⟨b, a1, m1, e1, ha1⟩ := one_ok hc at_ m x6 h0 (by omega)
   cases b with
   | true =>
    obtain ⟨ys, a', m', e, hr, hl⟩ := ih (i + 1) a1 m1 (xs ++ [1]) (by omega) (by omega) (by omega) (by simp; omega)
    refine ⟨ys, a', m', ?_, by omega, hl⟩
    apply ev_up;simp only [spec_l1Cur_tableOf.l0];rw [u64w (by omega) (by omega), shl1 a (by omega), e1, wN (m := i + 1) (by push_cast; rfl) (by omega)]
    exact ev_p (by omega) (ev_p (by omega) (ev_n c8 (Ev.bind (ev_c rfl) (ev_p rfl (ev_p (by omega) e)))))
   | false =>
    obtain ⟨ys, a', m', e, hr, hl⟩ := ih (i + 1) a1 m1 (xs ++ [0]) (by omega) (by omega) (by omega) (by simp; omega)
    refine ⟨ys, a', m', ?_, by omega, hl⟩
    apply ev_up;simp only [spec_l1Cur_tableOf.l0];rw [u64w (by omega) (by omega), shl1 a (by omega), e1, wN (m := i + 1) (by push_cast; rfl) (by omega)]
    exact ev_p (by omega) (ev_p (by omega) (ev_n c8 (Ev.bind (ev_c rfl) (ev_n (by simp) (ev_p (by omega) e)))))
theorem zz250 {c : List Int} (hc : bytesOk c) (a : Nat) (ha : a ≤ 4) (at_ m : Int) (h0 : 0 ≤ at_) (h1 : at_ ≤ 900000000) : ∃ ys a' m', Ev (fun k => spec_l1Cur_tableOf.f k c at_ m a) ((a : Int), ys, a', m') ∧ (at_ ≤ a' ∧ a' ≤ at_ + 40) ∧ ys.length = 2 ^ a := by
 have h8 : 2 ^ a ≤ 2 ^ 4 := Nat.pow_le_pow_right (by decide) ha
 obtain ⟨x6, a1, m1, e1, ha1, _⟩ := among_ok hc at_ m [2, 2, 4, 8] (by simp) h0 (by omega)
 obtain ⟨ys, a', m', e, hr, hl⟩ := zz249 hc a ha x6 a (2 ^ a) 0 a1 m1 [] (by omega) (by omega) (by omega) rfl
 refine ⟨ys, a', m', ?_, by omega, hl⟩
 unfold spec_l1Cur_tableOf.f;rw [e1];exact Ev.bind (ev_c rfl) e
theorem table_ok {c : List Int} (hc : bytesOk c) (at_ m : Int) (h0 : 0 ≤ at_) (h1 : at_ ≤ 800000000) : ∃ (a : Nat) (ys : List Int) (a' m' : Int), Ev (fun k => spec_l1Cur_table.f k c at_ m) ((a : Int), ys, a', m') ∧ (at_ ≤ a' ∧ a' ≤ at_ + 50) ∧ ys.length = 2 ^ a ∧ a ≤ 4 := by
 obtain ⟨r, a1, m1, e1, ha1, hr⟩ := among_ok hc at_ m [0, 1, 2, 2, 3, 3, 4] (by simp) h0 (by omega)
 obtain ⟨a, rfl, ha⟩ : ∃ a : Nat, r = a ∧ a ≤ 4 := by
  have : 0 ≤ r ∧ r ≤ 4 := by simp at hr; omega
  exact ⟨r.toNat, by omega, by omega⟩
 obtain ⟨ys, a', m', e, hr2, hl⟩ := zz250 hc a ha a1 m1 (by omega) (by omega)
 refine ⟨a, ys, a', m', ?_, by omega, hl, ha⟩
 unfold spec_l1Cur_table.f;rw [e1];exact Ev.bind (ev_c rfl) (Ev.bind e (Ev.now _))
theorem zz252 {c : List Int} (hc : bytesOk c) (at_ m : Int) (h0 : 0 ≤ at_) (h1 : at_ ≤ 700000000) : ∃ (n : Int) (ys : List Int) (a' m' : Int), Ev (fun k => spec_l1Cur_anyTable.f k c at_ m) (n, ys, a', m') ∧ (at_ ≤ a' ∧ a' ≤ at_ + 60) ∧ ys.length ≤ 32 ∧ -1 ≤ n ∧ n ≤ 5 := by
 obtain ⟨a, ys, a1, m1, e1, ha1, hl, ha⟩ := table_ok hc at_ m h0 (by omega)
 have h8 : 2 ^ a ≤ 2 ^ 4 := Nat.pow_le_pow_right (by decide) ha
 have h9 := Nat.two_pow_pos a
 obtain ⟨p, a2, m2, e2, ha2, _⟩ := pick_ok hc a1 m1 30 (by omega) (by omega)
 by_cases c0 : p = 0
 ·obtain ⟨q, a3, m3, e3, ha3, hq⟩ := among_ok hc a2 m2 [-1, wrap64 ((a : Int) + 1)] (by simp) (by omega) (by omega)
  have hq2 : -1 ≤ q ∧ q ≤ 5 := by
   rw [w64 (n := (a : Int) + 1) (by omega) (by omega)] at hq
   simp at hq
   omega
  refine ⟨q, ys, a3, m3, ?_, by omega, by omega, hq2.1, hq2.2⟩
  unfold spec_l1Cur_anyTable.f;refine Ev.bind e1 ?_
  dsimp only;rw [e2];refine Ev.bind (ev_c rfl) (ev_p c0 ?_)
  dsimp only;rw [e3];exact Ev.bind (ev_c rfl) (Ev.now _)
 by_cases c1 : p = 1
 ·obtain ⟨i, a3, m3, e3, ha3, hi0, hi1⟩ := pick_ok hc a2 m2 (ys.length : Int) (by omega) (by omega)
  obtain ⟨q, a4, m4, e4, ha4, hq⟩ := among_ok hc a3 m3 [-1, 2] (by simp) (by omega) (by omega)
  refine ⟨a, ys.set i.toNat q, a4, m4, ?_, by omega, by rw [List.length_set]; omega, by omega, by omega⟩
  unfold spec_l1Cur_anyTable.f;refine Ev.bind e1 ?_
  dsimp only;rw [e2];refine Ev.bind (ev_c rfl) (ev_n c0 (ev_p c1 ?_))
  dsimp only;rw [e3];refine Ev.bind (ev_c rfl) ?_
  dsimp only;rw [e4];exact Ev.bind (ev_c rfl) (ev_p hi0 (ev_p (by omega) (Ev.now _)))
 by_cases c2 : p = 2
 ·refine ⟨a, ys.drop (1 : Int).toNat, a2, m2, ?_, by omega, by rw [List.length_drop]; omega, by omega, by omega⟩
  unfold spec_l1Cur_anyTable.f;refine Ev.bind e1 ?_
  dsimp only;rw [e2];exact Ev.bind (ev_c rfl) (ev_n c0 (ev_n c1 (ev_p c2 (ev_p (by omega) (Ev.now _)))))
 by_cases c3 : p = 3
 ·refine ⟨5, List.replicate 32 0, a2, m2, ?_, by omega, by rw [List.length_replicate]; omega, by omega, by omega⟩
  unfold spec_l1Cur_anyTable.f;refine Ev.bind e1 ?_
  dsimp only;rw [e2];exact Ev.bind (ev_c rfl) (ev_n c0 (ev_n c1 (ev_n c2 (ev_p c3 (ev_p (by omega) (Ev.now _))))))
 ·refine ⟨a, ys, a2, m2, ?_, by omega, by omega, by omega, by omega⟩
  unfold spec_l1Cur_anyTable.f;refine Ev.bind e1 ?_
  dsimp only;rw [e2];exact Ev.bind (ev_c rfl) (ev_n c0 (ev_n c1 (ev_n c2 (ev_n c3 (Ev.now _)))))
theorem zz253 {c : List Int} (hc : bytesOk c) : ∃ (n : Int) (ys : List Int), Ev (fun k => spec_DrawPrimeTerms.f k c) (n, ys) ∧ ys.length ≤ 32 ∧ -1 ≤ n ∧ n ≤ 5 := by
 obtain ⟨n, ys, a', m', e, _, hl, hn⟩ := zz252 hc 0 0 (by omega) (by omega)
 refine ⟨n, ys, ?_, hl, hn⟩
 unfold spec_DrawPrimeTerms.f;exact Ev.bind e (Ev.now _)
theorem clamp_eq (n : Int) : ∃ t : Nat, t ≤ 4 ∧ ((spec_l1Least.f n 4).bind fun x => spec_l1Most.f 0 x) = some (t : Int) := by
 unfold spec_l1Least.f spec_l1Most.f;by_cases c : n < 4
 ·rw [if_pos c, Option.bind_some]
  by_cases c2 : 0 > n
  ·rw [if_pos c2]
   exact ⟨0, by omega, rfl⟩
  ·rw [if_neg c2]
   exact ⟨n.toNat, by omega, by congr 1; omega⟩
 ·rw [if_neg c, Option.bind_some, if_neg (by omega)]
  exact ⟨4, by omega, rfl⟩
theorem zz255 {c : List Int} (hc : bytesOk c) (at_ m n : Int) (h0 : 0 ≤ at_) (h1 : at_ ≤ 3000000000000000000) : ∃ x y a' m', spec_l1Cur_termOf.f c at_ m n = some (x, y, a', m') ∧ (at_ ≤ a' ∧ a' ≤ at_ + 10) ∧ I64 x ∧ I64 y := by
 unfold spec_l1Cur_termOf.f;obtain ⟨t, ht, e⟩ := clamp_eq n
 obtain ⟨u, hu⟩ : ∃ u, spec_l1Least.f n 4 = some u := by
  unfold spec_l1Least.f;split <;> exact ⟨_, rfl⟩
 rw [hu, Option.bind_some] at e;rw [hu, Option.bind_some, e, Option.bind_some, u64w (by omega) (by omega), if_pos (by omega), shl1 t (by omega)]
 have h8 : 2 ^ t ≤ 2 ^ 4 := Nat.pow_le_pow_right (by decide) ht
 have h9 := Nat.two_pow_pos t
 obtain ⟨b, a1, m1, e1, ha1, hb0, hb1⟩ := pick_ok hc at_ m ((2 ^ t : Nat) : Int) h0 (by omega)
 rw [e1, Option.bind_some];dsimp only;obtain ⟨d, a2, m2, e2, ha2, hd0, hd1⟩ := pick_ok hc a1 m1 ((2 ^ t : Nat) : Int) (by omega) (by omega)
 rw [e2, Option.bind_some];dsimp only;obtain ⟨s, a3, m3, e3, ha3, _⟩ := pick_ok hc a2 m2 24 (by omega) (by omega)
 rw [e3, Option.bind_some];dsimp only;have hand : I64 (Go.bits .and .i64 b d) := by
  obtain ⟨b', rfl⟩ := nat_of hb0
  obtain ⟨d', rfl⟩ := nat_of hd0
  rw [andN b' d' (by omega) (by omega)]
  have : b' &&& d' ≤ b' := Nat.and_le_left
  unfold I64;omega
 have hbI : I64 b := by unfold I64; omega
 by_cases c0 : s = 0
 ·rw [if_pos c0]
  obtain ⟨q, a4, m4, e4, ha4, hq⟩ := among_ok hc a3 m3 [-1, ((2 ^ t : Nat) : Int)] (by simp) (by omega) (by omega)
  rw [e4, Option.bind_some];refine ⟨_, _, _, _, rfl, by dsimp only; omega, ?_, hand⟩
  rw [List.mem_cons, List.mem_singleton] at hq;unfold I64;omega
 rw [if_neg c0];by_cases c1 : s = 1
 ·rw [if_pos c1]
  obtain ⟨q, a4, m4, e4, ha4, hq⟩ := among_ok hc a3 m3 [-1, wrap64 (b + 1), wrap64 (((2 ^ t : Nat) : Int) - 1)] (by simp) (by omega) (by omega)
  rw [e4, Option.bind_some];refine ⟨_, _, _, _, rfl, by dsimp only; omega, hbI, ?_⟩
  rw [w64 (n := b + 1) (by omega) (by omega), w64 (n := ((2 ^ t : Nat) : Int) - 1) (by omega) (by omega), List.mem_cons, List.mem_cons, List.mem_singleton] at hq
  unfold I64;omega
 ·rw [if_neg c1]
  exact ⟨_, _, _, _, rfl, by omega, hbI, hand⟩
theorem zz256 {c : List Int} (hc : bytesOk c) (at_ m : Int) (h0 : 0 ≤ at_) (h1 : at_ ≤ 3000000000000000000) : ∃ n a' m', spec_l1Cur_inputCount.f c at_ m = some (n, a', m') ∧ (at_ ≤ a' ∧ a' ≤ at_ + 4) ∧ -1 ≤ n ∧ n ≤ 5 := by
 unfold spec_l1Cur_inputCount.f;obtain ⟨q, a1, m1, e1, ha1, hq⟩ := among_ok hc at_ m [-1, 5] (by simp) h0 (by omega)
 rw [e1, Option.bind_some];dsimp only;obtain ⟨n, a2, m2, e2, ha2, hn⟩ := among_ok hc a1 m1 [0, 1, 2, 3, 3, 4, 4, q] (by simp) (by omega) (by omega)
 rw [e2, Option.bind_some];refine ⟨n, a2, m2, rfl, by omega, ?_⟩
 rw [List.mem_cons, List.mem_singleton] at hq;simp only [List.mem_cons, List.not_mem_nil, or_false] at hn;omega
theorem u64mod (x : Int) : IntKind.u64.wrap x = x % 18446744073709551616 := by
 simp [IntKind.wrap, IntKind.bits, IntKind.signed]
theorem byte_eq (q : Int) (h0 : 0 ≤ q) (h1 : q ≤ 18446744073709551615) : wrap64 (Go.bits .and .u64 q 255) = q % 256 := by
 obtain ⟨n, rfl⟩ := nat_of h0
 show wrap64 (IntKind.u64.wrap ((BitVec.ofInt 64 (n : Int) &&& BitVec.ofInt 64 255).toNat : Int)) = _
 have e : (BitVec.ofInt 64 (n : Int) &&& BitVec.ofInt 64 255).toNat = n % 256 := by
  rw [BitVec.toNat_and, BitVec.ofInt_natCast, BitVec.toNat_ofNat, Nat.mod_eq_of_lt (by omega)]
  exact Nat.and_two_pow_sub_one_eq_mod n 8
 rw [e, u64mod, w64 (by omega) (by omega)]
 omega
theorem next_far {c : List Int} (at_ m : Int) (h0 : 0 ≤ at_) (h1 : at_ ≤ 4000000000000000000) (hf : (c.length : Int) ≤ at_) : spec_l1Cur_next.f c at_ m = some (byteOf (gs m), at_ + 1, gs m) := by
 unfold spec_l1Cur_next.f;rw [w64 (n := at_ + 1) (by omega) (by omega), if_neg (by omega), if_neg (by omega)]
 have e : IntKind.u64.wrap ((IntKind.u64.wrap (IntKind.u64.wrap (m * 6364136223846793005))) + 1442695040888963407) = gs m := by
  rw [u64mod, u64mod, u64mod];unfold gs;omega
 rw [e, byte_eq _ (by unfold gs; omega) (by unfold gs; omega)]
 rfl
theorem pick_far {c : List Int} (at_ m n : Int) (h0 : 0 ≤ at_) (h1 : at_ ≤ 4000000000000000000) (hf : (c.length : Int) ≤ at_) (h2 : 1 < n) (h3 : n ≤ 200) : spec_l1Cur_pick.f c at_ m n = some (byteOf (gs m) % n, at_ + 1, gs m) := by
 unfold spec_l1Cur_pick.f;rw [if_neg (by omega), next_far at_ m h0 h1 hf, Option.bind_some, if_neg (by omega), if_neg (by omega)]
 dsimp only;rw [Int.tmod_eq_emod_of_nonneg (by unfold byteOf; omega)]
theorem zz261 {c : List Int} (at_ m : Int) (l : List Int) (h0 : 0 ≤ at_) (h1 : at_ ≤ 4000000000000000000) (hf : (c.length : Int) ≤ at_) (h2 : 1 < l.length) (h3 : l.length ≤ 200) : ∃ r, spec_l1Cur_among.f c at_ m l = some (r, at_ + 1, gs m) := by
 unfold spec_l1Cur_among.f;rw [pick_far at_ m _ h0 h1 hf (by omega) (by omega), Option.bind_some]
 dsimp only;rw [if_pos (Int.emod_nonneg _ (by omega)), if_pos (Int.emod_lt_of_pos _ (by omega))]
 exact ⟨_, rfl⟩
theorem tail_far {c : List Int} (b d p q z at_ m : Int) (h0 : 0 ≤ at_) (h1 : at_ ≤ 3900000000000000000) (hf : (c.length : Int) ≤ at_) : ∃ (x y : Int) (e : Nat), e ≤ 1 ∧ (byteOf (gs m) % 24 < 2 → e = 1) ∧ (2 ≤ byteOf (gs m) % 24 → x = b ∧ y = d) ∧
  ((spec_l1Cur_pick.f c at_ m 24).bind fun bt => if bt.1 = 0 then (spec_l1Cur_among.f c bt.2.1 bt.2.2 [-1, p]).bind fun bu => some (bu.1, d, bu.2.1, bu.2.2) else if bt.1 = 1 then (spec_l1Cur_among.f c bt.2.1 bt.2.2 [-1, q, z]).bind fun bu => some (b, bu.1, bu.2.1, bu.2.2) else some (b, d, bt.2.1, bt.2.2)) = some (x, y, at_ + 1 + e, itg (1 + e) m) := by
 rw [pick_far at_ m 24 h0 (by omega) hf (by omega) (by omega), Option.bind_some]
 dsimp only;by_cases c0 : byteOf (gs m) % 24 = 0
 ·rw [if_pos c0]
  obtain ⟨r, e⟩ := zz261 (c := c) (at_ + 1) (gs m) [-1, p] (by omega) (by omega) (by omega) (by simp) (by simp)
  rw [e, Option.bind_some];exact ⟨r, d, 1, by omega, fun _ => rfl, fun h => by omega, rfl⟩
 rw [if_neg c0];by_cases c1 : byteOf (gs m) % 24 = 1
 ·rw [if_pos c1]
  obtain ⟨r, e⟩ := zz261 (c := c) (at_ + 1) (gs m) [-1, q, z] (by omega) (by omega) (by omega) (by simp) (by simp)
  rw [e, Option.bind_some];exact ⟨b, r, 1, by omega, fun _ => rfl, fun h => by omega, rfl⟩
 ·rw [if_neg c1]
  refine ⟨b, d, 0, by omega, fun h => ?_, fun _ => ⟨rfl, rfl⟩, ?_⟩
  ·have : 0 ≤ byteOf (gs m) % 24 := Int.emod_nonneg _ (by omega)
   omega
  ·rw [show at_ + 1 + ((0 : Nat) : Int) = at_ + 1 by omega]
   rfl
theorem zz263 {c : List Int} (t : Nat) (ht : t ≤ 4) (at_ m : Int) (h0 : 0 ≤ at_) (h1 : at_ ≤ 3000000000000000000) (hf : (c.length : Int) ≤ at_) (o : Nat) (ho : o = if t = 0 then 1 else 3) : ∃ (x y : Int) (e : Nat), e ≤ 1 ∧ (byteOf (itg o m) % 24 < 2 → e = 1) ∧ (2 ≤ byteOf (itg o m) % 24 → isTermM (t : Int) x y = true) ∧
  spec_l1Cur_termOf.f c at_ m t = some (x, y, at_ + o + e, itg (o + e) m) := by
 have h8 : 2 ^ t ≤ 2 ^ 4 := Nat.pow_le_pow_right (by decide) ht
 have h9 := Nat.two_pow_pos t
 have e1 : spec_l1Least.f (t : Int) 4 = some (t : Int) := by
  unfold spec_l1Least.f;split
  ·rfl
  ·congr 1; omega
 have e2 : spec_l1Most.f 0 (t : Int) = some (t : Int) := by
  unfold spec_l1Most.f;rw [if_neg (by omega)]
 have main : ∀ (b d at2 m2 : Int), 0 ≤ b → b < ((2 ^ t : Nat) : Int) → 0 ≤ d → d < 16 → 0 ≤ at2 → at2 ≤ 3900000000000000000 → (c.length : Int) ≤ at2 → ∃ (x y : Int) (e : Nat), e ≤ 1 ∧ (byteOf (gs m2) % 24 < 2 → e = 1) ∧ (2 ≤ byteOf (gs m2) % 24 → isTermM (t : Int) x y = true) ∧
   ((spec_l1Cur_pick.f c at2 m2 24).bind fun bt305 => (if bt305.1 = 0 then ((spec_l1Cur_among.f c bt305.2.1 bt305.2.2 (([(-1), ((2 ^ t : Nat) : Int)] : List Int))).bind fun bt311 => (some (bt311.1, Go.bits .and .i64 b d, bt311.2.1, bt311.2.2))) else (if bt305.1 = 1 then ((spec_l1Cur_among.f c bt305.2.1 bt305.2.2 (([(-1), wrap64 (b + 1), wrap64 (((2 ^ t : Nat) : Int) - 1)] : List Int))).bind fun bt317 => (some (b, bt317.1, bt317.2.1, bt317.2.2))) else (some (b, Go.bits .and .i64 b d, bt305.2.1, bt305.2.2))))) = some (x, y, at2 + 1 + e, itg (1 + e) m2) := by
  intro b d at2 m2 hb0 hb1 hd0 hd1 ha0 ha1 ha2;obtain ⟨B, rfl⟩ := nat_of hb0
  obtain ⟨D, rfl⟩ := nat_of hd0
  rw [andN B D (by omega) (by omega)]
  obtain ⟨x, y, e, he, h2, h3, h4⟩ := tail_far (c := c) (B : Int) ((B &&& D : Nat) : Int) ((2 ^ t : Nat) : Int) (wrap64 ((B : Int) + 1)) (wrap64 (((2 ^ t : Nat) : Int) - 1)) at2 m2 ha0 ha1 ha2
  refine ⟨x, y, e, he, h2, fun h => ?_, h4⟩
  obtain ⟨rfl, rfl⟩ := h3 h
  exact nat_term ht (by omega) (by rw [Nat.and_comm B D, Nat.and_assoc, Nat.and_self])
 unfold spec_l1Cur_termOf.f;rw [e1, Option.bind_some, e2, Option.bind_some, u64w (by omega) (by omega), if_pos (by omega), shl1 t (by omega)]
 by_cases ct : t = 0
 ·subst ct
  rw [if_pos rfl] at ho;subst ho;have hp : ∀ a m, spec_l1Cur_pick.f c a m ((2 ^ 0 : Nat) : Int) = some (0, a, m) := fun a m => by
   unfold spec_l1Cur_pick.f;rw [if_pos (by decide)]
  rw [hp, Option.bind_some];dsimp only;rw [hp, Option.bind_some];obtain ⟨x, y, e, he, h2, h3, h4⟩ := main 0 0 at_ m (by omega) (by decide) (by omega) (by omega) h0 (by omega) hf
  exact ⟨x, y, e, he, h2, h3, h4⟩
 ·rw [if_neg ct] at ho
  subst ho;have hp2 : 2 ^ 1 ≤ 2 ^ t := Nat.pow_le_pow_right (by decide) (by omega)
  rw [pick_far at_ m _ h0 (by omega) hf (by omega) (by omega), Option.bind_some]
  dsimp only;rw [pick_far (at_ + 1) (gs m) _ (by omega) (by omega) (by omega) (by omega) (by omega), Option.bind_some]
  have hb0 := Int.emod_nonneg (byteOf (gs m)) (b := ((2 ^ t : Nat) : Int)) (by omega)
  have hb1 := Int.emod_lt_of_pos (byteOf (gs m)) (b := ((2 ^ t : Nat) : Int)) (by omega)
  have hd0 := Int.emod_nonneg (byteOf (gs (gs m))) (b := ((2 ^ t : Nat) : Int)) (by omega)
  have hd1 := Int.emod_lt_of_pos (byteOf (gs (gs m))) (b := ((2 ^ t : Nat) : Int)) (by omega)
  obtain ⟨x, y, e, he, h2, h3, h4⟩ := main _ _ (at_ + 1 + 1) (gs (gs m)) hb0 hb1 hd0 (by omega) (by omega) (by omega) (by omega)
  refine ⟨x, y, e, he, h2, h3, ?_⟩
  dsimp only;rw [h4];rw [show at_ + 1 + 1 + 1 + (e : Int) = at_ + ((3 : Nat) : Int) + e by omega, show 3 + e = 2 + (1 + e) by omega, itg_add 2 (1 + e)]
  rfl
section
variable {c : List Int} (hc : bytesOk c) (hcl : c.length ≤ 1048576) (n goal : Int) (hgoal : goal ≤ 17)
theorem one4_adv (hc : bytesOk c) (at_ m : Int) (h0 : 0 ≤ at_) (h1 : at_ ≤ 3900000000000000000) : ∃ b m', spec_l1Cur_one.f c at_ m 4 = some (b, at_ + 1, m') := by
 unfold spec_l1Cur_one.f spec_l1Cur_pick.f;obtain ⟨r, m1, e, _⟩ := next_ok hc at_ m h0 (by omega)
 rw [if_neg (by omega), e, Option.bind_some, if_neg (by omega), if_neg (by omega), Option.bind_some]
 exact ⟨_, _, rfl⟩
theorem zz265 (hc : bytesOk c) (hgoal : goal ≤ 17) (at_ m : Int) (h0 : 0 ≤ at_) (h1 : at_ ≤ 3000000000000000000) (xs : List S72) (hx : (xs.length : Int) < goal) (x y a1 m1 : Int) (e1 : spec_l1Cur_termOf.f c at_ m n = some (x, y, a1, m1)) (hy : I64 y) (ha : at_ ≤ a1 ∧ a1 ≤ at_ + 10) :
  (∃ a' m', (at_ ≤ a' ∧ a' ≤ at_ + 12) ∧ ∀ v, Ev (fun k => spec_DrawSumTable.l0 k n (xs ++ [⟨x, y⟩]) goal c a' m') v → Ev (fun k => spec_DrawSumTable.l0 k n xs goal c at_ m) v) ∨
  (isTermM n x y = false ∧ (0 ≤ n ∧ n ≤ 4) ∧ ∃ b m', spec_l1Cur_one.f c a1 m1 4 = some (b, a1 + 1, m') ∧ ∀ v, Ev (fun k => spec_DrawSumTable.l0 k n xs goal c (a1 + 1) m') v → Ev (fun k => spec_DrawSumTable.l0 k n xs goal c at_ m) v) := by
 have hn := zz208 n x y hy
 by_cases ht : isTermM n x y = true
 ·left
  refine ⟨a1, m1, by omega, fun v hv => ?_⟩
  apply ev_up;simp only [spec_DrawSumTable.l0];refine ev_p hx ?_
  rw [e1];refine Ev.bind (ev_c rfl) ?_
  dsimp only;rw [hn];exact Ev.bind (ev_c rfl) (ev_p ht (ev_p (by omega) hv))
 have hf : isTermM n x y = false := by simpa using ht
 obtain ⟨b, m2, e2⟩ := one4_adv hc a1 m1 (by omega) (by omega)
 cases b with
 | true =>
  left
  refine ⟨a1 + 1, m2, by omega, fun v hv => ?_⟩
  apply ev_up;simp only [spec_DrawSumTable.l0];refine ev_p hx ?_
  rw [e1];refine Ev.bind (ev_c rfl) ?_
  dsimp only;rw [hn];refine Ev.bind (ev_c rfl) (ev_n ht ?_)
  rw [e2];exact Ev.bind (ev_c rfl) (ev_p rfl (ev_p (by omega) hv))
 | false =>
  by_cases hi : 0 ≤ n ∧ n ≤ 4
  ·right
   refine ⟨hf, hi, false, m2, e2, fun v hv => ?_⟩
   apply ev_up;simp only [spec_DrawSumTable.l0];refine ev_p hx ?_
   rw [e1];refine Ev.bind (ev_c rfl) ?_
   dsimp only;rw [hn];refine Ev.bind (ev_c rfl) (ev_n ht ?_)
   rw [e2];refine Ev.bind (ev_c rfl) (ev_n (by simp) ?_)
   rw [zz139];exact Ev.bind (ev_c rfl) (ev_p (decide_eq_true hi) hv)
  ·left
   refine ⟨a1 + 1, m2, by omega, fun v hv => ?_⟩
   apply ev_up;simp only [spec_DrawSumTable.l0];refine ev_p hx ?_
   rw [e1];refine Ev.bind (ev_c rfl) ?_
   dsimp only;rw [hn];refine Ev.bind (ev_c rfl) (ev_n ht ?_)
   rw [e2];refine Ev.bind (ev_c rfl) (ev_n (by simp) ?_)
   rw [zz139];exact Ev.bind (ev_c rfl) (ev_n (by simpa using hi) (ev_p (by omega) hv))
theorem far_add (hc : bytesOk c) (hgoal : goal ≤ 17) (xs : List S72) (hx : (xs.length : Int) < goal) (o : Nat) (ho : o = if n.toNat = 0 then 1 else 3) (K : Nat) : ∀ (at_ m : Int), 0 ≤ at_ → at_ + 20 * K ≤ 2900000000000000000 → (c.length : Int) ≤ at_ → 2 ≤ byteOf (itg o (itg ((o + 2) * K) m)) % 24 →
  ∃ x y a' m', (I64 x ∧ I64 y) ∧ (at_ ≤ a' ∧ a' ≤ at_ + 20 * K + 12) ∧ ∀ v, Ev (fun k => spec_DrawSumTable.l0 k n (xs ++ [⟨x, y⟩]) goal c a' m') v → Ev (fun k => spec_DrawSumTable.l0 k n xs goal c at_ m) v := by
 induction K with
 | zero =>
  intro at_ m h0 h1 hf hb;obtain ⟨x, y, a1, m1, e1, ha1, hxI, hyI⟩ := zz255 hc at_ m n h0 (by omega)
  rcases zz265 n goal hc hgoal at_ m h0 (by omega) xs hx x y a1 m1 e1 hyI ha1 with ⟨a', m', h2, h3⟩ | ⟨ht, hn, _⟩
  ·exact ⟨x, y, a', m', ⟨hxI, hyI⟩, by omega, h3⟩
  ·obtain ⟨t, rfl⟩ := nat_of hn.1
   obtain ⟨x2, y2, e, he, g1, g2, g3⟩ := zz263 (c := c) t (by omega) at_ m h0 (by omega) hf o (by rw [ho]; rfl)
   rw [e1] at g3;obtain ⟨rfl, rfl, _⟩ : x = x2 ∧ y = y2 ∧ True := by injection g3 with g3; injection g3 with g4 g3; injection g3 with g5 g3; exact ⟨g4, g5, trivial⟩
   rw [g2 hb] at ht;simp at ht
 | succ K ih =>
  intro at_ m h0 h1 hf hb;obtain ⟨x, y, a1, m1, e1, ha1, hxI, hyI⟩ := zz255 hc at_ m n h0 (by omega)
  rcases zz265 n goal hc hgoal at_ m h0 (by omega) xs hx x y a1 m1 e1 hyI ha1 with ⟨a', m', h2, h3⟩ | ⟨ht, hn, b, m2, e2, h3⟩
  ·exact ⟨x, y, a', m', ⟨hxI, hyI⟩, by omega, h3⟩
  ·obtain ⟨t, rfl⟩ := nat_of hn.1
   obtain ⟨x2, y2, e, he, g1, g2, g3⟩ := zz263 (c := c) t (by omega) at_ m h0 (by omega) hf o (by rw [ho]; rfl)
   rw [e1] at g3;injection g3 with g3
   injection g3 with g4 g3
   injection g3 with g5 g3
   injection g3 with g6 g7
   subst g4 g5 g6 g7
   have hb2 : byteOf (itg o m) % 24 < 2 := by
    by_cases q : 2 ≤ byteOf (itg o m) % 24
    ·rw [g2 q] at ht
     simp at ht
    ·omega
   have he1 := g1 hb2
   subst he1;have ho3 : o ≤ 3 := by rw [ho]; split <;> omega
   have e3 : spec_l1Cur_one.f c (at_ + o + ((1 : Nat) : Int)) (itg (o + 1) m) 4 = some ((byteOf (gs (itg (o + 1) m)) % 4 == 0), at_ + o + ((1 : Nat) : Int) + 1, gs (itg (o + 1) m)) := by
    unfold spec_l1Cur_one.f;rw [pick_far _ _ 4 (by omega) (by omega) (by omega) (by omega) (by omega), Option.bind_some]
   rw [e3] at e2;injection e2 with e2
   injection e2 with _ e2
   injection e2 with _ e4
   subst e4;have hs : gs (itg (o + 1) m) = itg (o + 2) m := by
    rw [show o + 2 = (o + 1) + 1 by omega, itg_add (o + 1) 1]
    rfl
   rw [hs] at h3;obtain ⟨x', y', a', m', hI, h4, h5⟩ := ih (at_ + o + ((1 : Nat) : Int) + 1) (itg (o + 2) m) (by omega) (by omega) (by omega) (by
    rw [← itg_add (o + 2) ((o + 2) * K), show o + 2 + (o + 2) * K = (o + 2) * (K + 1) by rw [Nat.mul_succ]; omega]
    exact hb)
   exact ⟨x', y', a', m', hI, by omega, fun v hv => h3 v (h5 v hv)⟩
theorem far_any (hc : bytesOk c) (hgoal : goal ≤ 17) (xs : List S72) (hx : (xs.length : Int) < goal) (at_ m : Int) (h0 : 0 ≤ at_) (h1 : at_ ≤ 2000000000000000000) (hf : (c.length : Int) ≤ at_) :
  ∃ x y a' m', (I64 x ∧ I64 y) ∧ (at_ ≤ a' ∧ a' ≤ at_ + 100000000000000) ∧ ∀ v, Ev (fun k => spec_DrawSumTable.l0 k n (xs ++ [⟨x, y⟩]) goal c a' m') v → Ev (fun k => spec_DrawSumTable.l0 k n xs goal c at_ m) v := by
 by_cases ct : n.toNat = 0
 ·obtain ⟨K, hK, hb⟩ := good3 (itg 1 m)
  obtain ⟨x, y, a', m', hI, h2, h3⟩ := far_add n goal hc hgoal xs hx 1 (by rw [if_pos ct]) K at_ m h0 (by omega) hf (by
   rw [← itg_add] at hb ⊢
   rw [show (1 + 2) * K + 1 = 1 + 3 * K by omega]
   exact hb)
  exact ⟨x, y, a', m', hI, by omega, h3⟩
 ·obtain ⟨K, hK, hb⟩ := good5 (itg 3 m)
  obtain ⟨x, y, a', m', hI, h2, h3⟩ := far_add n goal hc hgoal xs hx 3 (by rw [if_neg ct]) K at_ m h0 (by omega) hf (by
   rw [← itg_add] at hb ⊢
   rw [show (3 + 2) * K + 3 = 3 + 5 * K by omega]
   exact hb)
  exact ⟨x, y, a', m', hI, by omega, h3⟩
theorem near_any (hc : bytesOk c) (hgoal : goal ≤ 17) (xs : List S72) (hx : (xs.length : Int) < goal) (D : Nat) : ∀ (at_ m : Int), 0 ≤ at_ → at_ ≤ 1900000000000000000 → (c.length : Int) ≤ at_ + D → D ≤ 140737488355328 →
  ∃ x y a' m', (I64 x ∧ I64 y) ∧ (at_ ≤ a' ∧ a' ≤ at_ + 20 * D + 200000000000000) ∧ ∀ v, Ev (fun k => spec_DrawSumTable.l0 k n (xs ++ [⟨x, y⟩]) goal c a' m') v → Ev (fun k => spec_DrawSumTable.l0 k n xs goal c at_ m) v := by
 induction D with
 | zero =>
  intro at_ m h0 h1 hf _;obtain ⟨x, y, a', m', hI, h2, h3⟩ := far_any n goal hc hgoal xs hx at_ m h0 (by omega) (by omega)
  exact ⟨x, y, a', m', hI, by omega, h3⟩
 | succ D ih =>
  intro at_ m h0 h1 hf hD;obtain ⟨x, y, a1, m1, e1, ha1, hxI, hyI⟩ := zz255 hc at_ m n h0 (by omega)
  rcases zz265 n goal hc hgoal at_ m h0 (by omega) xs hx x y a1 m1 e1 hyI ha1 with ⟨a', m', h2, h3⟩ | ⟨ht, hn, b, m2, e2, h3⟩
  ·exact ⟨x, y, a', m', ⟨hxI, hyI⟩, by omega, h3⟩
  ·by_cases hbig : (c.length : Int) ≤ a1 + 1
   ·obtain ⟨x', y', a', m', hI, h4, h5⟩ := far_any n goal hc hgoal xs hx (a1 + 1) m2 (by omega) (by omega) hbig
    exact ⟨x', y', a', m', hI, by omega, fun v hv => h3 v (h5 v hv)⟩
   ·obtain ⟨x', y', a', m', hI, h4, h5⟩ := ih (a1 + 1) m2 (by omega) (by have := hc.1; omega) (by omega) (by omega)
    exact ⟨x', y', a', m', hI, by omega, fun v hv => h3 v (h5 v hv)⟩
theorem sums_all (hc : bytesOk c) (hgoal : goal ≤ 17) (d : Nat) : ∀ (xs : List S72) (at_ m : Int), goal ≤ xs.length + d → d ≤ 17 → xs.length ≤ 17 → 0 ≤ at_ → at_ + 6000000000000000 * d ≤ 1800000000000000000 → (∀ x ∈ xs, I64 x.f0 ∧ I64 x.f1) →
  ∃ ys, Ev (fun k => spec_DrawSumTable.l0 k n xs goal c at_ m) (n, ys) ∧ ys.length ≤ 17 ∧ ∀ x ∈ ys, I64 x.f0 ∧ I64 x.f1 := by
 induction d with
 | zero =>
  intro xs at_ m h1 _ h2 h3 h4 h5;refine ⟨xs, ?_, h2, h5⟩
  apply ev_up;simp only [spec_DrawSumTable.l0];exact ev_n (by omega) (Ev.now _)
 | succ d ih =>
  intro xs at_ m h1 hd h2 h3 h4 h5;by_cases hx : (xs.length : Int) < goal
  ·have hl := hc.1
   obtain ⟨x, y, a', m', hI, h6, h7⟩ := near_any n goal hc hgoal xs hx 140737488355328 at_ m h3 (by omega) (by omega) (by omega)
   obtain ⟨ys, e, h8, h9⟩ := ih (xs ++ [⟨x, y⟩]) a' m' (by simp; omega) (by omega) (by simp; omega) (by omega) (by omega) (fun z hz => by
    rw [List.mem_append, List.mem_singleton] at hz;rcases hz with hz | rfl
    ·exact h5 z hz
    ·exact hI)
   exact ⟨ys, h7 _ e, h8, h9⟩
  ·refine ⟨xs, ?_, h2, h5⟩
   apply ev_up;simp only [spec_DrawSumTable.l0];exact ev_n hx (Ev.now _)
end
theorem zz270 {c : List Int} (hc : bytesOk c) : ∃ n ys, Ev (fun k => spec_DrawSumTable.f k c) (n, ys) ∧ ys.length ≤ 17 ∧ (∀ x ∈ ys, I64 x.f0 ∧ I64 x.f1) ∧ -1 ≤ n ∧ n ≤ 5 := by
 obtain ⟨n, a1, m1, e1, ha1, hn⟩ := zz256 hc 0 0 (by omega) (by omega)
 obtain ⟨g, a2, m2, e2, ha2, hg0, hg1⟩ := pick_ok hc a1 m1 5 (by omega) (by omega)
 obtain ⟨b, a3, m3, e3, ha3⟩ := one_ok hc a2 m2 20 (by omega) (by omega)
 cases b with
 | false =>
  obtain ⟨ys, e, h1, h2⟩ := sums_all (c := c) n g hc (by omega) 17 [] a3 m3 (by simp; omega) (by omega) (by simp) (by omega) (by omega) (by simp)
  refine ⟨n, ys, ?_, h1, h2, hn⟩
  unfold spec_DrawSumTable.f;rw [e1];refine Ev.bind (ev_c rfl) ?_
  dsimp only;rw [e2];refine Ev.bind (ev_c rfl) ?_
  dsimp only;rw [e3];refine Ev.bind (ev_c rfl) (ev_n (by simp) ?_)
  apply ev_up;simp only [spec_DrawSumTable.j0];exact e
 | true =>
  obtain ⟨q, a4, m4, e4, ha4, hq0, hq1⟩ := pick_ok hc a3 m3 2 (by omega) (by omega)
  obtain ⟨ys, e, h1, h2⟩ := sums_all (c := c) n (16 + q) hc (by omega) 17 [] a4 m4 (by simp; omega) (by omega) (by simp) (by omega) (by omega) (by simp)
  refine ⟨n, ys, ?_, h1, h2, hn⟩
  unfold spec_DrawSumTable.f;rw [e1];refine Ev.bind (ev_c rfl) ?_
  dsimp only;rw [e2];refine Ev.bind (ev_c rfl) ?_
  dsimp only;rw [e3];refine Ev.bind (ev_c rfl) (ev_p rfl ?_)
  dsimp only;rw [e4];refine Ev.bind (ev_c rfl) ?_
  dsimp only;rw [w64 (n := 16 + q) (by omega) (by omega)]
  apply ev_up;simp only [spec_DrawSumTable.j0];exact e
theorem zz271 (l : List S72) (hl : l.length ≤ 9223372036854775806) (r : List S72) : ∀ (p : List S72) (i : Int), i = p.length → l = p ++ r → Ev (fun k => laws_qTerms.l0 k l l l.length i) true := by
 induction r with
 | nil =>
  intro p i hi e;have hlen : l.length = p.length := by rw [e]; simp
  apply ev_up;simp only [laws_qTerms.l0];exact ev_n (by omega) (Ev.now _)
 | cons x r ih =>
  intro p i hi e;have hlen : l.length = p.length + r.length + 1 := by rw [e]; simp; omega
  have ih' := ih (p ++ [x]) (i + 1) (by simp; omega) (by rw [e]; simp)
  apply ev_up;simp only [laws_qTerms.l0];refine ev_p (by omega) (ev_p (by omega) (ev_p (by omega) (ev_p (by omega) (ev_n (by simp) ?_))))
  rw [w64 (n := i + 1) (by omega) (by omega)]
  exact ih'
theorem zz272 (l : List S72) (hl : l.length ≤ 9223372036854775806) : Ev (fun k => laws_qTerms.f k l l) true := by
 unfold laws_qTerms.f;exact ev_p rfl (zz271 l hl l [] 0 rfl rfl)
theorem qInts_l0 (l : List Int) (hl : l.length ≤ 9223372036854775806) (r : List Int) : ∀ (p : List Int) (i : Int), i = p.length → l = p ++ r → Ev (fun k => laws_qInts.l0 k l l l.length i) true := by
 induction r with
 | nil =>
  intro p i hi e;have hlen : l.length = p.length := by rw [e]; simp
  apply ev_up;simp only [laws_qInts.l0];exact ev_n (by omega) (Ev.now _)
 | cons x r ih =>
  intro p i hi e;have hlen : l.length = p.length + r.length + 1 := by rw [e]; simp; omega
  have ih' := ih (p ++ [x]) (i + 1) (by simp; omega) (by rw [e]; simp)
  apply ev_up;simp only [laws_qInts.l0];refine ev_p (by omega) (ev_p (by omega) (ev_p (by omega) (ev_p (by omega) (ev_p (by trivial) ?_))))
  rw [w64 (n := i + 1) (by omega) (by omega)]
  exact ih'
theorem zz274 (l : List Int) (hl : l.length ≤ 9223372036854775806) : Ev (fun k => laws_qInts.f k l l) true := by
 unfold laws_qInts.f;exact ev_p rfl (qInts_l0 l hl l [] 0 rfl rfl)
def zz275 (n : Int) (l : List Int) : List S72 × Bool := if tableM n l = true then (masksM l n.toNat 0 (2 ^ n.toNat), true) else ([], false)
theorem zz276 (n : Int) (l : List Int) (hl : l.length ≤ 9223372036854775807) : Ev (fun k => spec_PrimeTerms.f k n l) (zz275 n l) := by
 unfold spec_PrimeTerms.f zz275;refine Ev.bind (zz142 n l hl) (ev_ite (fun h => ?_) (fun h => ?_))
 ·rw [if_pos h]
  obtain ⟨a, rfl, ha, hla, hl16, _⟩ := zz141 h
  exact Ev.bind (zz112 a l ha hla hl16) (Ev.now _)
 ·rw [if_neg h]
  exact Ev.now _
theorem qSum_l0 (l : List Int) (hl : l.length ≤ 16) (hb : ∀ x ∈ l, 0 ≤ x ∧ x ≤ 1) (r : List Int) : ∀ (p : List Int) (i acc : Int), i = p.length → l = p ++ r → 0 ≤ acc → acc ≤ i → ∃ s : Int, Ev (fun k => laws_qSum.l0 k acc l l.length i) s ∧ acc ≤ s ∧ (s = 0 ↔ acc = 0 ∧ ∀ x ∈ r, x = 0) := by
 induction r with
 | nil =>
  intro p i acc hi e h0 h1;have hlen : l.length = p.length := by rw [e]; simp
  refine ⟨acc, ?_, by omega, by simp⟩
  apply ev_up;simp only [laws_qSum.l0];exact ev_n (by omega) (Ev.now _)
 | cons x r ih =>
  intro p i acc hi e h0 h1;have hlen : l.length = p.length + r.length + 1 := by rw [e]; simp; omega
  have hx : rd l i = x := by rw [e]; exact rdA hi
  have hxb := hb x (by rw [e]; simp)
  obtain ⟨s, e1, h2, h3⟩ := ih (p ++ [x]) (i + 1) (acc + x) (by simp; omega) (by rw [e]; simp) (by omega) (by omega)
  refine ⟨s, ?_, by omega, ?_⟩
  ·apply ev_up
   simp only [laws_qSum.l0];rw [hx, w64 (n := i + 1) (by omega) (by omega), w64 (n := acc + x) (by omega) (by omega)]
   exact ev_p (by omega) (ev_p (by omega) (ev_p (by omega) e1))
  ·rw [h3, List.forall_mem_cons]
   constructor
   ·rintro ⟨h4, h5⟩
    exact ⟨by omega, by omega, h5⟩
   ·rintro ⟨h4, h5, h6⟩
    exact ⟨by omega, h6⟩
theorem zz278 (n : Int) (l : List Int) (hl : l.length ≤ 9223372036854775806) : Ev (fun k => laws_qTable.f k n l n l) true := by
 unfold laws_qTable.f;exact ev_p rfl (Ev.bind (zz274 l hl) (Ev.now _))
noncomputable instance : DecidableEq S72 := fun _ _ => Classical.propDecidable _
theorem term_eq (x y : S72) : (x.f0 == y.f0 && (x.f1 == y.f1)) = decide (x = y) := by
 cases x with
 | mk x0 x1 =>
 cases y with
 | mk y0 y1 =>
 rw [Bool.eq_iff_iff, Bool.and_eq_true, beq_iff_eq, beq_iff_eq, decide_eq_true_eq];dsimp only;constructor
 ·rintro ⟨rfl, rfl⟩; rfl
 ·intro h; cases h; exact ⟨rfl, rfl⟩
section
variable (n : Int) (l : List Int) (A : List Int) (ps L es : List S72)
theorem zz280 (x y : Int) (i j : Int) (cur : List Int) (lenA lenC : Int) (hps : ps.length ≤ 1000) (hap : ∀ p ∈ ps, Go.bits .and .i64 x p.f0 = p.f1 → Go.bits .and .i64 y p.f0 = p.f1 → False)
  (hn : Ev (fun k => laws_FnLeastSums.l6 k A ps x A lenA i cur lenC (wrap64 (j + 1)) n l) true) (r : List S72) : ∀ (p : List S72) (q : Int), q = p.length → ps = p ++ r →
  Ev (fun k => laws_FnLeastSums.l7 k A ps x y A lenA i cur lenC j ps ps.length q n l) true := by
 induction r with
 | nil =>
  intro p q hq e;have hlen : ps.length = p.length := by rw [e]; simp
  apply ev_up;simp only [laws_FnLeastSums.l7];exact ev_n (by omega) hn
 | cons z r ih =>
  intro p q hq e;have hlen : ps.length = p.length + r.length + 1 := by rw [e]; simp; omega
  have hz : rd_T72 ps q = z := by rw [e]; exact rdTermA hq
  have ih' := ih (p ++ [z]) (q + 1) (by simp; omega) (by rw [e]; simp)
  have hz2 := hap z (by rw [e]; simp)
  apply ev_up;simp only [laws_FnLeastSums.l7];rw [w64 (n := q + 1) (by omega) (by omega), hz]
  refine ev_p (by omega) (ev_p (by omega) (ev_p (by omega) (ev_ite (fun h1 => ev_n (fun h2 => hz2 h1 h2) ih') (fun _ => ih'))))
theorem zz281 (x : Int) (i : Int) (lenA : Int) (cur : List Int) (hcl : cur.length ≤ 1000) (hps : ps.length ≤ 1000) (hap : ∀ y ∈ cur, ∀ p ∈ ps, Go.bits .and .i64 x p.f0 = p.f1 → Go.bits .and .i64 y p.f0 = p.f1 → False)
  (hn : Ev (fun k => laws_FnLeastSums.l5 k A ps A lenA (wrap64 (i + 1)) n l) true) (r : List Int) : ∀ (p : List Int) (j : Int), j = p.length → cur = p ++ r →
  Ev (fun k => laws_FnLeastSums.l6 k A ps x A lenA i cur cur.length j n l) true := by
 induction r with
 | nil =>
  intro p j hj e;have hlen : cur.length = p.length := by rw [e]; simp
  apply ev_up;simp only [laws_FnLeastSums.l6];exact ev_n (by omega) hn
 | cons y r ih =>
  intro p j hj e;have hlen : cur.length = p.length + r.length + 1 := by rw [e]; simp; omega
  have hy : rd cur j = y := by rw [e]; exact rdA hj
  have ih' := ih (p ++ [y]) (j + 1) (by simp; omega) (by rw [e]; simp)
  apply ev_up;simp only [laws_FnLeastSums.l6];rw [hy];refine ev_p (by omega) (ev_p (by omega) (ev_p (by omega) ?_))
  exact zz280 n l A ps x y i j cur lenA cur.length hps (hap y (by rw [e]; simp)) (by rw [w64 (n := j + 1) (by omega) (by omega)]; exact ih') ps [] 0 rfl rfl
theorem zz282 (hA : A.length ≤ 1000) (hps : ps.length ≤ 1000) (hAb : ∀ y ∈ A, (0 ≤ y ∧ y < l.length) ∧ rd l y = 1) (hap : A.Pairwise (fun y x => ∀ p ∈ ps, Go.bits .and .i64 x p.f0 = p.f1 → Go.bits .and .i64 y p.f0 = p.f1 → False)) (r : List Int) : ∀ (p : List Int) (i : Int), i = p.length → A = p ++ r →
  Ev (fun k => laws_FnLeastSums.l5 k A ps A A.length i n l) true := by
 induction r with
 | nil =>
  intro p i hi e;have hlen : A.length = p.length := by rw [e]; simp
  apply ev_up;simp only [laws_FnLeastSums.l5];exact ev_n (by omega) (Ev.now _)
 | cons x r ih =>
  intro p i hi e;have hlen : A.length = p.length + r.length + 1 := by rw [e]; simp; omega
  have hx : rd A i = x := by rw [e]; exact rdA hi
  have ih' := ih (p ++ [x]) (i + 1) (by simp; omega) (by rw [e]; simp)
  obtain ⟨⟨hx0, hx1⟩, hx2⟩ := hAb x (by rw [e]; simp)
  have htk : A.take i.toNat = p := by rw [hi, Int.toNat_natCast, e]; simp
  have hp2 : ∀ y ∈ p, ∀ q ∈ ps, Go.bits .and .i64 x q.f0 = q.f1 → Go.bits .and .i64 y q.f0 = q.f1 → False := fun y hy => by
   rw [e, List.pairwise_append] at hap;exact hap.2.2 y hy x (by simp)
  apply ev_up;simp only [laws_FnLeastSums.l5];rw [hx, htk];refine ev_p (by omega) (ev_p (by omega) (ev_p (by omega) (ev_n (by omega) (ev_n (by omega) (ev_p hx0 (ev_p hx1 (ev_p hx2 (ev_p (by omega) (Ev.bind (ev_c rfl) ?_)))))))))
  exact zz281 n l A ps x i A.length p (by omega) hps hp2 (by rw [w64 (n := i + 1) (by omega) (by omega)]; exact ih') p [] 0 rfl rfl
theorem zz283 (i len : Int) (x : S72) (hps : ps.length ≤ 1000) (hn : Ev (fun k => laws_FnLeastSums.l3 k A ps L len (wrap64 (i + 1)) n l) true) (r : List S72) : ∀ (p : List S72) (j : Int) (found : Bool), j = p.length → ps = p ++ r → (found = true ∨ x ∈ r) →
  Ev (fun k => laws_FnLeastSums.l4 k A ps found L len i ps ps.length j n l x.f0 x.f1) true := by
 induction r with
 | nil =>
  intro p j found hj e h;have hlen : ps.length = p.length := by rw [e]; simp
  apply ev_up;simp only [laws_FnLeastSums.l4];exact ev_n (by omega) (ev_p (by simpa using h) hn)
 | cons y r ih =>
  intro p j found hj e h;have hlen : ps.length = p.length + r.length + 1 := by rw [e]; simp; omega
  have hy : rd_T72 ps j = y := by rw [e]; exact rdTermA hj
  have ih' := fun f hf => ih (p ++ [y]) (j + 1) f (by simp; omega) (by rw [e]; simp) hf
  apply ev_up;simp only [laws_FnLeastSums.l4];rw [w64 (n := j + 1) (by omega) (by omega), hy, term_eq]
  refine ev_p (by omega) (ev_p (by omega) (ev_p (by omega) (ev_ite (fun hf => ih' true (Or.inl rfl)) (fun hf => ih' _ ?_))))
  rcases h with h | h
  ·exact absurd h hf
  ·rw [List.mem_cons] at h
   rw [decide_eq_true_eq];exact h
theorem zz284 (hL : L.length ≤ 1000) (hps : ps.length ≤ 1000) (hsub : ∀ x ∈ L, x ∈ ps) (hn : Ev (fun k => laws_FnLeastSums.l5 k A ps A A.length 0 n l) true) (r : List S72) : ∀ (p : List S72) (i : Int), i = p.length → L = p ++ r →
  Ev (fun k => laws_FnLeastSums.l3 k A ps L L.length i n l) true := by
 induction r with
 | nil =>
  intro p i hi e;have hlen : L.length = p.length := by rw [e]; simp
  apply ev_up;simp only [laws_FnLeastSums.l3];exact ev_n (by omega) hn
 | cons x r ih =>
  intro p i hi e;have hlen : L.length = p.length + r.length + 1 := by rw [e]; simp; omega
  have hx : rd_T72 L i = x := by rw [e]; exact rdTermA hi
  have ih' := ih (p ++ [x]) (i + 1) (by simp; omega) (by rw [e]; simp)
  apply ev_up;simp only [laws_FnLeastSums.l3];rw [hx];refine ev_p (by omega) (ev_p (by omega) (ev_p (by omega) ?_))
  exact zz283 n l A ps L i L.length x hps (by rw [w64 (n := i + 1) (by omega) (by omega)]; exact ih') ps [] 0 false rfl rfl (Or.inr (hsub x (by rw [e]; simp)))
theorem zz285 (i len : Int) (x : S72) (hL : L.length ≤ 1000) (hn : Ev (fun k => laws_FnLeastSums.l1 k L A ps es len (wrap64 (i + 1)) n l) true) (r : List S72) : ∀ (p : List S72) (j : Int) (found : Bool), j = p.length → L = p ++ r → (found = true ∨ x ∈ r) →
  Ev (fun k => laws_FnLeastSums.l2 k L A ps found es len i L L.length j n l x.f0 x.f1) true := by
 induction r with
 | nil =>
  intro p j found hj e h;have hlen : L.length = p.length := by rw [e]; simp
  apply ev_up;simp only [laws_FnLeastSums.l2];exact ev_n (by omega) (ev_p (by simpa using h) hn)
 | cons y r ih =>
  intro p j found hj e h;have hlen : L.length = p.length + r.length + 1 := by rw [e]; simp; omega
  have hy : rd_T72 L j = y := by rw [e]; exact rdTermA hj
  have ih' := fun f hf => ih (p ++ [y]) (j + 1) f (by simp; omega) (by rw [e]; simp) hf
  apply ev_up;simp only [laws_FnLeastSums.l2];rw [w64 (n := j + 1) (by omega) (by omega), hy, term_eq]
  refine ev_p (by omega) (ev_p (by omega) (ev_p (by omega) (ev_ite (fun hf => ih' true (Or.inl rfl)) (fun hf => ih' _ ?_))))
  rcases h with h | h
  ·exact absurd h hf
  ·rw [List.mem_cons] at h
   rw [decide_eq_true_eq];exact h
theorem zz286 (hes : es.length ≤ 1000) (hL : L.length ≤ 1000) (hsub : ∀ x ∈ es, x ∈ L) (hn : Ev (fun k => laws_FnLeastSums.l3 k A ps L L.length 0 n l) true) (r : List S72) : ∀ (p : List S72) (i : Int), i = p.length → es = p ++ r →
  Ev (fun k => laws_FnLeastSums.l1 k L A ps es es.length i n l) true := by
 induction r with
 | nil =>
  intro p i hi e;have hlen : es.length = p.length := by rw [e]; simp
  apply ev_up;simp only [laws_FnLeastSums.l1];exact ev_n (by omega) hn
 | cons x r ih =>
  intro p i hi e;have hlen : es.length = p.length + r.length + 1 := by rw [e]; simp; omega
  have hx : rd_T72 es i = x := by rw [e]; exact rdTermA hi
  have ih' := ih (p ++ [x]) (i + 1) (by simp; omega) (by rw [e]; simp)
  apply ev_up;simp only [laws_FnLeastSums.l1];rw [hx];refine ev_p (by omega) (ev_p (by omega) (ev_p (by omega) ?_))
  exact zz285 n l A ps L es i es.length x hL (by rw [w64 (n := i + 1) (by omega) (by omega)]; exact ih') L [] 0 false rfl rfl (Or.inr (hsub x (by rw [e]; simp)))
end
theorem zz287 (n : Int) (l : List Int) (hl : l.length ≤ 32) : Ev (fun k => laws_FnLeastSums.j1 k (zz146 n l).1 (zz146 n l).2 (zz146 n l).1 (zz174 n l).1 (zz170 n l).1 n l) true := by
 apply ev_up;simp only [laws_FnLeastSums.j1];by_cases hg : tableM n l = true
 ·have hg' := hg
  obtain ⟨a, rfl, ha, hla, hl16, hbits⟩ := zz141 hg
  have h8 : 2 ^ a ≤ 2 ^ 4 := Nat.pow_le_pow_right (by decide) ha
  have e1 : zz146 (a : Int) l = ((leastRes l a).1, true) := by unfold zz146; rw [if_pos hg, Int.toNat_natCast]
  have e2 : zz174 (a : Int) l = ((leastRes l a).2, true) := by unfold zz174; rw [if_pos hg, Int.toNat_natCast]
  have e3 : zz170 (a : Int) l = (apartM (masksM l a 0 (2 ^ a)) (onesF l 0 (2 ^ a)) [], true) := by unfold zz170; rw [if_pos hg, Int.toNat_natCast]
  have e4 : zz275 (a : Int) l = (masksM l a 0 (2 ^ a), true) := by unfold zz275; rw [if_pos hg, Int.toNat_natCast]
  have e5 : zz179 (a : Int) l = (essL a (masksM l a 0 (2 ^ a)) (masksM l a 0 (2 ^ a)) 0, true) := by unfold zz179; rw [if_pos hg, Int.toNat_natCast]
  have hpr := zz276 (a : Int) l (by omega)
  have hes := zz180 (a : Int) l (by omega)
  rw [e4] at hpr;rw [e5] at hes;rw [e1, e2, e3];obtain ⟨hpl, hpg⟩ := zz95 ha l
  have hel := zz57 a (masksM l a 0 (2 ^ a)) (masksM l a 0 (2 ^ a)) 0
  have hso := zz185 l a (2 ^ a) 0
  have hmem := zz183 l a (2 ^ a) 0
  obtain ⟨k1, k2, k3, k4, k5⟩ := least_ok l a ha hla
  have hal : ∀ i x, (masksM l a 0 (2 ^ a))[i]? = some x → _ := fun i x hx => zz189 (a := a) hso (i := i) (x := x) hx
  have hesub : ∀ x ∈ essL a (masksM l a 0 (2 ^ a)) (masksM l a 0 (2 ^ a)) 0, ∃ i, (masksM l a 0 (2 ^ a))[i]? = some x := fun x hx => by
   obtain ⟨j, hj, _⟩ := (essL_mem a _ x _ 0).1 hx
   exact ⟨j, hj⟩
  have ha1 := fun y hy => (zz218 (masksM l a 0 (2 ^ a)) (onesF l 0 (2 ^ a)) [] y hy).1
  have ha2 := zz219 (masksM l a 0 (2 ^ a)) (onesF l 0 (2 ^ a)) []
  have ha3 := zz71 (masksM l a 0 (2 ^ a)) (onesF l 0 (2 ^ a)) []
  have ha4 := zz73 l (2 ^ a) 0
  have ha5 := zz74 l (2 ^ a) 0
  have ha6 := zz79 l (2 ^ a) 0
  dsimp only;generalize (leastRes l a).1 = L at k1 k2 k3 k4 k5
  generalize (leastRes l a).2 = C at k2
  generalize masksM l a 0 (2 ^ a) = ps at hpr hes hpl hpg hel hso hmem hal hesub ha1 ha2 ha3 k3
  generalize essL a ps ps 0 = es at hes hel hal hesub
  generalize onesF l 0 (2 ^ a) = ones at ha1 ha2 ha3 ha4 ha5 ha6
  generalize apartM ps ones [] = A at ha1 ha2 ha3
  have hok : ∀ x ∈ L, okTerm (a : Int) x = true ∧ I64 x.f0 ∧ I64 x.f1 := fun x hx => by
   obtain ⟨m, v, _, h1, h2, h3, h4, _⟩ := hmem x (k3 x hx)
   rw [h3];unfold okTerm I64;exact ⟨nat_term ha (by omega) h4, by dsimp only; omega, by dsimp only; omega⟩
  have hsum := zz207 (a : Int) L (by omega) (fun x hx => (hok x hx).2)
  have hnr : nRow (2 ^ a) (sumF L) = l := nRow_eq hla _ (fun x hx => by
   have hb := hbits (rd l (x : Int)) (by rw [rdN (by omega)]; exact List.getElem_mem _)
   unfold sumF;by_cases c : L.any (fun p => covB p x) = true
   ·rw [if_pos c]
    obtain ⟨p, hp, hc⟩ := List.any_eq_true.1 c
    have := zz222 hla hbits (hpg p (k3 p hp)) hx hc
    omega
   ·rw [if_neg c]
    have : rd l (x : Int) ≠ 1 := fun h1 => by
     obtain ⟨p, hp, hc⟩ := k4 x hx h1
     exact c (List.any_eq_true.2 ⟨p, hp, hc⟩)
    omega)
  have hst : zz200 (a : Int) L = ((a : Int), l, true) := by
   unfold zz200;rw [if_pos ⟨by omega, by omega, k1, List.all_eq_true.2 (fun x hx => (hok x hx).1)⟩, Int.toNat_natCast, hnr]
  rw [hst] at hsum;have hAone : ∀ y ∈ A, ∃ x : Nat, y = x ∧ x < 2 ^ a ∧ rd l (x : Int) = 1 := fun y hy => by
   have h1 := ha5 y (ha1 y hy)
   have h2 := ha6 y (ha1 y hy)
   exact ⟨y.toNat, by omega, by omega, by rw [show ((y.toNat : Nat) : Int) = y by omega]; exact h2⟩
  have hnear : ∀ x y : Int, nearB ps x.toNat y.toNat = false → ∀ p ∈ ps, ¬ (covE p x.toNat = true ∧ covE p y.toNat = true) := fun x y h p hp hc => by
   unfold nearB at h;rw [List.any_eq_false] at h;exact h p hp (by rw [hc.1, hc.2]; rfl)
  have hAL : A.length ≤ L.length := apart_le L A (ha2.imp (fun h p hp => hnear _ _ h p (k3 p hp))) (fun y hy => by
   obtain ⟨x, rfl, hx, h1⟩ := hAone y hy
   exact k4 x hx h1)
  obtain ⟨s, es1, hs0, hs1⟩ := qSum_l0 l hl16 hbits l [] 0 0 rfl rfl (by omega) (by omega)
  have hz : ((L.length : Int) == 0) = (s == 0) := by
   rw [Bool.eq_iff_iff, beq_iff_eq, beq_iff_eq, hs1];constructor
   ·intro h
    refine ⟨rfl, fun y hy => ?_⟩
    have hb := hbits y hy
    by_cases c : y = 0
    ·exact c
    ·obtain ⟨i, hi, rfl⟩ := List.getElem_of_mem hy
     obtain ⟨p, hp, _⟩ := k4 i (by omega) (by rw [rdN hi]; omega)
     have : L = [] := List.eq_nil_of_length_eq_zero (by omega)
     rw [this] at hp;simp at hp
   ·rintro ⟨_, h⟩
    rw [k5 (fun x hx => by rw [rdN (by omega), h _ (List.getElem_mem _)]; decide)]
    rfl
  refine ev_p rfl (Ev.bind hsum (Ev.bind hpr (Ev.bind hes (ev_p rfl (Ev.bind (zz278 _ l (by omega)) (ev_p rfl (ev_p rfl (ev_p rfl (ev_n (by omega) (ev_n (by omega) (Ev.bind es1 (ev_n (by rw [hz]; simp) ?_))))))))))))
  refine zz286 (a : Int) l A ps L es (by omega) (by omega) (fun x hx => ?_) ?_ es [] 0 rfl rfl
  ·obtain ⟨i, hi⟩ := hesub x hx
   obtain ⟨y, hy, hc, h1⟩ := (hal i x hi).1 hx
   have hx1 := zz222 hla hbits (hpg x (List.mem_of_getElem? hi)) hy hc
   obtain ⟨p, hp, hcp⟩ := k4 y hy hx1
   obtain ⟨k, hk⟩ := List.mem_iff_getElem?.1 (k3 p hp)
   by_cases e : k = i
   ·subst e
    rw [hi] at hk;rw [Option.some.inj hk];exact hp
   ·have := (cov_one y ps i x hi hc).1 h1 k p e hk
    rw [hcp] at this;simp at this
  refine zz284 (a : Int) l A ps L (by omega) (by omega) k3 ?_ L [] 0 rfl rfl
  refine zz282 (a : Int) l A ps (by omega) (by omega) (fun y hy => ?_) ?_ A [] 0 rfl rfl
  ·obtain ⟨x, rfl, hx, h1⟩ := hAone y hy
   exact ⟨by omega, h1⟩
  ·refine List.Pairwise.imp_of_mem (fun {y x} hy hx h p hp h1 h2 => ?_) ha2
   obtain ⟨x', rfl, hx', _⟩ := hAone x hx
   obtain ⟨y', rfl, hy', _⟩ := hAone y hy
   rw [cov_and (hpg p hp) (by omega)] at h1 h2
   exact hnear _ _ h p hp ⟨h2, h1⟩
 ·have e1 : zz146 n l = ([], false) := by unfold zz146; rw [if_neg hg]
  rw [e1];exact ev_n (by simp) (Ev.now _)
theorem zz288 (L : List S72) (ok : Bool) (C : Int) (A : List Int) (n : Int) (l : List Int) (m : Int) (sl : List Int) (ts : List S72) (htl : ts.length ≤ 1000) (hsl : sl.length ≤ 1000) (hts : ∀ x ∈ ts, I64 x.f1 ∧ zz212 m sl x.f0 x.f1 = (true, true)) (hn : Ev (fun k => laws_FnLeastSums.j1 k L ok L C A n l) true) (r : List S72) : ∀ (p : List S72) (i : Int), i = p.length → ts = p ++ r →
  Ev (fun k => laws_FnLeastSums.l0 k L ok L C A ts ts.length i n l m sl) true := by
 induction r with
 | nil =>
  intro p i hi e;have hlen : ts.length = p.length := by rw [e]; simp
  apply ev_up;simp only [laws_FnLeastSums.l0];exact ev_n (by omega) hn
 | cons x r ih =>
  intro p i hi e;have hlen : ts.length = p.length + r.length + 1 := by rw [e]; simp; omega
  have hx : rd_T72 ts i = x := by rw [e]; exact rdTermA hi
  have ih' := ih (p ++ [x]) (i + 1) (by simp; omega) (by rw [e]; simp)
  obtain ⟨h1, h2⟩ := hts x (by rw [e]; simp)
  have hi2 := zz213 m sl x.f0 x.f1 h1 (by omega)
  rw [h2] at hi2;apply ev_up;simp only [laws_FnLeastSums.l0];rw [hx, w64 (n := i + 1) (by omega) (by omega)]
  exact ev_p (by omega) (ev_p (by omega) (ev_p (by omega) (Ev.bind hi2 (ev_p rfl (ev_p rfl ih')))))
theorem FnLeastSums : laws_FnLeastSums.Pure := by
 intro l0 l1 hm0 hy0 hw0 hm1 hy1 hw1;apply ev_get
 have hc0 := bytes_of hy0 hw0
 have hc1 := bytes_of hy1 hw1
 unfold laws_FnLeastSums.f;rw [w64 (n := (l0.length : Int) + l1.length) (by omega) (by omega)]
 refine ev_ite (fun _ => Ev.now _) (fun _ => ?_)
 obtain ⟨n, l, ed, hl, _⟩ := zz253 hc0
 obtain ⟨m, ts, et, htl, htI, hmn⟩ := zz270 hc1
 have ed2 : Ev (fun k => spec_DrawLeastSum.f k l0) (n, l) := by
  unfold spec_DrawLeastSum.f;exact Ev.bind ed (Ev.now _)
 refine Ev.bind ed2 ?_
 dsimp only;refine Ev.bind (zz150 n l (by omega)) (Ev.bind (zz149 n l (by omega)) (Ev.bind (zz176 n l (by omega)) (Ev.bind (zz175 n l (by omega)) (Ev.bind (zz173 n l (by omega)) (Ev.bind (zz172 n l (by omega)) (Ev.bind et ?_))))))
 dsimp only;refine Ev.bind (zz207 m ts (by omega) htI) (Ev.bind (zz211 m ts (by omega) htI) ?_)
 have hj1 := zz287 n l hl
 have p1 := zz148 n l
 have p2 := zz171 n l
 have p3 := zz201 m ts
 have q1 : (zz174 n l).2 = (zz146 n l).2 := by
  unfold zz174 zz146;split <;> rfl
 have q2 : (zz170 n l).2 = (zz146 n l).2 := by
  unfold zz170 zz146;split <;> rfl
 generalize zz146 n l = P at hj1 p1 q1 q2
 generalize zz174 n l = Q at hj1 q1
 generalize zz170 n l = R at hj1 p2 q2
 refine ev_n (by simp) (Ev.bind (zz272 _ (by omega)) (ev_p rfl ?_))
 refine ev_n (by simp) (ev_p rfl (ev_n (by simp) (Ev.bind (zz274 _ (by omega)) (ev_p rfl ?_))))
 refine ev_n (by simp) (Ev.bind (zz278 _ _ (by omega)) (ev_p rfl (ev_n (by rw [q1]; simp) (ev_n (by rw [q2]; simp) ?_))))
 refine ev_ite (fun h => ?_) (fun _ => hj1)
 have hs : (0 ≤ m ∧ m ≤ 4 ∧ ts.length ≤ 16 ∧ ts.all (okTerm m) = true) := by
  unfold zz200 at h;split at h
  ·assumption
  ·simp at h
 have e : zz200 m ts = (m, nRow (2 ^ m.toNat) (sumF ts), true) := by unfold zz200; rw [if_pos hs]
 rw [e] at p3 ⊢
 refine zz288 _ _ _ _ n l m _ ts (by omega) (by dsimp only at p3 ⊢; omega) (fun x hx => ⟨(htI x hx).2, ?_⟩) hj1 ts [] 0 rfl rfl
 have hok := List.all_eq_true.1 hs.2.2.2 x hx
 unfold okTerm at hok;unfold zz212;have ht : tableM m (nRow (2 ^ m.toNat) (sumF ts)) = true := by
  unfold tableM;rw [Bool.and_eq_true, List.all_eq_true];refine ⟨decide_eq_true ⟨by omega, by omega, zz193 _ _⟩, fun z hz => ?_⟩
  unfold nRow at hz;rw [List.mem_map] at hz;obtain ⟨j, _, rfl⟩ := hz
  unfold inB sumF;split <;> decide
 dsimp only;rw [if_pos ⟨ht, hok⟩];congr 1
 unfold impliesM;rw [List.all_eq_true, zz193];intro z hz;obtain ⟨j, rfl, _, hj, hjc⟩ := idxM_mem (Nat.le_refl _) hz
 unfold nz;rw [decide_eq_true_eq, rdN (by rw [zz193]; exact hj)]
 have : sumF ts j = 1 := by
  unfold sumF;rw [if_pos (List.any_eq_true.2 ⟨x, hx, by unfold covB; rw [decide_eq_true_eq]; exact hjc⟩)]
 simp only [nRow, List.getElem_map, List.getElem_range, this];decide
end Go.Proofs.Ytbkighlfgaifeaa.Pure
