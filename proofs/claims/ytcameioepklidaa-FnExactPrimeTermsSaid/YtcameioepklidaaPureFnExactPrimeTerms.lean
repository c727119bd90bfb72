/- The pure part of the law FnExactPrimeTerms: what the program and the reference compute is the same, for all arguments. Conditions: the numbers are of Go's int, the lengths of slices are. -/
import Derived.Test.YtcameioepklidaaQFnExactPrimeTermsx7
import Derived.Test.YtcameioepklidaaKit
set_option linter.unusedVariables false
set_option linter.unusedSimpArgs false
namespace Go.Proofs.Ytcameioepklidaa.Pure
open Go.RowKit Go.Proofs.Ytcameioepklidaa.QFnExactPrimeTerms Go.Proofs.YtcameioepklidaaW.PrintWords Go.Proofs.YtcameioepklidaaW.PrintLast Go.Proofs.Ytcameioepklidaa.Open Go.Proofs.Ytcameioepklidaa.Kit

/-! #### idxN -/
/-- The indices that a term covers, from i on. -/
def idxM (N m v : Nat) : Nat → List Int
  | 0 => []
  | d + 1 => (if (N - (d + 1)) &&& m = v then [((N - (d + 1) : Nat) : Int)] else []) ++ idxM N m v d
theorem idxM_length (N m v d : Nat) : (idxM N m v d).length ≤ d := by
  induction d with
  | zero => simp [idxM]
  | succ d ih => unfold idxM; split <;> simp <;> omega
theorem idxM_mem {N m v d : Nat} {x : Int} (hd : d ≤ N) (h : x ∈ idxM N m v d) : ∃ j : Nat, x = j ∧ N - d ≤ j ∧ j < N ∧ j &&& m = v := by
  induction d with
  | zero => simp [idxM] at h
  | succ d ih =>
    unfold idxM at h
    rw [List.mem_append] at h
    rcases h with h | h
    · split at h
      · rename_i hc
        simp only [List.mem_singleton] at h
        exact ⟨N - (d + 1), h, by omega, by omega, hc⟩
      · simp at h
    · obtain ⟨j, h1, h2, h3, h4⟩ := ih (by omega) h
      exact ⟨j, h1, by omega, h3, h4⟩
theorem mem_idxM {N m v d j : Nat} (hd : d ≤ N) (h1 : N - d ≤ j) (h2 : j < N) (h3 : j &&& m = v) : (j : Int) ∈ idxM N m v d := by
  induction d with
  | zero => omega
  | succ d ih =>
    unfold idxM
    rw [List.mem_append]
    by_cases hj : j = N - (d + 1)
    · left
      rw [← hj, if_pos h3]
      simp
    · right
      exact ih (by omega) (by omega)

/-! #### impliesM -/
def nz (l : List Int) (j : Int) : Bool := decide (rd l j ≠ 0)
/-- Whether a term covers only indices with a value that is not 0. -/
def impliesM (l : List Int) (m v : Nat) : Bool := (idxM l.length m v l.length).all (nz l)

/-! #### termT -/
theorem rdTermA {p r : List S101} {x : S101} {i : Int} (hi : i = p.length) : rd_T101 (p ++ x :: r) i = x := getDA hi

/-! #### bitN -/
theorem bit_and1 (a n : Nat) (ha : a < 2 ^ 62) (hn : n ≤ 62) : Go.bits .and .i64 (shr .i64 (a : Int) (n : Int)) 1 = (((a >>> n) % 2 : Nat) : Int) := by
  rw [shrN a n hn]
  have h : a >>> n ≤ a := Nat.shiftRight_le a n
  have := andN (a >>> n) 1 (by omega) (by omega)
  rw [Nat.and_one_is_mod] at this
  exact this

/-! #### primesM -/
/-- The bit i taken away. -/
def clrB (m i : Nat) : Nat := m - (m &&& 2 ^ i)
theorem bits_d1 : ∀ m : Fin 16, ∀ i : Fin 4, (m.1 &&& 2 ^ i.1 ≠ 0 → (m.1 >>> i.1) % 2 = 1) ∧ ((m.1 >>> i.1) % 2 = 1 → ¬ m.1 &&& 2 ^ i.1 = 0) ∧ ((m.1 >>> i.1) % 2 = 1 → 2 ^ i.1 ≤ m.1 ∧ m.1 - 2 ^ i.1 = clrB m.1 i.1) ∧ clrB m.1 i.1 < 16 ∧ m.1 ^^^ (m.1 &&& 2 ^ i.1) = clrB m.1 i.1 ∧ (m.1 &&& 2 ^ i.1) ≤ m.1 := by decide
theorem bits_f (m v i : Nat) (hm : m < 16) (hv : v < 16) (hi : i < 4) : ((m &&& 2 ^ i ≠ 0 → (m >>> i) % 2 = 1) ∧ ((m >>> i) % 2 = 1 → ¬ m &&& 2 ^ i = 0)) ∧ ((m >>> i) % 2 = 1 → (2 ^ i ≤ m ∧ m - 2 ^ i = clrB m i) ∧ (clrB m i < 16 ∧ clrB v i < 16 ∧ (v &&& 2 ^ i) ≤ v) ∧ m ^^^ (m &&& 2 ^ i) = clrB m i ∧ v ^^^ (v &&& 2 ^ i) = clrB v i) := by
  have h := bits_d1 ⟨m, hm⟩ ⟨i, hi⟩
  have h' := bits_d1 ⟨v, hv⟩ ⟨i, hi⟩
  exact ⟨⟨h.1, h.2.1⟩, fun hh => ⟨h.2.2.1 hh, ⟨h.2.2.2.1, h'.2.2.2.1, h'.2.2.2.2.2⟩, h.2.2.2.2.1, h'.2.2.2.2.1⟩⟩
/-- No term with an input less, from input i on, implies the table. -/
def primeF (l : List Int) (m v : Nat) : Bool → Nat → Nat → Bool
  | fit, _, 0 => fit
  | fit, i, d + 1 => primeF l m v (if (m >>> i) % 2 = 1 ∧ impliesM l (clrB m i) (clrB v i) = true then false else fit) (i + 1) d
def valsM (l : List Int) (a m : Nat) : Nat → Nat → List S101
  | _, 0 => []
  | v, d + 1 => (if v &&& m = v ∧ impliesM l m v = true ∧ primeF l m v true 0 a = true then [⟨(m : Int), (v : Int)⟩] else []) ++ valsM l a m (v + 1) d
theorem valsM_length (l : List Int) (a m d : Nat) : ∀ v, (valsM l a m v d).length ≤ d := by
  induction d with
  | zero => intro v; simp [valsM]
  | succ d ih =>
    intro v
    have := ih (v + 1)
    rw [valsM]
    split <;> simp <;> omega
def masksM (l : List Int) (a : Nat) : Nat → Nat → List S101
  | _, 0 => []
  | m, d + 1 => valsM l a m 0 (m + 1) ++ masksM l a (m + 1) d
theorem masksM_length (l : List Int) (a : Nat) (N d : Nat) : ∀ m, m + d ≤ N → (masksM l a m d).length ≤ N * d := by
  induction d with
  | zero => intro m _; simp [masksM]
  | succ d ih =>
    intro m h
    have h1 := ih (m + 1) (by omega)
    have h2 := valsM_length l a m (m + 1) 0
    have h3 : N * (d + 1) = N * d + N := Nat.mul_succ N d
    rw [masksM, List.length_append]
    omega

/-! #### spec_nfIndices -/
theorem spec_nfIndices_l0 (a m v : Nat) (ha : a ≤ 4) (hm : m < 65536) (d : Nat) : ∀ (xs : List Int) (i : Nat), i + d = 2 ^ a → xs.length ≤ i →
    Ev (fun k => spec_nfIndices.l0 k a xs i m v) (xs ++ idxM (2 ^ a) m v d) := by
  have h8 : 2 ^ a ≤ 2 ^ 4 := Nat.pow_le_pow_right (by decide) ha
  induction d with
  | zero =>
    intro xs i hi hx
    apply ev_up
    simp only [spec_nfIndices.l0]
    rw [u64w (by omega) (by omega), shl1 a (by omega)]
    refine ev_p (by omega) (ev_n (by omega) ?_)
    simpa [idxM] using Ev.now xs
  | succ d ih =>
    intro xs i hi hx
    apply ev_up
    simp only [spec_nfIndices.l0]
    rw [u64w (by omega) (by omega), shl1 a (by omega)]
    refine ev_p (by omega) (ev_p (by omega) ?_)
    rw [andN i m (by omega) (by omega), wN (m := i + 1) (by omega) (by omega)]
    have e : 2 ^ a - (d + 1) = i := by omega
    refine ev_ite (fun h => ?_) (fun h => ?_)
    · refine ev_p (by omega) ?_
      refine ev_eq (ih _ (i + 1) (by omega) (by simp; omega)) ?_
      have h' : i &&& m = v := by exact_mod_cast h
      simp [idxM, e, h']
    · refine ev_eq (ih _ (i + 1) (by omega) (by omega)) ?_
      have h' : ¬ i &&& m = v := fun h2 => h (by exact_mod_cast h2)
      simp [idxM, e, h']
theorem spec_nfIndices_ev (a m v : Nat) (ha : a ≤ 4) (hm : m < 65536) : Ev (fun k => spec_nfIndices.f k a m v) (idxM (2 ^ a) m v (2 ^ a)) := by
  unfold spec_nfIndices.f
  exact spec_nfIndices_l0 a m v ha hm (2 ^ a) [] 0 (by omega) (by simp)

/-! #### spec_nfImplies -/
theorem spec_nfImplies_l0 (n : Int) (l ks : List Int) (hk : ∀ x ∈ ks, 0 ≤ x ∧ x < l.length) (hl : ks.length ≤ 1048576) (r : List Int) : ∀ (p : List Int) (i : Int), i = p.length → ks = p ++ r →
    Ev (fun k => spec_nfImplies.l0 k ks ks.length i n l) (r.all (nz l)) := by
  induction r with
  | nil =>
    intro p i hi e
    have hlen : ks.length = p.length := by rw [e]; simp
    apply ev_up
    simp only [spec_nfImplies.l0]
    exact ev_n (by omega) (Ev.now _)
  | cons x r ih =>
    intro p i hi e
    have hlen : ks.length = p.length + r.length + 1 := by rw [e]; simp; omega
    have hx : rd ks i = x := by rw [e]; exact rdA hi
    have hxb := hk x (by rw [e]; simp)
    have ih' := ih (p ++ [x]) (i + 1) (by simp; omega) (by rw [e]; simp)
    apply ev_up
    simp only [spec_nfImplies.l0]
    refine ev_p (by omega) (ev_p (by omega) (ev_p (by omega) ?_))
    rw [hx, w64 (n := i + 1) (by omega) (by omega)]
    refine ev_p (by omega) (ev_p (by omega) (ev_ite (fun h => ?_) (fun h => ?_)))
    · rw [List.all_cons, show nz l x = false from decide_eq_false (fun hh => hh h), Bool.false_and]
      exact Ev.now _
    · rw [List.all_cons, show nz l x = true from decide_eq_true h, Bool.true_and]
      exact ih'
theorem spec_nfImplies_ev (a m v : Nat) (l : List Int) (ha : a ≤ 4) (hl : l.length = 2 ^ a) (hm : m < 65536) : Ev (fun k => spec_nfImplies.f k a l m v) (impliesM l m v) := by
  unfold spec_nfImplies.f impliesM
  have h8 : 2 ^ a ≤ 2 ^ 4 := Nat.pow_le_pow_right (by decide) ha
  rw [hl]
  have hi := idxM_length (2 ^ a) m v (2 ^ a)
  refine Ev.bind (spec_nfIndices_ev a m v ha hm) (spec_nfImplies_l0 a l _ (fun x hx => ?_) (by omega) _ [] 0 rfl rfl)
  obtain ⟨j, rfl, _, h2, _⟩ := idxM_mem (Nat.le_refl _) hx
  omega

/-! #### spec_nfPrimes -/
theorem spec_nfPrimes_l2 (a : Nat) (l : List Int) (ha : a ≤ 4) (hla : l.length = 2 ^ a) (hl16 : l.length ≤ 16) (m v : Nat) (hm : m < 16) (hv : v < 16) (xs : List S101) (hx : xs.length ≤ 1000000) (R : List S101) (d : Nat) : ∀ (i : Nat) (fit : Bool), i + d = a →
    Ev (fun k => spec_nfPrimes.l1 k (xs ++ (if primeF l m v fit i d = true then [⟨(m : Int), (v : Int)⟩] else [])) m (wrap64 ((v : Int) + 1)) a l) R → Ev (fun k => spec_nfPrimes.l2 k xs m v fit i a l m v) R := by
  induction d with
  | zero =>
    intro i fit hi h
    apply ev_up
    simp only [spec_nfPrimes.l2]
    rw [primeF] at h
    refine ev_n (by omega) (ev_ite (fun c => ev_p (by omega) ?_) (fun c => ?_))
    · rw [if_pos c] at h
      exact h
    · rw [if_neg c, List.append_nil] at h
      exact h
  | succ d ih =>
    intro i fit hi h
    have hi4 : i < 4 := by omega
    have hbf := bits_f m v i hm hv hi4
    rw [primeF] at h
    apply ev_up
    simp only [spec_nfPrimes.l2]
    rw [wN (n := (i : Int) + 1) (m := i + 1) (by omega) (by omega)]
    have h2i : 2 ^ i ≤ 2 ^ 3 := Nat.pow_le_pow_right (by decide) (by omega)
    rw [u64w (by omega) (by omega), shl1 i (by omega), andN m (2 ^ i) (by omega) (by omega), andN v (2 ^ i) (by omega) (by omega)]
    refine ev_p (by omega) (ev_p (by omega) (ev_ite (fun c => ?_) (fun c => ?_)))
    · have c' : ¬ (m >>> i) % 2 = 1 := fun hh => hbf.1.2 hh (by exact_mod_cast c)
      rw [show (if (m >>> i) % 2 = 1 ∧ impliesM l (clrB m i) (clrB v i) = true then false else fit) = fit from if_neg (fun hh => c' hh.1)] at h
      exact ih (i + 1) fit (by omega) h
    · have c' : (m >>> i) % 2 = 1 := hbf.1.1 (fun hh => c (by rw [hh]; rfl))
      have hb := hbf.2 c'
      rw [wN (n := (m : Int) - ((2 ^ i : Nat) : Int)) (m := clrB m i) (by omega) (by omega), wN (n := (v : Int) - ((v &&& 2 ^ i : Nat) : Int)) (m := clrB v i) (by unfold clrB; omega) (by omega)]
      refine Ev.bind (spec_nfImplies_ev a (clrB m i) (clrB v i) l ha hla (by omega)) (ev_ite (fun c2 => ?_) (fun c2 => ?_))
      · rw [show (if (m >>> i) % 2 = 1 ∧ impliesM l (clrB m i) (clrB v i) = true then false else fit) = false from if_pos ⟨c', c2⟩] at h
        exact ih (i + 1) false (by omega) h
      · rw [show (if (m >>> i) % 2 = 1 ∧ impliesM l (clrB m i) (clrB v i) = true then false else fit) = fit from if_neg (fun hh => c2 hh.2)] at h
        exact ih (i + 1) fit (by omega) h
theorem spec_nfPrimes_l1 (a : Nat) (l : List Int) (ha : a ≤ 4) (hla : l.length = 2 ^ a) (hl16 : l.length ≤ 16) (m : Nat) (hm : m < 16) (R : List S101) (d : Nat) : ∀ (v : Nat) (xs : List S101), v + d = m + 1 → xs.length + d ≤ 1000000 →
    Ev (fun k => spec_nfPrimes.l0 k (xs ++ valsM l a m v d) (wrap64 ((m : Int) + 1)) a l) R → Ev (fun k => spec_nfPrimes.l1 k xs m v a l) R := by
  induction d with
  | zero =>
    intro v xs hv hx h
    apply ev_up
    simp only [spec_nfPrimes.l1]
    rw [valsM, List.append_nil] at h
    exact ev_n (by omega) h
  | succ d ih =>
    intro v xs hv hx h
    have hvm : v < 16 := by omega
    rw [valsM] at h
    have next : ∀ ys : List S101, ys.length ≤ 1 → Ev (fun k => spec_nfPrimes.l0 k (xs ++ (ys ++ valsM l a m (v + 1) d)) (wrap64 ((m : Int) + 1)) a l) R → Ev (fun k => spec_nfPrimes.l1 k (xs ++ ys) m (wrap64 ((v : Int) + 1)) a l) R := fun ys hys hh => by
      rw [wN (n := (v : Int) + 1) (m := v + 1) (by omega) (by omega)]
      refine ih (v + 1) _ (by omega) (by simp; omega) ?_
      rw [List.append_assoc]
      exact hh
    have skip : ¬ (v &&& m = v ∧ impliesM l m v = true) → Ev (fun k => spec_nfPrimes.l1 k xs m (wrap64 ((v : Int) + 1)) a l) R := fun c => by
      rw [if_neg (fun hh => c ⟨hh.1, hh.2.1⟩)] at h
      have := next [] (by simp) h
      rw [List.append_nil] at this
      exact this
    apply ev_up
    simp only [spec_nfPrimes.l1]
    rw [andN v m (by omega) (by omega)]
    refine ev_p (by omega) (ev_ite (fun c => Ev.bind (spec_nfImplies_ev a m v l ha hla (by omega)) (ev_up ?_)) (fun c => ev_up ?_))
    · have c' : v &&& m = v := by exact_mod_cast c
      simp only [spec_nfPrimes.j2]
      by_cases c2 : impliesM l m v = true
      · rw [c2]
        refine ev_n (by decide) (spec_nfPrimes_l2 a l ha hla hl16 m v hm hvm xs (by omega) R a 0 true (by omega) ?_)
        refine next _ (by split <;> simp) ?_
        have e : (if v &&& m = v ∧ impliesM l m v = true ∧ primeF l m v true 0 a = true then [(⟨(m : Int), (v : Int)⟩ : S101)] else []) = if primeF l m v true 0 a = true then [⟨(m : Int), (v : Int)⟩] else [] := by
          by_cases c3 : primeF l m v true 0 a = true
          · rw [if_pos ⟨c', c2, c3⟩, if_pos c3]
          · rw [if_neg (fun hh => c3 hh.2.2), if_neg c3]
        rw [e] at h
        exact h
      · rw [show impliesM l m v = false by simpa using c2]
        exact ev_p (by trivial) (skip (fun hh => c2 hh.2))
    · simp only [spec_nfPrimes.j2]
      refine ev_p (by trivial) (skip (fun hh => c ?_))
      exact_mod_cast hh.1
theorem spec_nfPrimes_l0 (a : Nat) (l : List Int) (ha : a ≤ 4) (hla : l.length = 2 ^ a) (hl16 : l.length ≤ 16) (d : Nat) : ∀ (m : Nat) (xs : List S101), m + d = 2 ^ a → xs.length ≤ 17 * m →
    Ev (fun k => spec_nfPrimes.l0 k xs m a l) (xs ++ masksM l a m d) := by
  induction d with
  | zero =>
    intro m xs hm hx
    apply ev_up
    simp only [spec_nfPrimes.l0]
    rw [u64w (by omega) (by omega), shl1 a (by omega)]
    refine ev_p (by omega) (ev_n (by omega) (ev_eq (Ev.now _) ?_))
    simp [masksM]
  | succ d ih =>
    intro m xs hm hx
    apply ev_up
    simp only [spec_nfPrimes.l0]
    have hvl := valsM_length l a m (m + 1) 0
    rw [u64w (by omega) (by omega), shl1 a (by omega)]
    refine ev_p (by omega) (ev_p (by omega) ?_)
    refine spec_nfPrimes_l1 a l ha hla hl16 m (by omega) _ (m + 1) 0 xs (by omega) (by omega) ?_
    rw [wN (n := (m : Int) + 1) (m := m + 1) (by omega) (by omega)]
    refine ev_eq (ih (m + 1) _ (by omega) (by simp; omega)) ?_
    simp [masksM]
theorem spec_nfPrimes_ev (a : Nat) (l : List Int) (ha : a ≤ 4) (hla : l.length = 2 ^ a) (hl16 : l.length ≤ 16) : Ev (fun k => spec_nfPrimes.f k a l) (masksM l a 0 (2 ^ a)) := by
  unfold spec_nfPrimes.f
  exact spec_nfPrimes_l0 a l ha hla hl16 (2 ^ a) 0 [] (by omega) (by simp)

/-! #### impl_implies -/
theorem impl_implies_l0 (l : List Int) (m v : Nat) (hm : m < 65536) (hl : l.length ≤ 1048576) (d : Nat) : ∀ (i : Nat), i + d = l.length →
    Ev (fun k => impl_implies.l0 k l l.length i m v) ((idxM l.length m v d).all (nz l)) := by
  induction d with
  | zero =>
    intro i hi
    apply ev_up
    simp only [impl_implies.l0]
    exact ev_n (by omega) (Ev.now _)
  | succ d ih =>
    intro i hi
    have e : l.length - (d + 1) = i := by omega
    have ih' := ih (i + 1) (by omega)
    apply ev_up
    simp only [impl_implies.l0]
    refine ev_p (by omega) (ev_p (by omega) (ev_p (by omega) ?_))
    rw [andN i m (by omega) (by omega), wN (m := i + 1) (by omega) (by omega)]
    unfold idxM
    rw [e, List.all_append]
    refine ev_ite (fun h => ev_ite (fun h2 => ?_) (fun h2 => ?_)) (fun h => ?_)
    · have h' : i &&& m = v := by exact_mod_cast h2
      rw [if_pos h', List.all_cons, show nz l (i : Int) = false from decide_eq_false (fun hh => hh h), Bool.false_and, Bool.false_and]
      exact Ev.now _
    · have h' : ¬ i &&& m = v := fun h3 => h2 (by exact_mod_cast h3)
      rw [if_neg h', List.all_nil, Bool.true_and]
      exact ih'
    · have e2 : (if i &&& m = v then [(i : Int)] else []).all (nz l) = true := by
        split
        · simp [nz, h]
        · rfl
      rw [e2, Bool.true_and]
      exact ih'
theorem impl_implies_ev (n : Int) (l : List Int) (m v : Nat) (hm : m < 65536) (hl : l.length ≤ 1048576) : Ev (fun k => impl_implies.f k n l m v) (impliesM l m v) := by
  unfold impl_implies.f impliesM
  exact impl_implies_l0 l m v hm hl l.length 0 (by omega)

/-! #### impl_primesOf -/
theorem impl_primesOf_l2 (a : Nat) (l : List Int) (ha : a ≤ 4) (hla : l.length = 2 ^ a) (hl16 : l.length ≤ 16) (m v : Nat) (hm : m < 16) (hv : v < 16) (xs : List S101) (hx : xs.length ≤ 1000000) (R : List S101) (d : Nat) : ∀ (i : Nat) (fit : Bool), i + d = a →
    Ev (fun k => impl_primesOf.l1 k (xs ++ (if primeF l m v fit i d = true then [⟨(m : Int), (v : Int)⟩] else [])) m (wrap64 ((v : Int) + 1)) a l) R → Ev (fun k => impl_primesOf.l2 k xs m v fit i a l m v) R := by
  induction d with
  | zero =>
    intro i fit hi h
    apply ev_up
    simp only [impl_primesOf.l2]
    rw [primeF] at h
    refine ev_n (by omega) (ev_ite (fun c => ev_p (by omega) ?_) (fun c => ?_))
    · rw [if_pos c] at h
      exact h
    · rw [if_neg c, List.append_nil] at h
      exact h
  | succ d ih =>
    intro i fit hi h
    have hi4 : i < 4 := by omega
    have hbf := bits_f m v i hm hv hi4
    rw [primeF] at h
    apply ev_up
    simp only [impl_primesOf.l2]
    rw [wN (n := (i : Int) + 1) (m := i + 1) (by omega) (by omega)]
    have h2i : 2 ^ i ≤ 2 ^ 3 := Nat.pow_le_pow_right (by decide) (by omega)
    rw [bit_and1 m i (by omega) (by omega), shl1 i (by omega), andNotN m (2 ^ i) (by omega) (by omega), andNotN v (2 ^ i) (by omega) (by omega)]
    refine ev_p (by omega) (ev_p (by omega) (ev_ite (fun c => ?_) (fun c => ?_)))
    · have c' : (m >>> i) % 2 = 1 := by exact_mod_cast c
      have hb := hbf.2 c'
      rw [hb.2.2.1, hb.2.2.2]
      refine Ev.bind (impl_implies_ev a l (clrB m i) (clrB v i) (by omega) (by omega)) (ev_ite (fun c2 => ?_) (fun c2 => ?_))
      · rw [show (if (m >>> i) % 2 = 1 ∧ impliesM l (clrB m i) (clrB v i) = true then false else fit) = false from if_pos ⟨c', c2⟩] at h
        exact ih (i + 1) false (by omega) h
      · rw [show (if (m >>> i) % 2 = 1 ∧ impliesM l (clrB m i) (clrB v i) = true then false else fit) = fit from if_neg (fun hh => c2 hh.2)] at h
        exact ih (i + 1) fit (by omega) h
    · have c' : ¬ (m >>> i) % 2 = 1 := fun hh => c (by exact_mod_cast hh)
      rw [show (if (m >>> i) % 2 = 1 ∧ impliesM l (clrB m i) (clrB v i) = true then false else fit) = fit from if_neg (fun hh => c' hh.1)] at h
      exact ih (i + 1) fit (by omega) h
theorem impl_primesOf_l1 (a : Nat) (l : List Int) (ha : a ≤ 4) (hla : l.length = 2 ^ a) (hl16 : l.length ≤ 16) (m : Nat) (hm : m < 16) (R : List S101) (d : Nat) : ∀ (v : Nat) (xs : List S101), v + d = m + 1 → xs.length + d ≤ 1000000 →
    Ev (fun k => impl_primesOf.l0 k (xs ++ valsM l a m v d) (wrap64 ((m : Int) + 1)) a l) R → Ev (fun k => impl_primesOf.l1 k xs m v a l) R := by
  induction d with
  | zero =>
    intro v xs hv hx h
    apply ev_up
    simp only [impl_primesOf.l1]
    rw [valsM, List.append_nil] at h
    exact ev_n (by omega) h
  | succ d ih =>
    intro v xs hv hx h
    have hvm : v < 16 := by omega
    rw [valsM] at h
    have next : ∀ ys : List S101, ys.length ≤ 1 → Ev (fun k => impl_primesOf.l0 k (xs ++ (ys ++ valsM l a m (v + 1) d)) (wrap64 ((m : Int) + 1)) a l) R → Ev (fun k => impl_primesOf.l1 k (xs ++ ys) m (wrap64 ((v : Int) + 1)) a l) R := fun ys hys hh => by
      rw [wN (n := (v : Int) + 1) (m := v + 1) (by omega) (by omega)]
      refine ih (v + 1) _ (by omega) (by simp; omega) ?_
      rw [List.append_assoc]
      exact hh
    have skip : ¬ (v &&& m = v ∧ impliesM l m v = true) → Ev (fun k => impl_primesOf.l1 k xs m (wrap64 ((v : Int) + 1)) a l) R := fun c => by
      rw [if_neg (fun hh => c ⟨hh.1, hh.2.1⟩)] at h
      have := next [] (by simp) h
      rw [List.append_nil] at this
      exact this
    apply ev_up
    simp only [impl_primesOf.l1]
    rw [andNotN v m (by omega) (by omega)]
    refine ev_p (by omega) (ev_ite (fun c => Ev.bind (impl_implies_ev a l m v (by omega) (by omega)) (ev_up ?_)) (fun c => ev_up ?_))
    · have c' : v &&& m = v := ((xor_eq_zero v (v &&& m)).1 (by exact_mod_cast c)).symm
      simp only [impl_primesOf.j2]
      by_cases c2 : impliesM l m v = true
      · rw [c2]
        refine ev_n (by decide) (impl_primesOf_l2 a l ha hla hl16 m v hm hvm xs (by omega) R a 0 true (by omega) ?_)
        refine next _ (by split <;> simp) ?_
        have e : (if v &&& m = v ∧ impliesM l m v = true ∧ primeF l m v true 0 a = true then [(⟨(m : Int), (v : Int)⟩ : S101)] else []) = if primeF l m v true 0 a = true then [⟨(m : Int), (v : Int)⟩] else [] := by
          by_cases c3 : primeF l m v true 0 a = true
          · rw [if_pos ⟨c', c2, c3⟩, if_pos c3]
          · rw [if_neg (fun hh => c3 hh.2.2), if_neg c3]
        rw [e] at h
        exact h
      · rw [show impliesM l m v = false by simpa using c2]
        exact ev_p (by trivial) (skip (fun hh => c2 hh.2))
    · simp only [impl_primesOf.j2]
      refine ev_p (by trivial) (skip (fun hh => c ?_))
      have e := (xor_eq_zero v (v &&& m)).2 hh.1.symm; exact_mod_cast e
theorem impl_primesOf_l0 (a : Nat) (l : List Int) (ha : a ≤ 4) (hla : l.length = 2 ^ a) (hl16 : l.length ≤ 16) (d : Nat) : ∀ (m : Nat) (xs : List S101), m + d = 2 ^ a → xs.length ≤ 17 * m →
    Ev (fun k => impl_primesOf.l0 k xs m a l) (xs ++ masksM l a m d) := by
  induction d with
  | zero =>
    intro m xs hm hx
    apply ev_up
    simp only [impl_primesOf.l0]
    refine (ev_n (by omega) (ev_eq (Ev.now _) ?_))
    simp [masksM]
  | succ d ih =>
    intro m xs hm hx
    apply ev_up
    simp only [impl_primesOf.l0]
    have hvl := valsM_length l a m (m + 1) 0
    refine (ev_p (by omega) ?_)
    refine impl_primesOf_l1 a l ha hla hl16 m (by omega) _ (m + 1) 0 xs (by omega) (by omega) ?_
    rw [wN (n := (m : Int) + 1) (m := m + 1) (by omega) (by omega)]
    refine ev_eq (ih (m + 1) _ (by omega) (by simp; omega)) ?_
    simp [masksM]
theorem impl_primesOf_ev (a : Nat) (l : List Int) (ha : a ≤ 4) (hla : l.length = 2 ^ a) (hl16 : l.length ≤ 16) : Ev (fun k => impl_primesOf.f k a l) (masksM l a 0 (2 ^ a)) := by
  unfold impl_primesOf.f
  exact impl_primesOf_l0 a l ha hla hl16 (2 ^ a) 0 [] (by omega) (by simp)

/-! #### l1In -/
theorem l1In_eq (a b c : Int) : spec_l1In.f a b c = some (decide (b ≤ a ∧ a ≤ c)) := by
  unfold spec_l1In.f
  by_cases h : b ≤ a
  · rw [if_pos h]; simp [h]
  · rw [if_neg h]; simp [h]

/-! #### l1All -/
def inB (a b : Int) (x : Int) : Bool := decide (a ≤ x ∧ x ≤ b)
theorem l1All_l0 (l : List Int) (a b : Int) (hl : l.length ≤ 9223372036854775807) (r : List Int) : ∀ (p : List Int) (i : Int), i = p.length → l = p ++ r →
    Ev (fun k => spec_l1All.l0 k a b l l.length i) (r.all (inB a b)) := by
  induction r with
  | nil =>
    intro p i hi e
    have hlen : l.length = p.length := by rw [e]; simp
    apply ev_up
    simp only [spec_l1All.l0]
    exact ev_n (by omega) (Ev.now _)
  | cons x r ih =>
    intro p i hi e
    have hlen : l.length = p.length + r.length + 1 := by rw [e]; simp; omega
    have hx : rd l i = x := by rw [e]; exact rdA hi
    have ih' := ih (p ++ [x]) (i + 1) (by simp; omega) (by rw [e]; simp)
    apply ev_up
    simp only [spec_l1All.l0]
    refine ev_p (by omega) (ev_p (by omega) (ev_p (by omega) ?_))
    rw [hx, l1In_eq]
    refine Ev.bind (ev_c rfl) ?_
    refine ev_ite (fun h => ?_) (fun h => ?_)
    · rw [w64 (by omega) (by omega)]
      refine ev_eq ih' ?_
      rw [List.all_cons, show inB a b x = true from h, Bool.true_and]
    · refine ev_eq (Ev.now _) ?_
      rw [List.all_cons, show inB a b x = false from decide_eq_false (fun hh => h (decide_eq_true hh)), Bool.false_and]
theorem l1All_ev (l : List Int) (a b : Int) (hl : l.length ≤ 9223372036854775807) : Ev (fun k => spec_l1All.f k l a b) (l.all (inB a b)) := by
  unfold spec_l1All.f
  exact l1All_l0 l a b hl l [] 0 rfl rfl

/-! #### ttInputs -/
theorem ttInputs_eq (a : Int) : spec_ttInputs.f a = some (decide (0 ≤ a ∧ a ≤ 4)) := by
  unfold spec_ttInputs.f
  rw [l1In_eq, Option.bind_some]

/-! #### tableM -/
def tableM (n : Int) (l : List Int) : Bool := decide (0 ≤ n ∧ n ≤ 4 ∧ l.length = 2 ^ n.toNat) && l.all (inB 0 1)
theorem tableM_of {n : Int} {l : List Int} (h : tableM n l = true) : ∃ a : Nat, n = a ∧ a ≤ 4 ∧ l.length = 2 ^ a ∧ l.length ≤ 16 ∧ ∀ x ∈ l, 0 ≤ x ∧ x ≤ 1 := by
  unfold tableM at h
  rw [Bool.and_eq_true, List.all_eq_true] at h
  obtain ⟨h1, h2, h3⟩ := of_decide_eq_true h.1
  obtain ⟨a, rfl⟩ := nat_of h1
  simp only [Int.toNat_natCast] at h3
  have h8 : 2 ^ a ≤ 2 ^ 4 := Nat.pow_le_pow_right (by decide) (by omega)
  exact ⟨a, rfl, by omega, h3, by omega, fun x hx => of_decide_eq_true (h.2 x hx)⟩

/-! #### spec_ttGood -/
theorem spec_ttGood_ev (n : Int) (l : List Int) (hl : l.length ≤ 9223372036854775807) : Ev (fun k => spec_ttGood.f k n l) (tableM n l) := by
  unfold spec_ttGood.f tableM
  rw [ttInputs_eq]
  refine Ev.bind (ev_c rfl) (ev_ite (fun h => ?_) (fun h => ?_))
  · have h' := of_decide_eq_true h
    obtain ⟨a, rfl⟩ := nat_of h'.1
    rw [u64w (by omega) (by omega), shl1 a (by omega)]
    refine ev_p (by omega) (ev_ite (fun h2 => ?_) (fun h2 => ?_))
    · have h3 : l.length = 2 ^ a := by exact_mod_cast h2
      rw [decide_eq_true ⟨h'.1, h'.2, by simpa using h3⟩, Bool.true_and]
      exact Ev.bind (l1All_ev l 0 1 hl) (Ev.now _)
    · rw [decide_eq_false (fun hh => h2 (by have := hh.2.2; simp only [Int.toNat_natCast] at this; exact_mod_cast this)), Bool.false_and]
      exact Ev.now _
  · rw [decide_eq_false (fun hh => h (decide_eq_true ⟨hh.1, hh.2.1⟩)), Bool.false_and]
    exact Ev.now _

/-! #### impl_areBits -/
theorem impl_areBits_l0 (l : List Int) (hl : l.length ≤ 9223372036854775807) (r : List Int) : ∀ (p : List Int) (i : Int), i = p.length → l = p ++ r →
    Ev (fun k => impl_areBits.l0 k l l.length i) (r.all (inB 0 1)) := by
  induction r with
  | nil =>
    intro p i hi e
    have hlen : l.length = p.length := by rw [e]; simp
    apply ev_up
    simp only [impl_areBits.l0]
    exact ev_n (by omega) (Ev.now _)
  | cons x r ih =>
    intro p i hi e
    have hlen : l.length = p.length + r.length + 1 := by rw [e]; simp; omega
    have hx : rd l i = x := by rw [e]; exact rdA hi
    have ih' := ih (p ++ [x]) (i + 1) (by simp; omega) (by rw [e]; simp)
    apply ev_up
    simp only [impl_areBits.l0]
    refine ev_p (by omega) (ev_p (by omega) (ev_p (by omega) ?_))
    rw [hx, w64 (n := i + 1) (by omega) (by omega)]
    refine ev_ite (fun h => ?_) (fun h => ev_ite (fun h2 => ?_) (fun h2 => ?_))
    · rw [List.all_cons, show inB 0 1 x = true from decide_eq_true (by omega), Bool.true_and]
      exact ih'
    · rw [List.all_cons, show inB 0 1 x = true from decide_eq_true (by omega), Bool.true_and]
      exact ih'
    · rw [List.all_cons, show inB 0 1 x = false from decide_eq_false (by omega), Bool.false_and]
      exact Ev.now _
theorem impl_areBits_ev (l : List Int) (hl : l.length ≤ 9223372036854775807) : Ev (fun k => impl_areBits.f k l) (l.all (inB 0 1)) := by
  unfold impl_areBits.f
  exact impl_areBits_l0 l hl l [] 0 rfl rfl

/-! #### impl_IsTable -/
theorem impl_IsTable_ev (n : Int) (l : List Int) (hl : l.length ≤ 9223372036854775807) : Ev (fun k => impl_IsTable.f k n l) (tableM n l) := by
  unfold impl_IsTable.f tableM
  refine ev_ite (fun h1 => ev_ite (fun h2 => ?_) (fun h2 => ?_)) (fun h1 => ?_)
  · obtain ⟨a, rfl⟩ := nat_of h1
    rw [shl1 a (by omega)]
    refine ev_p (by omega) (ev_ite (fun h3 => ?_) (fun h3 => ?_))
    · have h4 : l.length = 2 ^ a := by exact_mod_cast h3
      rw [decide_eq_true ⟨h1, h2, by simpa using h4⟩, Bool.true_and]
      exact Ev.bind (impl_areBits_ev l hl) (Ev.now _)
    · rw [decide_eq_false (fun hh => h3 (by have := hh.2.2; simp only [Int.toNat_natCast] at this; exact_mod_cast this)), Bool.false_and]
      exact Ev.now _
  · rw [decide_eq_false (fun hh => h2 hh.2.1), Bool.false_and]
    exact Ev.now _
  · rw [decide_eq_false (fun hh => h1 hh.1), Bool.false_and]
    exact Ev.now _

/-! #### primeTerms -/
def primeTermsM (n : Int) (l : List Int) : List S101 × Bool := if tableM n l = true then (masksM l n.toNat 0 (2 ^ n.toNat), true) else ([], false)
theorem primeTermsM_length (n : Int) (l : List Int) : (primeTermsM n l).1.length ≤ 256 := by
  unfold primeTermsM
  split
  · rename_i h
    obtain ⟨a, rfl, ha, hla, hl16, _⟩ := tableM_of h
    rw [hla] at hl16
    have h1 := masksM_length l a 16 (2 ^ a) 0 (by omega)
    simp only [Int.toNat_natCast]
    omega
  · simp
theorem spec_PrimeTerms_ev (n : Int) (l : List Int) (hl : l.length ≤ 9223372036854775807) : Ev (fun k => spec_PrimeTerms.f k n l) (primeTermsM n l) := by
  unfold spec_PrimeTerms.f primeTermsM
  refine Ev.bind (spec_ttGood_ev n l hl) (ev_ite (fun h => ?_) (fun h => ?_))
  · rw [if_pos h]
    obtain ⟨a, rfl, ha, hla, hl16, _⟩ := tableM_of h
    exact Ev.bind (spec_nfPrimes_ev a l ha hla hl16) (Ev.now _)
  · rw [if_neg h]
    exact Ev.now _
theorem impl_PrimeTerms_ev (n : Int) (l : List Int) (hl : l.length ≤ 9223372036854775807) : Ev (fun k => impl_PrimeTerms.f k n l) (primeTermsM n l) := by
  unfold impl_PrimeTerms.f primeTermsM
  refine Ev.bind (impl_IsTable_ev n l hl) (ev_ite (fun h => ?_) (fun h => ?_))
  · rw [if_pos h]
    obtain ⟨a, rfl, ha, hla, hl16, _⟩ := tableM_of h
    exact Ev.bind (impl_primesOf_ev a l ha hla hl16) (Ev.now _)
  · rw [if_neg h]
    exact Ev.now _

/-! #### szIntS -/
theorem szIntS_eq (l : List Int) (a : Int) (ha : 0 ≤ a) (ha2 : a ≤ 1048576) (hl : l.length ≤ 9223372036854775807) : laws_szIntS.f l a = some (if l.length ≤ a then a - l.length else -1) := by
  unfold laws_szIntS.f
  rw [w64 (by omega) (by omega)]
  by_cases h : (l.length : Int) ≤ a
  · rw [if_neg (by omega), if_pos h]
  · rw [if_pos (by omega), if_neg h]

/-! #### szTable -/
theorem szTable_eq (n : Int) (l : List Int) (hl : l.length ≤ 9223372036854775807) : laws_szTable.f n l 1048576 = some (if (l.length : Int) ≤ 1048576 then (1048576 : Int) - l.length else -1) := by
  unfold laws_szTable.f
  rw [szIntS_eq l 1048576 (by omega) (by omega) hl, Option.bind_some]
  by_cases h : (l.length : Int) ≤ 1048576
  · rw [if_pos h, if_neg (by omega)]
  · rw [if_neg h, if_pos (by decide)]

/-! #### toIntS -/
theorem toIntS_l0 (r : List Int) : ∀ (p z : List Int) (i : Int), i = p.length → z.length = r.length → p.length + r.length ≤ 9223372036854775806 →
    Ev (fun k => laws_toIntS.l0 k (p ++ r) (p ++ z) i) (p ++ r) := by
  induction r with
  | nil =>
    intro p z i hi hz hb
    obtain rfl : z = [] := List.length_eq_zero_iff.1 hz
    apply ev_up
    simp only [laws_toIntS.l0]
    refine ev_n (by simp; omega) ?_
    exact Ev.now _
  | cons x r ih =>
    intro p z i hi hz hb
    match z, hz with
    | y :: z, hz =>
      simp only [List.length_cons] at hz hb
      apply ev_up
      simp only [laws_toIntS.l0]
      refine ev_p (by simp; omega) (ev_p (by omega) (ev_p (by simp; omega) ?_))
      rw [rdA hi, setA hi, w64 (by omega) (by omega), appA]
      exact ih (p ++ [x]) z (i + 1) (by simp; omega) (by omega) (by simp; omega)
theorem toIntS_ev (a : List Int) (h : a.length ≤ 35184372088832) : Ev (fun k => laws_toIntS.f k a) a := by
  unfold laws_toIntS.f
  refine ev_p (by omega) (ev_p (by omega) ?_)
  exact toIntS_l0 a [] (List.replicate ((a.length : Int)).toNat 0) 0 rfl (by simp) (by simp; omega)
/-! #### toTable -/
theorem toTable_ev (n : Int) (l : List Int) (hl : l.length ≤ 1048576) : Ev (fun k => laws_toTable.f k n l) (n, l) := by
  unfold laws_toTable.f
  exact Ev.bind (toIntS_ev l (by omega)) (Ev.now _)

/-! #### eqIntS -/
theorem eqIntS_l0 (r : List Int) : ∀ (s p q : List Int) (i : Int), i = p.length → p.length = q.length → r.length = s.length → p.length + r.length ≤ 9223372036854775807 →
    Ev (fun k => laws_eqIntS.l0 k (p ++ r) (q ++ s) i) (decide (r = s)) := by
  induction r with
  | nil =>
    intro s p q i hi hpq hrs hb
    obtain rfl : s = [] := List.length_eq_zero_iff.1 hrs.symm
    apply ev_up
    simp only [laws_eqIntS.l0]
    refine ev_n (by simp; omega) ?_
    simpa using Ev.now true
  | cons x r ih =>
    intro s p q i hi hpq hrs hb
    match s, hrs with
    | y :: s, hrs =>
      simp only [List.length_cons] at hrs hb
      apply ev_up
      simp only [laws_eqIntS.l0]
      refine ev_p (by simp; omega) (ev_p (by omega) (ev_p (by simp; omega) ?_))
      rw [rdA hi, rdA (by omega)]
      refine ev_ite (fun hxy => ?_) (fun hxy => ?_)
      · subst hxy
        rw [w64 (by omega) (by omega), appA, appA (p := q)]
        refine ev_eq (ih s (p ++ [x]) (q ++ [x]) (i + 1) (by simp; omega) (by simp; omega) (by omega) (by simp; omega)) ?_
        simp
      · refine ev_eq (Ev.now false) ?_
        simp [hxy]
theorem eqIntS_ev (a b : List Int) (h : a.length ≤ 9223372036854775807) : Ev (fun k => laws_eqIntS.f k a b) (decide (a = b)) := by
  unfold laws_eqIntS.f
  refine ev_ite (fun hl => ?_) (fun hl => ?_)
  · exact eqIntS_l0 a b [] [] 0 rfl rfl (by omega) (by simpa using h)
  · refine ev_eq (Ev.now false) ?_
    symm
    apply decide_eq_false
    rintro rfl
    exact hl rfl

/-! #### eqTable -/
theorem eqTable_same (n : Int) (l : List Int) (hl : l.length ≤ 1048576) : Ev (fun k => laws_eqTable.f k n l n l) true := by
  unfold laws_eqTable.f
  have heq : Ev (fun k => laws_eqIntS.f k l l) true := by simpa using eqIntS_ev l l (by omega)
  exact ev_p rfl (Ev.bind heq (ev_p rfl (Ev.now _)))

/-! #### lenPre -/
theorem len_pre {n : Nat} (h : ¬ (if (n : Int) ≤ 1048576 then (1048576 : Int) - n else -1) < 0) : n ≤ 1048576 := by
  by_cases h2 : (n : Int) ≤ 1048576
  · omega
  · rw [if_neg h2] at h
    exact absurd (by decide) h

/-! #### eqTerm -/
theorem eqTerm_same (a b : Int) : laws_eqTerm.f a b a b = some true := by
  unfold laws_eqTerm.f
  rw [if_pos rfl, if_pos rfl]

/-! #### eqTermS -/
theorem eqTermS_l0 (r : List S101) : ∀ (p : List S101) (i : Int), i = p.length → p.length + r.length ≤ 9223372036854775807 →
    Ev (fun k => laws_eqTermS.l0 k (p ++ r) (p ++ r) i) true := by
  induction r with
  | nil =>
    intro p i hi hb
    apply ev_up
    simp only [laws_eqTermS.l0]
    exact ev_n (by simp; omega) (Ev.now true)
  | cons x r ih =>
    intro p i hi hb
    simp only [List.length_cons] at hb
    apply ev_up
    simp only [laws_eqTermS.l0]
    refine ev_p (by simp; omega) (ev_p (by omega) (ev_p (by simp; omega) ?_))
    rw [rdTermA hi, eqTerm_same]
    refine Ev.bind (ev_c rfl) (ev_p rfl ?_)
    rw [w64 (by omega) (by omega), appA]
    exact ih (p ++ [x]) (i + 1) (by simp; omega) (by simp; omega)
theorem eqTermS_self (a : List S101) (h : a.length ≤ 9223372036854775807) : Ev (fun k => laws_eqTermS.f k a a) true := by
  unfold laws_eqTermS.f
  exact ev_p rfl (eqTermS_l0 a [] 0 rfl (by simpa using h))

/-! #### heldTermS -/
/-- The marks. -/
def termSeq : Int → Nat → List S101
  | _, 0 => []
  | s, d + 1 => ⟨s, s + 1⟩ :: termSeq (s + 1 + 1) d
theorem termSeq_length (d : Nat) : ∀ s, (termSeq s d).length = d := by
  induction d with
  | zero => intro s; rfl
  | succ d ih => intro s; rw [termSeq, List.length_cons, ih]
theorem markTermS2_l0 (r : List S101) : ∀ (p : List S101) (s i : Int), i = p.length → p.length + r.length ≤ 1048576 → 0 ≤ s → s + 2 * r.length ≤ 4194304 →
    Ev (fun k => laws_markTermS.l0 k (p ++ r) s i) (s + 2 * r.length, p ++ termSeq s r.length) := by
  induction r with
  | nil =>
    intro p s i hi hb h0 hs
    apply ev_up
    simp only [laws_markTermS.l0]
    refine ev_n (by simp; omega) ?_
    simpa [termSeq] using Ev.now (s, p)
  | cons x r ih =>
    intro p s i hi hb h0 hs
    simp only [List.length_cons, Int.natCast_add] at hb hs
    have ht := ih (p ++ [⟨s, s + 1⟩]) (s + 1 + 1) (i + 1) (by simp; omega) (by simp; omega) (by omega) (by omega)
    apply ev_up
    simp only [laws_markTermS.l0]
    refine ev_p (by simp; omega) (ev_p (by omega) (Ev.bind (ev_c rfl) ?_))
    rw [rdTermA hi, setB hi, rdTermA hi, setA hi, w64 (n := s + 1) (by omega) (by omega), w64 (n := s + 1 + 1) (by omega) (by omega), w64 (n := i + 1) (by omega) (by omega)]
    refine ev_eq ht ?_
    simp only [List.length_cons, Prod.mk.injEq, List.append_assoc]
    exact ⟨by omega, by rw [termSeq]; rfl⟩
theorem markTermS2_ev (a : List S101) (h : a.length ≤ 1048576) : Ev (fun k => laws_markTermS.f k a 1) (1 + 2 * a.length, termSeq 1 a.length) := by
  unfold laws_markTermS.f
  exact markTermS2_l0 a [] 1 0 rfl (by simpa using h) (by omega) (by omega)
theorem heldTermS_l0 (d : Nat) : ∀ (p : List S101) (s i : Int), i = p.length → p.length + d ≤ 1048576 → 0 ≤ s → s + 2 * d ≤ 4194304 →
    Ev (fun k => laws_heldTermS.l0 k (p ++ termSeq s d) s i) (s + 2 * d) := by
  induction d with
  | zero =>
    intro p s i hi hb h0 hs
    apply ev_up
    simp only [laws_heldTermS.l0]
    refine ev_n (by simp [termSeq]; omega) (ev_eq (Ev.now _) (by simp))
  | succ d ih =>
    intro p s i hi hb h0 hs
    have ht := ih (p ++ [⟨s, s + 1⟩]) (s + 1 + 1) (i + 1) (by simp; omega) (by simp; omega) (by omega) (by omega)
    apply ev_up
    simp only [laws_heldTermS.l0]
    refine ev_p (by simp [termSeq_length]; omega) (ev_p (by omega) ?_)
    rw [termSeq, rdTermA hi, w64 (n := s + 1) (by omega) (by omega), w64 (n := s + 1 + 1) (by omega) (by omega), w64 (n := i + 1) (by omega) (by omega)]
    refine ev_p rfl (ev_p rfl ?_)
    rw [appA]
    refine ev_eq ht ?_
    omega
theorem heldTermS_ev (n : Nat) (h : n ≤ 1048576) : Ev (fun k => laws_heldTermS.f k (termSeq 1 n) 1) (1 + 2 * n) := by
  unfold laws_heldTermS.f
  exact heldTermS_l0 n [] 1 0 rfl (by simpa using h) (by omega) (by omega)

/-! #### markIntS -/
theorem markIntS_l0 (r : List Int) : ∀ (p : List Int) (s i : Int), i = p.length → p.length + r.length ≤ 9223372036854775807 → 0 ≤ s → s + r.length ≤ 9223372036854775807 →
    Ev (fun k => laws_markIntS.l0 k (p ++ r) s i) (s + r.length, p ++ seqFrom s r.length) := by
  induction r with
  | nil =>
    intro p s i hi hb h0 hs
    apply ev_up
    simp only [laws_markIntS.l0]
    refine ev_n (by simp; omega) ?_
    simpa [seqFrom] using Ev.now (s, p)
  | cons x r ih =>
    intro p s i hi hb h0 hs
    simp only [List.length_cons, Int.natCast_add] at hb hs
    apply ev_up
    simp only [laws_markIntS.l0]
    refine ev_p (by simp; omega) (ev_p (by omega) ?_)
    rw [setA hi, w64 (by omega) (by omega), w64 (by omega) (by omega)]
    refine ev_eq (ih (p ++ [s]) (s + 1) (i + 1) (by simp; omega) (by simp; omega) (by omega) (by omega)) ?_
    simp [seqFrom]
    omega
theorem markIntS_ev (a : List Int) (s : Int) (h0 : 0 ≤ s) (h : a.length + s ≤ 9223372036854775807) : Ev (fun k => laws_markIntS.f k a s) (s + a.length, seqFrom s a.length) := by
  unfold laws_markIntS.f
  exact markIntS_l0 a [] s 0 rfl (by simp; omega) h0 (by omega)

/-! #### markTable1 -/
theorem markTable_ev (n : Int) (l : List Int) (h : l.length ≤ 1048576) : Ev (fun k => laws_markTable.f k n l 1) (1 + l.length, seqFrom 1 l.length) := by
  unfold laws_markTable.f
  exact Ev.bind (markIntS_ev l 1 (by omega) (by omega)) (Ev.now _)

/-! #### FnExactPrimeTerms -/
theorem FnExactPrimeTerms (a0_0 : Int) (l0_1 : (List Int)) : I64 a0_0 → (l0_1.length ≤ 9223372036854775807 ∧ ∀ y2 ∈ l0_1, I64 y2) → ∃ k, laws_FnExactPrimeTerms.f k a0_0 l0_1 = some true := by
  rintro _ ⟨hl, _⟩
  apply ev_get
  unfold laws_FnExactPrimeTerms.f
  rw [szTable_eq a0_0 l0_1 hl]
  refine Ev.bind (ev_c rfl) (ev_ite (fun _ => Ev.now _) (fun h => ?_))
  have hl2 := len_pre h
  have hto := toTable_ev a0_0 l0_1 hl2
  have heq := eqTable_same a0_0 l0_1 hl2
  have hs := spec_PrimeTerms_ev a0_0 l0_1 hl
  have hi := impl_PrimeTerms_ev a0_0 l0_1 hl
  have hR := primeTermsM_length a0_0 l0_1
  generalize primeTermsM a0_0 l0_1 = R at hs hi hR
  have heqR := eqTermS_self R.1 (by omega)
  have hmark := markTermS2_ev R.1 (by omega)
  have hheld := heldTermS_ev R.1.length (by omega)
  have hmt := markTable_ev a0_0 l0_1 hl2
  repeat (first
    | (with_reducible exact Ev.now _)
    | (with_reducible refine Ev.bind hto ?_)
    | (with_reducible refine Ev.bind hs ?_)
    | (with_reducible refine Ev.bind hi ?_)
    | (with_reducible refine Ev.bind heq ?_)
    | (with_reducible refine Ev.bind heqR ?_)
    | (with_reducible refine Ev.bind hmark ?_)
    | (with_reducible refine Ev.bind hheld ?_)
    | (with_reducible refine Ev.bind hmt ?_)
    | (with_reducible refine ev_p rfl ?_)
    | (with_reducible refine ev_p True.intro ?_)
    | (refine ev_n ?h ?_; case h => (first | omega | (simp; done) | (simp; omega)))
    | (with_reducible refine ev_up (g := fun n => laws_FnExactPrimeTerms.j0 n _ _ _ _ _ _ _ _ _) ?_; simp only [laws_FnExactPrimeTerms.j0, bne_self_eq_false])
    | (with_reducible refine ev_up (g := fun n => laws_FnExactPrimeTerms.j1 n _ _ _ _ _ _) ?_; simp only [laws_FnExactPrimeTerms.j1, bne_self_eq_false])
    | (with_reducible refine ev_up (g := fun n => laws_FnExactPrimeTerms.j2 n _ _ _) ?_; simp only [laws_FnExactPrimeTerms.j2, bne_self_eq_false]))

end Go.Proofs.Ytcameioepklidaa.Pure
