/- The pure part of the law FnExactIsImplicant: what the program and the reference compute is the same, for all arguments. Conditions: the numbers are of Go's int, the lengths of slices are. -/
import Derived.Test.YtoacnogdjmdicaaPFnExactIsImplicantx4
import Derived.Test.YtoacnogdjmdicaaKit
set_option linter.unusedVariables false
set_option linter.unusedSimpArgs false
namespace Go.Proofs.Ytoacnogdjmdicaa.Pure
open Go.RowKit Go.Proofs.Ytoacnogdjmdicaa.PFnExactIsImplicant Go.Proofs.YtoacnogdjmdicaaW.PrintWords Go.Proofs.YtoacnogdjmdicaaW.PrintLast Go.Proofs.Ytoacnogdjmdicaa.Open Go.Proofs.Ytoacnogdjmdicaa.Kit

/-! #### l1In -/
theorem l1In_eq (a b c : Int) : spec_l1In.f a b c = some (decide (b ≤ a ∧ a ≤ c)) := by
  unfold spec_l1In.f
  by_cases h : b ≤ a
  · rw [if_pos h]; simp [h]
  · rw [if_neg h]; simp [h]

/-! #### l1All -/
def inB (a b : Int) (x : Int) : Bool := decide (a ≤ x ∧ x ≤ b)
theorem l1All_l0 (l : List Int) (a b : Int) (hl : l.length ≤ 9223372036854775807) (r : List Int) : ∀ (p : List Int) (i : Int), i = p.length → l = p ++ r →
    Ev (fun k => spec_l1All.l0 k a b l l.length i) (r.all (inB a b)) := by
  induction r with
  | nil =>
    intro p i hi e
    have hlen : l.length = p.length := by rw [e]; simp
    apply ev_up
    simp only [spec_l1All.l0]
    exact ev_n (by omega) (Ev.now _)
  | cons x r ih =>
    intro p i hi e
    have hlen : l.length = p.length + r.length + 1 := by rw [e]; simp; omega
    have hx : rd l i = x := by rw [e]; exact rdA hi
    have ih' := ih (p ++ [x]) (i + 1) (by simp; omega) (by rw [e]; simp)
    apply ev_up
    simp only [spec_l1All.l0]
    refine ev_p (by omega) (ev_p (by omega) (ev_p (by omega) ?_))
    rw [hx, l1In_eq]
    refine Ev.bind (ev_c rfl) ?_
    refine ev_ite (fun h => ?_) (fun h => ?_)
    · rw [w64 (by omega) (by omega)]
      refine ev_eq ih' ?_
      rw [List.all_cons, show inB a b x = true from h, Bool.true_and]
    · refine ev_eq (Ev.now _) ?_
      rw [List.all_cons, show inB a b x = false from decide_eq_false (fun hh => h (decide_eq_true hh)), Bool.false_and]
theorem l1All_ev (l : List Int) (a b : Int) (hl : l.length ≤ 9223372036854775807) : Ev (fun k => spec_l1All.f k l a b) (l.all (inB a b)) := by
  unfold spec_l1All.f
  exact l1All_l0 l a b hl l [] 0 rfl rfl

/-! #### ttInputs -/
theorem ttInputs_eq (a : Int) : spec_ttInputs.f a = some (decide (0 ≤ a ∧ a ≤ 4)) := by
  unfold spec_ttInputs.f
  rw [l1In_eq, Option.bind_some]

/-! #### tableM -/
def tableM (n : Int) (l : List Int) : Bool := decide (0 ≤ n ∧ n ≤ 4 ∧ l.length = 2 ^ n.toNat) && l.all (inB 0 1)
theorem tableM_of {n : Int} {l : List Int} (h : tableM n l = true) : ∃ a : Nat, n = a ∧ a ≤ 4 ∧ l.length = 2 ^ a ∧ l.length ≤ 16 ∧ ∀ x ∈ l, 0 ≤ x ∧ x ≤ 1 := by
  unfold tableM at h
  rw [Bool.and_eq_true, List.all_eq_true] at h
  obtain ⟨h1, h2, h3⟩ := of_decide_eq_true h.1
  obtain ⟨a, rfl⟩ := nat_of h1
  simp only [Int.toNat_natCast] at h3
  have h8 : 2 ^ a ≤ 2 ^ 4 := Nat.pow_le_pow_right (by decide) (by omega)
  exact ⟨a, rfl, by omega, h3, by omega, fun x hx => of_decide_eq_true (h.2 x hx)⟩

/-! #### spec_ttGood -/
theorem spec_ttGood_ev (n : Int) (l : List Int) (hl : l.length ≤ 9223372036854775807) : Ev (fun k => spec_ttGood.f k n l) (tableM n l) := by
  unfold spec_ttGood.f tableM
  rw [ttInputs_eq]
  refine Ev.bind (ev_c rfl) (ev_ite (fun h => ?_) (fun h => ?_))
  · have h' := of_decide_eq_true h
    obtain ⟨a, rfl⟩ := nat_of h'.1
    rw [u64w (by omega) (by omega), shl1 a (by omega)]
    refine ev_p (by omega) (ev_ite (fun h2 => ?_) (fun h2 => ?_))
    · have h3 : l.length = 2 ^ a := by exact_mod_cast h2
      rw [decide_eq_true ⟨h'.1, h'.2, by simpa using h3⟩, Bool.true_and]
      exact Ev.bind (l1All_ev l 0 1 hl) (Ev.now _)
    · rw [decide_eq_false (fun hh => h2 (by have := hh.2.2; simp only [Int.toNat_natCast] at this; exact_mod_cast this)), Bool.false_and]
      exact Ev.now _
  · rw [decide_eq_false (fun hh => h (decide_eq_true ⟨hh.1, hh.2.1⟩)), Bool.false_and]
    exact Ev.now _

/-! #### impl_areBits -/
theorem impl_areBits_l0 (l : List Int) (hl : l.length ≤ 9223372036854775807) (r : List Int) : ∀ (p : List Int) (i : Int), i = p.length → l = p ++ r →
    Ev (fun k => impl_areBits.l0 k l l.length i) (r.all (inB 0 1)) := by
  induction r with
  | nil =>
    intro p i hi e
    have hlen : l.length = p.length := by rw [e]; simp
    apply ev_up
    simp only [impl_areBits.l0]
    exact ev_n (by omega) (Ev.now _)
  | cons x r ih =>
    intro p i hi e
    have hlen : l.length = p.length + r.length + 1 := by rw [e]; simp; omega
    have hx : rd l i = x := by rw [e]; exact rdA hi
    have ih' := ih (p ++ [x]) (i + 1) (by simp; omega) (by rw [e]; simp)
    apply ev_up
    simp only [impl_areBits.l0]
    refine ev_p (by omega) (ev_p (by omega) (ev_p (by omega) ?_))
    rw [hx, w64 (n := i + 1) (by omega) (by omega)]
    refine ev_ite (fun h => ?_) (fun h => ev_ite (fun h2 => ?_) (fun h2 => ?_))
    · rw [List.all_cons, show inB 0 1 x = true from decide_eq_true (by omega), Bool.true_and]
      exact ih'
    · rw [List.all_cons, show inB 0 1 x = true from decide_eq_true (by omega), Bool.true_and]
      exact ih'
    · rw [List.all_cons, show inB 0 1 x = false from decide_eq_false (by omega), Bool.false_and]
      exact Ev.now _
theorem impl_areBits_ev (l : List Int) (hl : l.length ≤ 9223372036854775807) : Ev (fun k => impl_areBits.f k l) (l.all (inB 0 1)) := by
  unfold impl_areBits.f
  exact impl_areBits_l0 l hl l [] 0 rfl rfl

/-! #### impl_IsTable -/
theorem impl_IsTable_ev (n : Int) (l : List Int) (hl : l.length ≤ 9223372036854775807) : Ev (fun k => impl_IsTable.f k n l) (tableM n l) := by
  unfold impl_IsTable.f tableM
  refine ev_ite (fun h1 => ev_ite (fun h2 => ?_) (fun h2 => ?_)) (fun h1 => ?_)
  · obtain ⟨a, rfl⟩ := nat_of h1
    rw [shl1 a (by omega)]
    refine ev_p (by omega) (ev_ite (fun h3 => ?_) (fun h3 => ?_))
    · have h4 : l.length = 2 ^ a := by exact_mod_cast h3
      rw [decide_eq_true ⟨h1, h2, by simpa using h4⟩, Bool.true_and]
      exact Ev.bind (impl_areBits_ev l hl) (Ev.now _)
    · rw [decide_eq_false (fun hh => h3 (by have := hh.2.2; simp only [Int.toNat_natCast] at this; exact_mod_cast this)), Bool.false_and]
      exact Ev.now _
  · rw [decide_eq_false (fun hh => h2 hh.2.1), Bool.false_and]
    exact Ev.now _
  · rw [decide_eq_false (fun hh => h1 hh.1), Bool.false_and]
    exact Ev.now _

/-! #### isTermM -/
/-- What both call a valid term. -/
def isTermM (n m v : Int) : Bool := decide (0 ≤ n ∧ n ≤ 4 ∧ 0 ≤ m ∧ m < 2 ^ n.toNat ∧ 0 ≤ v ∧ v.toNat &&& m.toNat = v.toNat)
theorem isTermM_nat {n m v : Int} (h : isTermM n m v = true) : ∃ a b c : Nat, n = a ∧ m = b ∧ v = c ∧ a ≤ 4 ∧ b < 2 ^ a ∧ c &&& b = c ∧ c ≤ b ∧ b < 16 := by
  unfold isTermM at h
  simp only [decide_eq_true_eq] at h
  obtain ⟨h1, h2, h3, h4, h5, h6⟩ := h
  obtain ⟨a, rfl⟩ := nat_of h1
  obtain ⟨b, rfl⟩ := nat_of h3
  obtain ⟨c, rfl⟩ := nat_of h5
  simp only [Int.toNat_natCast] at h4 h6
  have h7 : b < 2 ^ a := by exact_mod_cast h4
  have h8 : 2 ^ a ≤ 2 ^ 4 := Nat.pow_le_pow_right (by decide) (by omega)
  refine ⟨a, b, c, rfl, rfl, rfl, by omega, h7, h6, ?_, by omega⟩
  rw [← h6]
  exact Nat.and_le_right

/-! #### spec_nfTerm -/
theorem spec_nfTerm_eq (n m v : Int) (hv : I64 v) : spec_nfTerm.f n m v = some (isTermM n m v) := by
  unfold spec_nfTerm.f
  rw [ttInputs_eq, Option.bind_some]
  by_cases h : 0 ≤ n ∧ n ≤ 4
  · rw [decide_eq_true h, if_pos rfl]
    obtain ⟨a, rfl⟩ := nat_of h.1
    have ha : a ≤ 4 := by omega
    rw [u64w (by omega) (by omega), if_pos (by omega), shl1 a (by omega)]
    have h8 : 2 ^ a ≤ 2 ^ 4 := Nat.pow_le_pow_right (by decide) ha
    have h9 : 0 < 2 ^ a := Nat.two_pow_pos a
    rw [w64 (by omega) (by omega), l1In_eq, Option.bind_some]
    by_cases hm : 0 ≤ m ∧ m ≤ ((2 ^ a : Nat) : Int) - 1
    · rw [decide_eq_true hm, if_pos rfl, l1In_eq, Option.bind_some]
      obtain ⟨b, rfl⟩ := nat_of hm.1
      by_cases hc : 0 ≤ v ∧ v ≤ (b : Int)
      · rw [decide_eq_true hc, if_pos rfl]
        obtain ⟨c, rfl⟩ := nat_of hc.1
        rw [andN c b (by omega) (by omega)]
        unfold isTermM
        simp only [Int.toNat_natCast]
        congr 1
        rw [Bool.eq_iff_iff]
        simp only [beq_iff_eq, decide_eq_true_eq]
        constructor
        · intro e
          refine ⟨by omega, by omega, by omega, ?_, by omega, by omega⟩
          have : b < 2 ^ a := by omega
          exact_mod_cast this
        · rintro ⟨_, _, _, _, _, e⟩
          omega
      · rw [decide_eq_false hc, if_neg (by decide)]
        congr 1
        symm
        unfold isTermM
        apply decide_eq_false
        rintro ⟨_, _, _, _, h5, h6⟩
        obtain ⟨c, rfl⟩ := nat_of h5
        simp only [Int.toNat_natCast] at h6
        have : c &&& b ≤ b := Nat.and_le_right
        omega
    · rw [decide_eq_false hm, if_neg (by decide)]
      congr 1
      symm
      unfold isTermM
      apply decide_eq_false
      rintro ⟨_, _, h3, h4, _, _⟩
      obtain ⟨b, rfl⟩ := nat_of h3
      simp only [Int.toNat_natCast] at h4
      have : b < 2 ^ a := by exact_mod_cast h4
      omega
  · rw [decide_eq_false h, if_neg (by decide)]
    congr 1
    symm
    unfold isTermM
    apply decide_eq_false
    rintro ⟨h1, h2, _⟩
    exact h ⟨h1, h2⟩

/-! #### impl_IsTerm -/
theorem impl_IsTerm_eq (n m v : Int) (hv : I64 v) : impl_IsTerm.f n m v = some (isTermM n m v) := by
  unfold impl_IsTerm.f
  unfold I64 at hv
  by_cases h1 : n ≥ 0
  · rw [if_pos h1]
    by_cases h2 : n ≤ 4
    · rw [if_pos h2]
      by_cases h3 : m ≥ 0
      · rw [if_pos h3, if_pos h1]
        obtain ⟨a, rfl⟩ := nat_of h1
        obtain ⟨b, rfl⟩ := nat_of h3
        rw [shl1 a (by omega)]
        have h8 : 2 ^ a ≤ 2 ^ 4 := Nat.pow_le_pow_right (by decide) (by omega : a ≤ 4)
        by_cases h4 : (b : Int) < ((2 ^ a : Nat) : Int)
        · rw [if_pos h4]
          by_cases h5 : v ≥ 0
          · rw [if_pos h5]
            obtain ⟨c, rfl⟩ := nat_of h5
            rw [andNotN c b (by omega) (by omega)]
            congr 1
            unfold isTermM
            rw [Bool.eq_iff_iff]
            simp only [Int.toNat_natCast, beq_iff_eq, decide_eq_true_eq]
            constructor
            · intro e
              have e2 : c ^^^ (c &&& b) = 0 := by exact_mod_cast e
              refine ⟨by omega, by omega, by omega, by exact_mod_cast h4, by omega, ((xor_eq_zero _ _).1 e2).symm⟩
            · rintro ⟨_, _, _, _, _, e⟩
              rw [e]
              simp
          · rw [if_neg h5]
            congr 1; symm; unfold isTermM
            exact decide_eq_false (fun h => h5 h.2.2.2.2.1)
        · rw [if_neg h4]
          congr 1; symm; unfold isTermM
          exact decide_eq_false (fun h => h4 (by have := h.2.2.2.1; simpa using this))
      · rw [if_neg h3]
        congr 1; symm; unfold isTermM
        exact decide_eq_false (fun h => h3 h.2.2.1)
    · rw [if_neg h2]
      congr 1; symm; unfold isTermM
      exact decide_eq_false (fun h => h2 h.2.1)
  · rw [if_neg h1]
    congr 1; symm; unfold isTermM
    exact decide_eq_false (fun h => h1 h.1)

/-! #### idxN -/
/-- The indices that a term covers, from i on. -/
def idxM (N m v : Nat) : Nat → List Int
  | 0 => []
  | d + 1 => (if (N - (d + 1)) &&& m = v then [((N - (d + 1) : Nat) : Int)] else []) ++ idxM N m v d
theorem idxM_length (N m v d : Nat) : (idxM N m v d).length ≤ d := by
  induction d with
  | zero => simp [idxM]
  | succ d ih => unfold idxM; split <;> simp <;> omega
theorem idxM_mem {N m v d : Nat} {x : Int} (hd : d ≤ N) (h : x ∈ idxM N m v d) : ∃ j : Nat, x = j ∧ N - d ≤ j ∧ j < N ∧ j &&& m = v := by
  induction d with
  | zero => simp [idxM] at h
  | succ d ih =>
    unfold idxM at h
    rw [List.mem_append] at h
    rcases h with h | h
    · split at h
      · rename_i hc
        simp only [List.mem_singleton] at h
        exact ⟨N - (d + 1), h, by omega, by omega, hc⟩
      · simp at h
    · obtain ⟨j, h1, h2, h3, h4⟩ := ih (by omega) h
      exact ⟨j, h1, by omega, h3, h4⟩
theorem mem_idxM {N m v d j : Nat} (hd : d ≤ N) (h1 : N - d ≤ j) (h2 : j < N) (h3 : j &&& m = v) : (j : Int) ∈ idxM N m v d := by
  induction d with
  | zero => omega
  | succ d ih =>
    unfold idxM
    rw [List.mem_append]
    by_cases hj : j = N - (d + 1)
    · left
      rw [← hj, if_pos h3]
      simp
    · right
      exact ih (by omega) (by omega)

/-! #### impliesM -/
def nz (l : List Int) (j : Int) : Bool := decide (rd l j ≠ 0)
/-- Whether a term covers only indices with a value that is not 0. -/
def impliesM (l : List Int) (m v : Nat) : Bool := (idxM l.length m v l.length).all (nz l)

/-! #### spec_nfIndices -/
theorem spec_nfIndices_l0 (a m v : Nat) (ha : a ≤ 4) (hm : m < 65536) (d : Nat) : ∀ (xs : List Int) (i : Nat), i + d = 2 ^ a → xs.length ≤ i →
    Ev (fun k => spec_nfIndices.l0 k a xs i m v) (xs ++ idxM (2 ^ a) m v d) := by
  have h8 : 2 ^ a ≤ 2 ^ 4 := Nat.pow_le_pow_right (by decide) ha
  induction d with
  | zero =>
    intro xs i hi hx
    apply ev_up
    simp only [spec_nfIndices.l0]
    rw [u64w (by omega) (by omega), shl1 a (by omega)]
    refine ev_p (by omega) (ev_n (by omega) ?_)
    simpa [idxM] using Ev.now xs
  | succ d ih =>
    intro xs i hi hx
    apply ev_up
    simp only [spec_nfIndices.l0]
    rw [u64w (by omega) (by omega), shl1 a (by omega)]
    refine ev_p (by omega) (ev_p (by omega) ?_)
    rw [andN i m (by omega) (by omega), wN (m := i + 1) (by omega) (by omega)]
    have e : 2 ^ a - (d + 1) = i := by omega
    refine ev_ite (fun h => ?_) (fun h => ?_)
    · refine ev_p (by omega) ?_
      refine ev_eq (ih _ (i + 1) (by omega) (by simp; omega)) ?_
      have h' : i &&& m = v := by exact_mod_cast h
      simp [idxM, e, h']
    · refine ev_eq (ih _ (i + 1) (by omega) (by omega)) ?_
      have h' : ¬ i &&& m = v := fun h2 => h (by exact_mod_cast h2)
      simp [idxM, e, h']
theorem spec_nfIndices_ev (a m v : Nat) (ha : a ≤ 4) (hm : m < 65536) : Ev (fun k => spec_nfIndices.f k a m v) (idxM (2 ^ a) m v (2 ^ a)) := by
  unfold spec_nfIndices.f
  exact spec_nfIndices_l0 a m v ha hm (2 ^ a) [] 0 (by omega) (by simp)

/-! #### spec_nfImplies -/
theorem spec_nfImplies_l0 (n : Int) (l ks : List Int) (hk : ∀ x ∈ ks, 0 ≤ x ∧ x < l.length) (hl : ks.length ≤ 1048576) (r : List Int) : ∀ (p : List Int) (i : Int), i = p.length → ks = p ++ r →
    Ev (fun k => spec_nfImplies.l0 k ks ks.length i n l) (r.all (nz l)) := by
  induction r with
  | nil =>
    intro p i hi e
    have hlen : ks.length = p.length := by rw [e]; simp
    apply ev_up
    simp only [spec_nfImplies.l0]
    exact ev_n (by omega) (Ev.now _)
  | cons x r ih =>
    intro p i hi e
    have hlen : ks.length = p.length + r.length + 1 := by rw [e]; simp; omega
    have hx : rd ks i = x := by rw [e]; exact rdA hi
    have hxb := hk x (by rw [e]; simp)
    have ih' := ih (p ++ [x]) (i + 1) (by simp; omega) (by rw [e]; simp)
    apply ev_up
    simp only [spec_nfImplies.l0]
    refine ev_p (by omega) (ev_p (by omega) (ev_p (by omega) ?_))
    rw [hx, w64 (n := i + 1) (by omega) (by omega)]
    refine ev_p (by omega) (ev_p (by omega) (ev_ite (fun h => ?_) (fun h => ?_)))
    · rw [List.all_cons, show nz l x = false from decide_eq_false (fun hh => hh h), Bool.false_and]
      exact Ev.now _
    · rw [List.all_cons, show nz l x = true from decide_eq_true h, Bool.true_and]
      exact ih'
theorem spec_nfImplies_ev (a m v : Nat) (l : List Int) (ha : a ≤ 4) (hl : l.length = 2 ^ a) (hm : m < 65536) : Ev (fun k => spec_nfImplies.f k a l m v) (impliesM l m v) := by
  unfold spec_nfImplies.f impliesM
  have h8 : 2 ^ a ≤ 2 ^ 4 := Nat.pow_le_pow_right (by decide) ha
  rw [hl]
  have hi := idxM_length (2 ^ a) m v (2 ^ a)
  refine Ev.bind (spec_nfIndices_ev a m v ha hm) (spec_nfImplies_l0 a l _ (fun x hx => ?_) (by omega) _ [] 0 rfl rfl)
  obtain ⟨j, rfl, _, h2, _⟩ := idxM_mem (Nat.le_refl _) hx
  omega

/-! #### impl_implies -/
theorem impl_implies_l0 (l : List Int) (m v : Nat) (hm : m < 65536) (hl : l.length ≤ 1048576) (d : Nat) : ∀ (i : Nat), i + d = l.length →
    Ev (fun k => impl_implies.l0 k l l.length i m v) ((idxM l.length m v d).all (nz l)) := by
  induction d with
  | zero =>
    intro i hi
    apply ev_up
    simp only [impl_implies.l0]
    exact ev_n (by omega) (Ev.now _)
  | succ d ih =>
    intro i hi
    have e : l.length - (d + 1) = i := by omega
    have ih' := ih (i + 1) (by omega)
    apply ev_up
    simp only [impl_implies.l0]
    refine ev_p (by omega) (ev_p (by omega) (ev_p (by omega) ?_))
    rw [andN i m (by omega) (by omega), wN (m := i + 1) (by omega) (by omega)]
    unfold idxM
    rw [e, List.all_append]
    refine ev_ite (fun h => ev_ite (fun h2 => ?_) (fun h2 => ?_)) (fun h => ?_)
    · have h' : i &&& m = v := by exact_mod_cast h2
      rw [if_pos h', List.all_cons, show nz l (i : Int) = false from decide_eq_false (fun hh => hh h), Bool.false_and, Bool.false_and]
      exact Ev.now _
    · have h' : ¬ i &&& m = v := fun h3 => h2 (by exact_mod_cast h3)
      rw [if_neg h', List.all_nil, Bool.true_and]
      exact ih'
    · have e2 : (if i &&& m = v then [(i : Int)] else []).all (nz l) = true := by
        split
        · simp [nz, h]
        · rfl
      rw [e2, Bool.true_and]
      exact ih'
theorem impl_implies_ev (n : Int) (l : List Int) (m v : Nat) (hm : m < 65536) (hl : l.length ≤ 1048576) : Ev (fun k => impl_implies.f k n l m v) (impliesM l m v) := by
  unfold impl_implies.f impliesM
  exact impl_implies_l0 l m v hm hl l.length 0 (by omega)

/-! #### isImplicant -/
def isImplicantM (n : Int) (l : List Int) (m v : Int) : Bool × Bool := if tableM n l = true ∧ isTermM n m v = true then (impliesM l m.toNat v.toNat, true) else (false, false)
theorem spec_IsImplicant_ev (n : Int) (l : List Int) (m v : Int) (hv : I64 v) (hl : l.length ≤ 9223372036854775807) : Ev (fun k => spec_IsImplicant.f k n l m v) (isImplicantM n l m v) := by
  unfold spec_IsImplicant.f isImplicantM
  refine Ev.bind (spec_ttGood_ev n l hl) (ev_ite (fun h1 => ?_) (fun h1 => ?_))
  · rw [spec_nfTerm_eq n m v hv]
    refine Ev.bind (ev_c rfl) (ev_ite (fun h2 => ?_) (fun h2 => ?_))
    · rw [if_pos ⟨h1, h2⟩]
      obtain ⟨a, rfl, ha, hla, _⟩ := tableM_of h1
      obtain ⟨_, b, c, _, rfl, rfl, _, _, _, _, hb⟩ := isTermM_nat h2
      exact Ev.bind (spec_nfImplies_ev a b c l ha hla (by omega)) (Ev.now _)
    · rw [if_neg (fun h => h2 h.2)]
      exact Ev.now _
  · rw [if_neg (fun h => h1 h.1)]
    exact Ev.now _
theorem impl_IsImplicant_ev (n : Int) (l : List Int) (m v : Int) (hv : I64 v) (hl : l.length ≤ 9223372036854775807) : Ev (fun k => impl_IsImplicant.f k n l m v) (isImplicantM n l m v) := by
  unfold impl_IsImplicant.f isImplicantM
  refine Ev.bind (impl_IsTable_ev n l hl) (ev_ite (fun h1 => ?_) (fun h1 => ?_))
  · rw [impl_IsTerm_eq n m v hv]
    refine Ev.bind (ev_c rfl) (ev_ite (fun h2 => ?_) (fun h2 => ?_))
    · rw [if_pos ⟨h1, h2⟩]
      obtain ⟨a, rfl, ha, hla, hl16, _⟩ := tableM_of h1
      obtain ⟨_, b, c, _, rfl, rfl, _, _, _, _, hb⟩ := isTermM_nat h2
      exact Ev.bind (impl_implies_ev a l b c (by omega) (by omega)) (Ev.now _)
    · rw [if_neg (fun h => h2 h.2)]
      exact Ev.now _
  · rw [if_neg (fun h => h1 h.1)]
    exact Ev.now _

/-! #### szIntS -/
theorem szIntS_eq (l : List Int) (a : Int) (ha : 0 ≤ a) (ha2 : a ≤ 1048576) (hl : l.length ≤ 9223372036854775807) : laws_szIntS.f l a = some (if l.length ≤ a then a - l.length else -1) := by
  unfold laws_szIntS.f
  rw [w64 (by omega) (by omega)]
  by_cases h : (l.length : Int) ≤ a
  · rw [if_neg (by omega), if_pos h]
  · rw [if_pos (by omega), if_neg h]

/-! #### szTable -/
theorem szTable_eq (n : Int) (l : List Int) (hl : l.length ≤ 9223372036854775807) : laws_szTable.f n l 1048576 = some (if (l.length : Int) ≤ 1048576 then (1048576 : Int) - l.length else -1) := by
  unfold laws_szTable.f
  rw [szIntS_eq l 1048576 (by omega) (by omega) hl, Option.bind_some]
  by_cases h : (l.length : Int) ≤ 1048576
  · rw [if_pos h, if_neg (by omega)]
  · rw [if_neg h, if_pos (by decide)]

/-! #### toIntS -/
theorem toIntS_l0 (r : List Int) : ∀ (p z : List Int) (i : Int), i = p.length → z.length = r.length → p.length + r.length ≤ 9223372036854775806 →
    Ev (fun k => laws_toIntS.l0 k (p ++ r) (p ++ z) i) (p ++ r) := by
  induction r with
  | nil =>
    intro p z i hi hz hb
    obtain rfl : z = [] := List.length_eq_zero_iff.1 hz
    apply ev_up
    simp only [laws_toIntS.l0]
    refine ev_n (by simp; omega) ?_
    exact Ev.now _
  | cons x r ih =>
    intro p z i hi hz hb
    match z, hz with
    | y :: z, hz =>
      simp only [List.length_cons] at hz hb
      apply ev_up
      simp only [laws_toIntS.l0]
      refine ev_p (by simp; omega) (ev_p (by omega) (ev_p (by simp; omega) ?_))
      rw [rdA hi, setA hi, w64 (by omega) (by omega), appA]
      exact ih (p ++ [x]) z (i + 1) (by simp; omega) (by omega) (by simp; omega)
theorem toIntS_ev (a : List Int) (h : a.length ≤ 35184372088832) : Ev (fun k => laws_toIntS.f k a) a := by
  unfold laws_toIntS.f
  refine ev_p (by omega) (ev_p (by omega) ?_)
  exact toIntS_l0 a [] (List.replicate ((a.length : Int)).toNat 0) 0 rfl (by simp) (by simp; omega)
/-! #### toTable -/
theorem toTable_ev (n : Int) (l : List Int) (hl : l.length ≤ 1048576) : Ev (fun k => laws_toTable.f k n l) (n, l) := by
  unfold laws_toTable.f
  exact Ev.bind (toIntS_ev l (by omega)) (Ev.now _)

/-! #### eqIntS -/
theorem eqIntS_l0 (r : List Int) : ∀ (s p q : List Int) (i : Int), i = p.length → p.length = q.length → r.length = s.length → p.length + r.length ≤ 9223372036854775807 →
    Ev (fun k => laws_eqIntS.l0 k (p ++ r) (q ++ s) i) (decide (r = s)) := by
  induction r with
  | nil =>
    intro s p q i hi hpq hrs hb
    obtain rfl : s = [] := List.length_eq_zero_iff.1 hrs.symm
    apply ev_up
    simp only [laws_eqIntS.l0]
    refine ev_n (by simp; omega) ?_
    simpa using Ev.now true
  | cons x r ih =>
    intro s p q i hi hpq hrs hb
    match s, hrs with
    | y :: s, hrs =>
      simp only [List.length_cons] at hrs hb
      apply ev_up
      simp only [laws_eqIntS.l0]
      refine ev_p (by simp; omega) (ev_p (by omega) (ev_p (by simp; omega) ?_))
      rw [rdA hi, rdA (by omega)]
      refine ev_ite (fun hxy => ?_) (fun hxy => ?_)
      · subst hxy
        rw [w64 (by omega) (by omega), appA, appA (p := q)]
        refine ev_eq (ih s (p ++ [x]) (q ++ [x]) (i + 1) (by simp; omega) (by simp; omega) (by omega) (by simp; omega)) ?_
        simp
      · refine ev_eq (Ev.now false) ?_
        simp [hxy]
theorem eqIntS_ev (a b : List Int) (h : a.length ≤ 9223372036854775807) : Ev (fun k => laws_eqIntS.f k a b) (decide (a = b)) := by
  unfold laws_eqIntS.f
  refine ev_ite (fun hl => ?_) (fun hl => ?_)
  · exact eqIntS_l0 a b [] [] 0 rfl rfl (by omega) (by simpa using h)
  · refine ev_eq (Ev.now false) ?_
    symm
    apply decide_eq_false
    rintro rfl
    exact hl rfl

/-! #### eqTable -/
theorem eqTable_same (n : Int) (l : List Int) (hl : l.length ≤ 1048576) : Ev (fun k => laws_eqTable.f k n l n l) true := by
  unfold laws_eqTable.f
  have heq : Ev (fun k => laws_eqIntS.f k l l) true := by simpa using eqIntS_ev l l (by omega)
  exact ev_p rfl (Ev.bind heq (ev_p rfl (Ev.now _)))

/-! #### lenPre -/
theorem len_pre {n : Nat} (h : ¬ (if (n : Int) ≤ 1048576 then (1048576 : Int) - n else -1) < 0) : n ≤ 1048576 := by
  by_cases h2 : (n : Int) ≤ 1048576
  · omega
  · rw [if_neg h2] at h
    exact absurd (by decide) h

/-! #### FnExactIsImplicant -/
theorem FnExactIsImplicant (a0_0 : Int) (a0_1 : (List Int)) (a1_0 : Int) (a1_1 : Int) : I64 a0_0 → (a0_1.length ≤ 9223372036854775807 ∧ ∀ y2 ∈ a0_1, I64 y2) → I64 a1_0 → I64 a1_1 → ∃ k, laws_FnExactIsImplicant.f k a0_0 a0_1 a1_0 a1_1 = some true := by
  rintro _ ⟨hl, _⟩ _ hv
  apply ev_get
  unfold laws_FnExactIsImplicant.f
  rw [szTable_eq a0_0 a0_1 hl]
  refine Ev.bind (ev_c rfl) (ev_ite (fun _ => Ev.now _) (fun h => ?_))
  have hl2 := len_pre h
  have hto := toTable_ev a0_0 a0_1 hl2
  have heq := eqTable_same a0_0 a0_1 hl2
  have htt : Ev (fun _ => laws_toTerm.f a1_0 a1_1) (a1_0, a1_1) := ev_c rfl
  have hs := spec_IsImplicant_ev a0_0 a0_1 a1_0 a1_1 hv hl
  have hi := impl_IsImplicant_ev a0_0 a0_1 a1_0 a1_1 hv hl
  repeat (first
    | (with_reducible exact Ev.now _)
    | (with_reducible refine Ev.bind hto ?_)
    | (with_reducible refine Ev.bind htt ?_)
    | (with_reducible refine Ev.bind hs ?_)
    | (with_reducible refine Ev.bind hi ?_)
    | (with_reducible refine Ev.bind heq ?_)
    | (with_reducible refine ev_p rfl ?_)
    | (with_reducible refine ev_p True.intro ?_)
    | (refine ev_n ?h ?_; case h => (first | omega | (simp; done) | (simp; omega)))
    | (with_reducible refine ev_up (g := fun n => laws_FnExactIsImplicant.j0 n _ _ _ _ _) ?_; simp only [laws_FnExactIsImplicant.j0, bne_self_eq_false]))

end Go.Proofs.Ytoacnogdjmdicaa.Pure
