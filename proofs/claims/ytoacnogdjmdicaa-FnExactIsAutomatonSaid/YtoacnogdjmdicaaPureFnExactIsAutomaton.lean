/- The pure part of the law FnExactIsAutomaton: what the program and the reference compute is the same, for all arguments. Conditions: the numbers are of Go's int, the lengths of slices are. -/
import Derived.Test.YtoacnogdjmdicaaQFnExactIsAutomatonx4
import Derived.Test.YtoacnogdjmdicaaKit
set_option linter.unusedVariables false
set_option linter.unusedSimpArgs false
namespace Go.Proofs.Ytoacnogdjmdicaa.Pure
open Go.RowKit Go.Proofs.Ytoacnogdjmdicaa.QFnExactIsAutomaton Go.Proofs.YtoacnogdjmdicaaW.PrintWords Go.Proofs.YtoacnogdjmdicaaW.PrintLast Go.Proofs.Ytoacnogdjmdicaa.Open Go.Proofs.Ytoacnogdjmdicaa.Kit

/-! #### szIntS -/
theorem szIntS_eq (l : List Int) (a : Int) (ha : 0 ≤ a) (ha2 : a ≤ 1048576) (hl : l.length ≤ 9223372036854775807) : laws_szIntS.f l a = some (if l.length ≤ a then a - l.length else -1) := by
  unfold laws_szIntS.f
  rw [w64 (by omega) (by omega)]
  by_cases h : (l.length : Int) ≤ a
  · rw [if_neg (by omega), if_pos h]
  · rw [if_pos (by omega), if_neg h]

/-! #### rdII -/
theorem rdIIA {p r : List (List Int)} {x : List Int} {i : Int} (hi : i = p.length) : rd_L1 (p ++ x :: r) i = x := getDA hi

/-! #### szIntSS -/
theorem szIntSS_l0 (r : List (List Int)) : ∀ (p : List (List Int)) (a i : Int), i = p.length → p.length + r.length ≤ 9223372036854775807 → 0 ≤ a → a ≤ 1048576 → (∀ y ∈ r, y.length ≤ 9223372036854775807) →
    ∃ t, Ev (fun k => laws_szIntSS.l0 k (p ++ r) a i) t ∧ (0 ≤ t → t ≤ a ∧ ∀ y ∈ r, y.length ≤ 1048576) := by
  induction r with
  | nil =>
    intro p a i hi hb h0 h1 hy
    refine ⟨a, ?_, fun _ => ⟨Int.le_refl _, fun y hy => by simp at hy⟩⟩
    apply ev_up
    simp only [laws_szIntSS.l0]
    exact ev_n (by simp; omega) (Ev.now _)
  | cons x r ih =>
    intro p a i hi hb h0 h1 hy
    simp only [List.length_cons] at hb
    have hx := hy x (by simp)
    by_cases hc : (x.length : Int) ≤ a
    · obtain ⟨t, ht, hq⟩ := ih (p ++ [x]) (a - x.length) (i + 1) (by simp; omega) (by simp; omega) (by omega) (by omega) (fun y h => hy y (by simp [h]))
      refine ⟨t, ?_, fun h => ⟨by have := (hq h).1; omega, ?_⟩⟩
      · apply ev_up
        simp only [laws_szIntSS.l0]
        refine ev_p (by simp; omega) (ev_p (by omega) ?_)
        rw [rdIIA hi, szIntS_eq x a h0 h1 hx, if_pos hc]
        refine Ev.bind (ev_c rfl) (ev_n (by omega) ?_)
        rw [w64 (by omega) (by omega), appA]
        exact ht
      · intro y hy'
        simp only [List.mem_cons] at hy'
        rcases hy' with rfl | hy'
        · omega
        · exact (hq h).2 y hy'
    · refine ⟨-1, ?_, fun h => absurd h (by decide)⟩
      apply ev_up
      simp only [laws_szIntSS.l0]
      refine ev_p (by simp; omega) (ev_p (by omega) ?_)
      rw [rdIIA hi, szIntS_eq x a h0 h1 hx, if_neg hc]
      exact Ev.bind (ev_c rfl) (ev_p (by decide) (Ev.now _))
theorem szIntSS_ev (l : List (List Int)) (a : Int) (h0 : 0 ≤ a) (h1 : a ≤ 1048576) (hl : l.length ≤ 9223372036854775807) (hy : ∀ y ∈ l, y.length ≤ 9223372036854775807) :
    ∃ t, Ev (fun k => laws_szIntSS.f k l a) t ∧ (0 ≤ t → t ≤ a ∧ l.length ≤ 1048576 ∧ ∀ y ∈ l, y.length ≤ 1048576) := by
  unfold laws_szIntSS.f
  rw [w64 (by omega) (by omega)]
  by_cases h : (l.length : Int) ≤ a
  · obtain ⟨t, ht, hq⟩ := szIntSS_l0 l [] (a - l.length) 0 rfl (by simpa using hl) (by omega) (by omega) hy
    exact ⟨t, ev_n (by omega) ht, fun h2 => ⟨by have := (hq h2).1; omega, by omega, (hq h2).2⟩⟩
  · exact ⟨-1, ev_p (by omega) (Ev.now _), fun h => absurd h (by decide)⟩

/-! #### toIntS -/
theorem toIntS_l0 (r : List Int) : ∀ (p z : List Int) (i : Int), i = p.length → z.length = r.length → p.length + r.length ≤ 9223372036854775806 →
    Ev (fun k => laws_toIntS.l0 k (p ++ r) (p ++ z) i) (p ++ r) := by
  induction r with
  | nil =>
    intro p z i hi hz hb
    obtain rfl : z = [] := List.length_eq_zero_iff.1 hz
    apply ev_up
    simp only [laws_toIntS.l0]
    refine ev_n (by simp; omega) ?_
    exact Ev.now _
  | cons x r ih =>
    intro p z i hi hz hb
    match z, hz with
    | y :: z, hz =>
      simp only [List.length_cons] at hz hb
      apply ev_up
      simp only [laws_toIntS.l0]
      refine ev_p (by simp; omega) (ev_p (by omega) (ev_p (by simp; omega) ?_))
      rw [rdA hi, setA hi, w64 (by omega) (by omega), appA]
      exact ih (p ++ [x]) z (i + 1) (by simp; omega) (by omega) (by simp; omega)
theorem toIntS_ev (a : List Int) (h : a.length ≤ 35184372088832) : Ev (fun k => laws_toIntS.f k a) a := by
  unfold laws_toIntS.f
  refine ev_p (by omega) (ev_p (by omega) ?_)
  exact toIntS_l0 a [] (List.replicate ((a.length : Int)).toNat 0) 0 rfl (by simp) (by simp; omega)
/-! #### toIntSS -/
theorem toIntSS_l0 (r : List (List Int)) : ∀ (p z : List (List Int)) (i : Int), i = p.length → z.length = r.length → p.length + r.length ≤ 9223372036854775806 → (∀ y ∈ r, y.length ≤ 1048576) →
    Ev (fun k => laws_toIntSS.l0 k (p ++ r) (p ++ z) i) (p ++ r) := by
  induction r with
  | nil =>
    intro p z i hi hz hb hy
    obtain rfl : z = [] := List.length_eq_zero_iff.1 hz
    apply ev_up
    simp only [laws_toIntSS.l0]
    exact ev_n (by simp; omega) (Ev.now _)
  | cons x r ih =>
    intro p z i hi hz hb hy
    match z, hz with
    | y :: z, hz =>
      simp only [List.length_cons] at hz hb
      have hx := hy x (by simp)
      apply ev_up
      simp only [laws_toIntSS.l0]
      refine ev_p (by simp; omega) (ev_p (by omega) ?_)
      rw [rdIIA hi]
      refine Ev.bind (toIntS_ev x (by omega)) (ev_p (by simp; omega) ?_)
      rw [setA hi, w64 (by omega) (by omega), appA]
      exact ih (p ++ [x]) z (i + 1) (by simp; omega) (by omega) (by simp; omega) (fun y h => hy y (by simp [h]))
theorem toIntSS_ev (l : List (List Int)) (h : l.length ≤ 1048576) (hy : ∀ y ∈ l, y.length ≤ 1048576) : Ev (fun k => laws_toIntSS.f k l) l := by
  unfold laws_toIntSS.f
  refine ev_p (by omega) (ev_p (by omega) ?_)
  exact toIntSS_l0 l [] (List.replicate ((l.length : Int)).toNat []) 0 rfl (by simp) (by simp; omega) hy

/-! #### eqIntS -/
theorem eqIntS_l0 (r : List Int) : ∀ (s p q : List Int) (i : Int), i = p.length → p.length = q.length → r.length = s.length → p.length + r.length ≤ 9223372036854775807 →
    Ev (fun k => laws_eqIntS.l0 k (p ++ r) (q ++ s) i) (decide (r = s)) := by
  induction r with
  | nil =>
    intro s p q i hi hpq hrs hb
    obtain rfl : s = [] := List.length_eq_zero_iff.1 hrs.symm
    apply ev_up
    simp only [laws_eqIntS.l0]
    refine ev_n (by simp; omega) ?_
    simpa using Ev.now true
  | cons x r ih =>
    intro s p q i hi hpq hrs hb
    match s, hrs with
    | y :: s, hrs =>
      simp only [List.length_cons] at hrs hb
      apply ev_up
      simp only [laws_eqIntS.l0]
      refine ev_p (by simp; omega) (ev_p (by omega) (ev_p (by simp; omega) ?_))
      rw [rdA hi, rdA (by omega)]
      refine ev_ite (fun hxy => ?_) (fun hxy => ?_)
      · subst hxy
        rw [w64 (by omega) (by omega), appA, appA (p := q)]
        refine ev_eq (ih s (p ++ [x]) (q ++ [x]) (i + 1) (by simp; omega) (by simp; omega) (by omega) (by simp; omega)) ?_
        simp
      · refine ev_eq (Ev.now false) ?_
        simp [hxy]
theorem eqIntS_ev (a b : List Int) (h : a.length ≤ 9223372036854775807) : Ev (fun k => laws_eqIntS.f k a b) (decide (a = b)) := by
  unfold laws_eqIntS.f
  refine ev_ite (fun hl => ?_) (fun hl => ?_)
  · exact eqIntS_l0 a b [] [] 0 rfl rfl (by omega) (by simpa using h)
  · refine ev_eq (Ev.now false) ?_
    symm
    apply decide_eq_false
    rintro rfl
    exact hl rfl

/-! #### eqIntSS -/
theorem eqIntSS_l0 (r : List (List Int)) : ∀ (s p q : List (List Int)) (i : Int), i = p.length → p.length = q.length → r.length = s.length → p.length + r.length ≤ 9223372036854775807 → (∀ y ∈ r, y.length ≤ 9223372036854775807) →
    Ev (fun k => laws_eqIntSS.l0 k (p ++ r) (q ++ s) i) (decide (r = s)) := by
  induction r with
  | nil =>
    intro s p q i hi hpq hrs hb hy
    obtain rfl : s = [] := List.length_eq_zero_iff.1 hrs.symm
    apply ev_up
    simp only [laws_eqIntSS.l0]
    refine ev_n (by simp; omega) ?_
    simpa using Ev.now true
  | cons x r ih =>
    intro s p q i hi hpq hrs hb hy
    match s, hrs with
    | y :: s, hrs =>
      simp only [List.length_cons] at hrs hb
      apply ev_up
      simp only [laws_eqIntSS.l0]
      refine ev_p (by simp; omega) (ev_p (by omega) (ev_p (by simp; omega) ?_))
      rw [rdIIA hi, rdIIA (by omega)]
      refine Ev.bind (eqIntS_ev x y (hy x (by simp))) ?_
      refine ev_ite (fun hxy => ?_) (fun hxy => ?_)
      · obtain rfl := of_decide_eq_true hxy
        rw [w64 (by omega) (by omega), appA, appA (p := q)]
        refine ev_eq (ih s (p ++ [x]) (q ++ [x]) (i + 1) (by simp; omega) (by simp; omega) (by omega) (by simp; omega) (fun y h => hy y (by simp [h]))) ?_
        simp
      · refine ev_eq (Ev.now false) ?_
        have hxy' : ¬ x = y := fun e => hxy (decide_eq_true e)
        simp [hxy']
theorem eqIntSS_ev (a b : List (List Int)) (h : a.length ≤ 9223372036854775807) (hy : ∀ y ∈ a, y.length ≤ 9223372036854775807) : Ev (fun k => laws_eqIntSS.f k a b) (decide (a = b)) := by
  unfold laws_eqIntSS.f
  refine ev_ite (fun hl => ?_) (fun hl => ?_)
  · exact eqIntSS_l0 a b [] [] 0 rfl rfl (by omega) (by simpa using h) hy
  · refine ev_eq (Ev.now false) ?_
    symm
    apply decide_eq_false
    rintro rfl
    exact hl rfl

/-! #### lawAuto -/
theorem szAutomaton_ev (n : Int) (nx : List (List Int)) (fs : List Int) (hx : nx.length ≤ 9223372036854775807) (hr : ∀ y ∈ nx, y.length ≤ 9223372036854775807) (hf : fs.length ≤ 9223372036854775807) :
    ∃ t, Ev (fun k => laws_szAutomaton.f k n nx fs 1048576) t ∧ (¬ t < 0 → nx.length ≤ 1048576 ∧ (∀ y ∈ nx, y.length ≤ 1048576) ∧ fs.length ≤ 1048576) := by
  unfold laws_szAutomaton.f
  obtain ⟨t, ht, hq⟩ := szIntSS_ev nx 1048576 (by omega) (by omega) hx hr
  by_cases h : t < 0
  · exact ⟨-1, Ev.bind ht (ev_p h (Ev.now _)), fun hh => absurd (by decide) hh⟩
  · obtain ⟨h1, h2, h3⟩ := hq (by omega)
    by_cases h4 : (fs.length : Int) ≤ t
    · refine ⟨t - fs.length, Ev.bind ht (ev_n h ?_), fun _ => ⟨h2, h3, by omega⟩⟩
      rw [szIntS_eq fs t (by omega) h1 hf, if_pos h4]
      exact Ev.bind (ev_c rfl) (ev_n (by omega) (Ev.now _))
    · refine ⟨-1, Ev.bind ht (ev_n h ?_), fun hh => absurd (by decide) hh⟩
      rw [szIntS_eq fs t (by omega) h1 hf, if_neg h4]
      exact Ev.bind (ev_c rfl) (ev_p (by decide) (Ev.now _))
theorem toAutomaton_ev (n : Int) (nx : List (List Int)) (fs : List Int) (hx : nx.length ≤ 1048576) (hr : ∀ y ∈ nx, y.length ≤ 1048576) (hf : fs.length ≤ 1048576) : Ev (fun k => laws_toAutomaton.f k n nx fs) (n, nx, fs) := by
  unfold laws_toAutomaton.f
  exact Ev.bind (toIntSS_ev nx hx hr) (Ev.bind (toIntS_ev fs (by omega)) (Ev.now _))
theorem eqAutomaton_self (n : Int) (nx : List (List Int)) (fs : List Int) (hx : nx.length ≤ 1048576) (hr : ∀ y ∈ nx, y.length ≤ 1048576) (hf : fs.length ≤ 1048576) : Ev (fun k => laws_eqAutomaton.f k n nx fs n nx fs) true := by
  unfold laws_eqAutomaton.f
  have h1 : Ev (fun k => laws_eqIntSS.f k nx nx) true := by simpa using eqIntSS_ev nx nx (by omega) (fun y h => by have := hr y h; omega)
  have h2 : Ev (fun k => laws_eqIntS.f k fs fs) true := by simpa using eqIntS_ev fs fs (by omega)
  exact ev_p rfl (Ev.bind h1 (ev_p rfl (Ev.bind h2 (ev_p rfl (Ev.now _)))))

/-! #### l1In -/
theorem l1In_eq (a b c : Int) : spec_l1In.f a b c = some (decide (b ≤ a ∧ a ≤ c)) := by
  unfold spec_l1In.f
  by_cases h : b ≤ a
  · rw [if_pos h]; simp [h]
  · rw [if_neg h]; simp [h]

/-! #### risingM -/
/-- Strictly increasing from behind prev on, up to hi. -/
def risingM (hi : Int) : Int → List Int → Bool
  | _, [] => true
  | prev, x :: r => decide (0 ≤ x ∧ x ≤ hi ∧ prev < x) && risingM hi x r
theorem spec_l1Rising_l0 (l : List Int) (hi : Int) (hl : l.length ≤ 1048576) (r : List Int) : ∀ (p : List Int) (i prev : Int), i = p.length → l = p ++ r → (i = 0 ∧ prev = -1 ∨ 0 < i ∧ rd l (i - 1) = prev) →
    Ev (fun k => spec_l1Rising.l0 k l 0 hi l l.length i) (risingM hi prev r) := by
  induction r with
  | nil =>
    intro p i prev hi' e hp
    have hlen : l.length = p.length := by rw [e]; simp
    apply ev_up
    simp only [spec_l1Rising.l0]
    exact ev_n (by omega) (Ev.now _)
  | cons x r ih =>
    intro p i prev hi' e hp
    have hlen : l.length = p.length + r.length + 1 := by rw [e]; simp; omega
    have hx : rd l i = x := by rw [e]; exact rdA hi'
    have ih' := ih (p ++ [x]) (i + 1) x (by simp; omega) (by rw [e]; simp) (Or.inr ⟨by omega, by rw [Int.add_sub_cancel]; exact hx⟩)
    apply ev_up
    simp only [spec_l1Rising.l0]
    refine ev_p (by omega) (ev_p (by omega) (ev_p (by omega) ?_))
    rw [hx, w64 (n := i + 1) (by omega) (by omega), w64 (n := i - 1) (by omega) (by omega), l1In_eq]
    refine Ev.bind (ev_c rfl) (ev_ite (fun h1 => ?_) (fun h1 => ?_))
    · have h1' := of_decide_eq_true h1
      refine ev_ite (fun h2 => ?_) (fun h2 => ?_)
      · rcases hp with hp | ⟨_, hp⟩
        · omega
        · refine ev_p (by omega) (ev_p (by omega) ?_)
          rw [hp]
          refine ev_ite (fun h3 => ?_) (fun h3 => ?_)
          · rw [risingM, decide_eq_false (by omega), Bool.false_and]
            exact Ev.now _
          · rw [risingM, decide_eq_true (by omega), Bool.true_and]
            exact ih'
      · rcases hp with ⟨_, hp⟩ | ⟨hp, _⟩
        · rw [risingM, decide_eq_true (by omega), Bool.true_and]
          exact ih'
        · omega
    · rw [risingM, decide_eq_false (fun hh => h1 (decide_eq_true ⟨hh.1, hh.2.1⟩)), Bool.false_and]
      exact Ev.now _
theorem spec_l1Rising_ev (l : List Int) (hi : Int) (hl : l.length ≤ 1048576) : Ev (fun k => spec_l1Rising.f k l 0 hi) (risingM hi (-1) l) := by
  unfold spec_l1Rising.f
  exact spec_l1Rising_l0 l hi hl l [] 0 (-1) rfl rfl (Or.inl ⟨rfl, rfl⟩)

/-! #### l1All -/
def inB (a b : Int) (x : Int) : Bool := decide (a ≤ x ∧ x ≤ b)
theorem l1All_l0 (l : List Int) (a b : Int) (hl : l.length ≤ 9223372036854775807) (r : List Int) : ∀ (p : List Int) (i : Int), i = p.length → l = p ++ r →
    Ev (fun k => spec_l1All.l0 k a b l l.length i) (r.all (inB a b)) := by
  induction r with
  | nil =>
    intro p i hi e
    have hlen : l.length = p.length := by rw [e]; simp
    apply ev_up
    simp only [spec_l1All.l0]
    exact ev_n (by omega) (Ev.now _)
  | cons x r ih =>
    intro p i hi e
    have hlen : l.length = p.length + r.length + 1 := by rw [e]; simp; omega
    have hx : rd l i = x := by rw [e]; exact rdA hi
    have ih' := ih (p ++ [x]) (i + 1) (by simp; omega) (by rw [e]; simp)
    apply ev_up
    simp only [spec_l1All.l0]
    refine ev_p (by omega) (ev_p (by omega) (ev_p (by omega) ?_))
    rw [hx, l1In_eq]
    refine Ev.bind (ev_c rfl) ?_
    refine ev_ite (fun h => ?_) (fun h => ?_)
    · rw [w64 (by omega) (by omega)]
      refine ev_eq ih' ?_
      rw [List.all_cons, show inB a b x = true from h, Bool.true_and]
    · refine ev_eq (Ev.now _) ?_
      rw [List.all_cons, show inB a b x = false from decide_eq_false (fun hh => h (decide_eq_true hh)), Bool.false_and]
theorem l1All_ev (l : List Int) (a b : Int) (hl : l.length ≤ 9223372036854775807) : Ev (fun k => spec_l1All.f k l a b) (l.all (inB a b)) := by
  unfold spec_l1All.f
  exact l1All_l0 l a b hl l [] 0 rfl rfl

/-! #### autoM -/
def rowOk (n : Int) (hi : Int) (w : List Int) : Bool := decide ((w.length : Int) = n) && w.all (inB 0 hi)
def autoM (n : Int) (nx : List (List Int)) (fs : List Int) : Bool := decide (1 ≤ n ∧ n ≤ 3 ∧ 1 ≤ nx.length ∧ nx.length ≤ 12) && (nx.all (rowOk n (nx.length - 1)) && risingM (nx.length - 1) (-1) fs)

/-! #### spec_auGood -/
theorem spec_auGood_l0 (n : Int) (nx : List (List Int)) (fs : List Int) (hx : nx.length ≤ 1048576) (hr : ∀ y ∈ nx, y.length ≤ 1048576) (hf : fs.length ≤ 1048576) (r : List (List Int)) : ∀ (p : List (List Int)) (i : Int), i = p.length → nx = p ++ r →
    Ev (fun k => spec_auGood.l0 k nx nx.length i n nx fs) (decide (1 ≤ n ∧ n ≤ 3 ∧ 1 ≤ nx.length ∧ nx.length ≤ 12) && (r.all (rowOk n (nx.length - 1)) && risingM (nx.length - 1) (-1) fs)) := by
  induction r with
  | nil =>
    intro p i hi e
    have hlen : nx.length = p.length := by rw [e]; simp
    apply ev_up
    simp only [spec_auGood.l0]
    rw [List.all_nil, Bool.true_and, l1In_eq, l1In_eq, w64 (n := (nx.length : Int) - 1) (by omega) (by omega)]
    refine ev_n (by omega) (Ev.bind (ev_c rfl) (ev_ite (fun h1 => Ev.bind (ev_c rfl) (ev_ite (fun h2 => ?_) (fun h2 => ?_))) (fun h1 => ?_)))
    · have h1' := of_decide_eq_true h1
      have h2' := of_decide_eq_true h2
      rw [decide_eq_true (by omega), Bool.true_and]
      exact Ev.bind (spec_l1Rising_ev fs _ hf) (Ev.now _)
    · rw [decide_eq_false (fun hh => h2 (decide_eq_true (by omega))), Bool.false_and]
      exact Ev.now _
    · rw [decide_eq_false (fun hh => h1 (decide_eq_true ⟨hh.1, hh.2.1⟩)), Bool.false_and]
      exact Ev.now _
  | cons x r ih =>
    intro p i hi e
    have hlen : nx.length = p.length + r.length + 1 := by rw [e]; simp; omega
    have hxx : rd_L1 nx i = x := by rw [e]; exact rdIIA hi
    have ih' := ih (p ++ [x]) (i + 1) (by simp; omega) (by rw [e]; simp)
    have no : rowOk n (nx.length - 1) x = false → Ev (fun _ => some false) (decide (1 ≤ n ∧ n ≤ 3 ∧ 1 ≤ nx.length ∧ nx.length ≤ 12) && ((x :: r).all (rowOk n (nx.length - 1)) && risingM (nx.length - 1) (-1) fs)) := fun h => by
      rw [List.all_cons, h, Bool.false_and, Bool.false_and, Bool.and_false]
      exact Ev.now _
    apply ev_up
    simp only [spec_auGood.l0]
    refine ev_p (by omega) (ev_p (by omega) (ev_p (by omega) ?_))
    rw [hxx, w64 (n := i + 1) (by omega) (by omega), w64 (n := (nx.length : Int) - 1) (by omega) (by omega)]
    refine ev_ite (fun h1 => Ev.bind (l1All_ev x 0 _ (by have := hr x (by rw [e]; simp); omega)) (ev_ite (fun h2 => ?_) (fun h2 => ?_))) (fun h1 => ?_)
    · have : rowOk n (nx.length - 1) x = true := by unfold rowOk; rw [decide_eq_true h1, h2]; rfl
      rw [List.all_cons, this, Bool.true_and]
      exact ih'
    · exact no (by unfold rowOk; rw [show x.all (inB 0 (nx.length - 1)) = false by simpa using h2, Bool.and_false])
    · exact no (by unfold rowOk; rw [decide_eq_false h1, Bool.false_and])
theorem spec_auGood_ev (n : Int) (nx : List (List Int)) (fs : List Int) (hx : nx.length ≤ 1048576) (hr : ∀ y ∈ nx, y.length ≤ 1048576) (hf : fs.length ≤ 1048576) : Ev (fun k => spec_auGood.f k n nx fs) (autoM n nx fs) := by
  unfold spec_auGood.f autoM
  exact spec_auGood_l0 n nx fs hx hr hf nx [] 0 rfl rfl

/-! #### impl_IsAutomaton -/
theorem impl_IsAutomaton_l2 (n : Int) (nx : List (List Int)) (l : List Int) (hx : nx.length ≤ 1048576) (hl : l.length ≤ 1048576) (r : List Int) : ∀ (p : List Int) (i prev : Int), i = p.length → l = p ++ r → (i = 0 ∧ prev = -1 ∨ 0 < i ∧ rd l (i - 1) = prev) →
    Ev (fun k => impl_IsAutomaton.l2 k l l.length i n nx l) (risingM (nx.length - 1) prev r) := by
  induction r with
  | nil =>
    intro p i prev hi' e hp
    have hlen : l.length = p.length := by rw [e]; simp
    apply ev_up
    simp only [impl_IsAutomaton.l2]
    exact ev_n (by omega) (Ev.now _)
  | cons x r ih =>
    intro p i prev hi' e hp
    have hlen : l.length = p.length + r.length + 1 := by rw [e]; simp; omega
    have hxx : rd l i = x := by rw [e]; exact rdA hi'
    have ih' := ih (p ++ [x]) (i + 1) x (by simp; omega) (by rw [e]; simp) (Or.inr ⟨by omega, by rw [Int.add_sub_cancel]; exact hxx⟩)
    have no : ¬ (0 ≤ x ∧ x ≤ (nx.length : Int) - 1 ∧ prev < x) → Ev (fun _ => some false) (risingM (nx.length - 1) prev (x :: r)) := fun h => by
      rw [risingM, decide_eq_false h, Bool.false_and]
      exact Ev.now _
    apply ev_up
    simp only [impl_IsAutomaton.l2]
    refine ev_p (by omega) (ev_p (by omega) (ev_p (by omega) ?_))
    rw [hxx, w64 (n := i + 1) (by omega) (by omega), w64 (n := i - 1) (by omega) (by omega)]
    refine ev_ite (fun c => no (by omega)) (fun c1 => ev_ite (fun c => no (by omega)) (fun c2 => ev_ite (fun c3 => ?_) (fun c3 => ?_)))
    · rcases hp with hp | ⟨_, hp⟩
      · omega
      · refine ev_p (by omega) (ev_p (by omega) ?_)
        rw [hp]
        refine ev_ite (fun c => no (by omega)) (fun c4 => ?_)
        rw [risingM, decide_eq_true (by omega), Bool.true_and]
        exact ih'
    · rcases hp with ⟨_, hp⟩ | ⟨hp, _⟩
      · rw [risingM, decide_eq_true (by omega), Bool.true_and]
        exact ih'
      · omega
theorem impl_IsAutomaton_l1 (n : Int) (nx : List (List Int)) (fs : List Int) (ys : List (List Int)) (f j : Int) (w : List Int) (res : Bool) (hx : nx.length ≤ 1048576) (hw : w.length ≤ 1048576) (r : List Int) : ∀ (p : List Int) (i : Int), i = p.length → w = p ++ r →
    (r.all (inB 0 (nx.length - 1)) = true → Ev (fun k => impl_IsAutomaton.l0 k ys f (wrap64 (j + 1)) n nx fs) res) → (r.all (inB 0 (nx.length - 1)) = false → res = false) →
    Ev (fun k => impl_IsAutomaton.l1 k ys f j w w.length i n nx fs) res := by
  induction r with
  | nil =>
    intro p i hi e h1 h2
    have hlen : w.length = p.length := by rw [e]; simp
    apply ev_up
    simp only [impl_IsAutomaton.l1]
    exact ev_n (by omega) (h1 rfl)
  | cons x r ih =>
    intro p i hi e h1 h2
    have hlen : w.length = p.length + r.length + 1 := by rw [e]; simp; omega
    have hxx : rd w i = x := by rw [e]; exact rdA hi
    apply ev_up
    simp only [impl_IsAutomaton.l1]
    refine ev_p (by omega) (ev_p (by omega) (ev_p (by omega) ?_))
    rw [hxx, w64 (n := i + 1) (by omega) (by omega)]
    have no : ¬ (0 ≤ x ∧ x ≤ (nx.length : Int) - 1) → Ev (fun _ => some false) res := fun h => by
      rw [h2 (by rw [List.all_cons, show inB 0 (nx.length - 1) x = false from decide_eq_false h, Bool.false_and])]
      exact Ev.now _
    refine ev_ite (fun c => no (by omega)) (fun c1 => ev_ite (fun c => no (by omega)) (fun c2 => ?_))
    have ex : inB 0 (nx.length - 1) x = true := decide_eq_true (by omega)
    rw [List.all_cons, ex, Bool.true_and] at h1 h2
    exact ih (p ++ [x]) (i + 1) (by simp; omega) (by rw [e]; simp) h1 h2
theorem impl_IsAutomaton_l0 (n : Int) (nx : List (List Int)) (fs : List Int) (hx : nx.length ≤ 1048576) (hr : ∀ y ∈ nx, y.length ≤ 1048576) (hf : fs.length ≤ 1048576) (r : List (List Int)) : ∀ (p : List (List Int)) (i : Int), i = p.length → nx = p ++ r →
    Ev (fun k => impl_IsAutomaton.l0 k nx nx.length i n nx fs) (r.all (rowOk n (nx.length - 1)) && risingM (nx.length - 1) (-1) fs) := by
  induction r with
  | nil =>
    intro p i hi e
    have hlen : nx.length = p.length := by rw [e]; simp
    apply ev_up
    simp only [impl_IsAutomaton.l0]
    refine ev_n (by omega) ?_
    rw [List.all_nil, Bool.true_and]
    exact impl_IsAutomaton_l2 n nx fs hx hf fs [] 0 (-1) rfl rfl (Or.inl ⟨rfl, rfl⟩)
  | cons x r ih =>
    intro p i hi e
    have hlen : nx.length = p.length + r.length + 1 := by rw [e]; simp; omega
    have hxx : rd_L1 nx i = x := by rw [e]; exact rdIIA hi
    have ih' := ih (p ++ [x]) (i + 1) (by simp; omega) (by rw [e]; simp)
    apply ev_up
    simp only [impl_IsAutomaton.l0]
    refine ev_p (by omega) (ev_p (by omega) (ev_p (by omega) ?_))
    rw [hxx]
    refine ev_ite (fun h1 => ?_) (fun h1 => ?_)
    · refine impl_IsAutomaton_l1 n nx fs nx nx.length i x _ hx (hr x (by rw [e]; simp)) x [] 0 rfl rfl (fun h2 => ?_) (fun h2 => ?_)
      · have : rowOk n (nx.length - 1) x = true := by unfold rowOk; rw [decide_eq_true h1, h2]; rfl
        rw [List.all_cons, this, Bool.true_and, w64 (n := i + 1) (by omega) (by omega)]
        exact ih'
      · have : rowOk n (nx.length - 1) x = false := by unfold rowOk; rw [h2, Bool.and_false]
        rw [List.all_cons, this, Bool.false_and, Bool.false_and]
    · have : rowOk n (nx.length - 1) x = false := by unfold rowOk; rw [decide_eq_false h1, Bool.false_and]
      rw [List.all_cons, this, Bool.false_and, Bool.false_and]
      exact Ev.now _
theorem impl_IsAutomaton_ev (n : Int) (nx : List (List Int)) (fs : List Int) (hx : nx.length ≤ 1048576) (hr : ∀ y ∈ nx, y.length ≤ 1048576) (hf : fs.length ≤ 1048576) : Ev (fun k => impl_IsAutomaton.f k n nx fs) (autoM n nx fs) := by
  have bad : ¬ (1 ≤ n ∧ n ≤ 3 ∧ 1 ≤ nx.length ∧ nx.length ≤ 12) → Ev (fun k => impl_IsAutomaton.j0 k true n nx fs) (autoM n nx fs) := fun h => by
    apply ev_up
    simp only [impl_IsAutomaton.j0]
    unfold autoM
    rw [decide_eq_false h, Bool.false_and]
    exact ev_p (by trivial) (Ev.now _)
  unfold impl_IsAutomaton.f
  refine ev_ite (fun c => bad (by omega)) (fun c1 => ev_ite (fun c => bad (by omega)) (fun c2 => ev_ite (fun c => bad (by omega)) (fun c3 => ?_)))
  apply ev_up
  simp only [impl_IsAutomaton.j0]
  refine ev_ite (fun c5 => ?_) (fun c5 => ?_)
  · have c5' := of_decide_eq_true c5
    unfold autoM
    rw [decide_eq_false (by omega), Bool.false_and]
    exact Ev.now _
  · have c5' : ¬ (nx.length : Int) > 12 := fun h => c5 (decide_eq_true h)
    unfold autoM
    rw [decide_eq_true (by omega), Bool.true_and]
    exact impl_IsAutomaton_l0 n nx fs hx hr hf nx [] 0 rfl rfl

/-! #### FnExactIsAutomaton -/
theorem FnExactIsAutomaton (a0_0 : Int) (l0_1 : (List (List Int))) (l0_2 : (List Int)) : I64 a0_0 → (l0_1.length ≤ 9223372036854775807 ∧ ∀ y3 ∈ l0_1, (y3.length ≤ 9223372036854775807 ∧ ∀ y2 ∈ y3, I64 y2)) → (l0_2.length ≤ 9223372036854775807 ∧ ∀ y2 ∈ l0_2, I64 y2) → ∃ k, laws_FnExactIsAutomaton.f k a0_0 l0_1 l0_2 = some true := by
  rintro _ ⟨hx, hr⟩ ⟨hf, _⟩
  apply ev_get
  obtain ⟨t, ht, hq⟩ := szAutomaton_ev a0_0 l0_1 l0_2 hx (fun y h => (hr y h).1) hf
  unfold laws_FnExactIsAutomaton.f
  refine Ev.bind ht (ev_ite (fun _ => Ev.now _) (fun h => ?_))
  obtain ⟨hx2, hr2, hf2⟩ := hq h
  have hto := toAutomaton_ev a0_0 l0_1 l0_2 hx2 hr2 hf2
  have heq := eqAutomaton_self a0_0 l0_1 l0_2 hx2 hr2 hf2
  have hs := spec_auGood_ev a0_0 l0_1 l0_2 hx2 hr2 hf2
  have hs2 : Ev (fun k => spec_IsAutomaton.f k a0_0 l0_1 l0_2) (autoM a0_0 l0_1 l0_2) := by
    unfold spec_IsAutomaton.f
    exact Ev.bind hs (Ev.now _)
  have hi := impl_IsAutomaton_ev a0_0 l0_1 l0_2 hx2 hr2 hf2
  repeat (first
    | (with_reducible exact Ev.now _)
    | (with_reducible refine Ev.bind hto ?_)
    | (with_reducible refine Ev.bind hs2 ?_)
    | (with_reducible refine Ev.bind hi ?_)
    | (with_reducible refine Ev.bind heq ?_)
    | (with_reducible refine ev_p rfl ?_)
    | (with_reducible refine ev_p True.intro ?_)
    | (refine ev_n ?h ?_; case h => (first | omega | (simp; done) | (simp; omega))))

end Go.Proofs.Ytoacnogdjmdicaa.Pure
