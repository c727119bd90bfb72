/- The pure part of the law FnExactCountWords: what the program and the reference compute is the same, for all arguments. Conditions: the numbers are of Go's int, the lengths of slices are. -/
import Derived.Test.YtcameioepklidaaQFnExactCountWordsx7
import Derived.Test.YtcameioepklidaaKit
set_option linter.unusedVariables false
set_option linter.unusedSimpArgs false
namespace Go.Proofs.Ytcameioepklidaa.Pure
open Go.RowKit Go.Proofs.Ytcameioepklidaa.QFnExactCountWords Go.Proofs.YtcameioepklidaaW.PrintWords Go.Proofs.YtcameioepklidaaW.PrintLast Go.Proofs.Ytcameioepklidaa.Open Go.Proofs.Ytcameioepklidaa.Kit

/-! #### szIntS -/
theorem szIntS_eq (l : List Int) (a : Int) (ha : 0 ≤ a) (ha2 : a ≤ 1048576) (hl : l.length ≤ 9223372036854775807) : laws_szIntS.f l a = some (if l.length ≤ a then a - l.length else -1) := by
  unfold laws_szIntS.f
  rw [w64 (by omega) (by omega)]
  by_cases h : (l.length : Int) ≤ a
  · rw [if_neg (by omega), if_pos h]
  · rw [if_pos (by omega), if_neg h]

/-! #### rdII -/
theorem rdIIA {p r : List (List Int)} {x : List Int} {i : Int} (hi : i = p.length) : rd_L1 (p ++ x :: r) i = x := getDA hi

/-! #### szIntSS -/
theorem szIntSS_l0 (r : List (List Int)) : ∀ (p : List (List Int)) (a i : Int), i = p.length → p.length + r.length ≤ 9223372036854775807 → 0 ≤ a → a ≤ 1048576 → (∀ y ∈ r, y.length ≤ 9223372036854775807) →
    ∃ t, Ev (fun k => laws_szIntSS.l0 k (p ++ r) a i) t ∧ (0 ≤ t → t ≤ a ∧ ∀ y ∈ r, y.length ≤ 1048576) := by
  induction r with
  | nil =>
    intro p a i hi hb h0 h1 hy
    refine ⟨a, ?_, fun _ => ⟨Int.le_refl _, fun y hy => by simp at hy⟩⟩
    apply ev_up
    simp only [laws_szIntSS.l0]
    exact ev_n (by simp; omega) (Ev.now _)
  | cons x r ih =>
    intro p a i hi hb h0 h1 hy
    simp only [List.length_cons] at hb
    have hx := hy x (by simp)
    by_cases hc : (x.length : Int) ≤ a
    · obtain ⟨t, ht, hq⟩ := ih (p ++ [x]) (a - x.length) (i + 1) (by simp; omega) (by simp; omega) (by omega) (by omega) (fun y h => hy y (by simp [h]))
      refine ⟨t, ?_, fun h => ⟨by have := (hq h).1; omega, ?_⟩⟩
      · apply ev_up
        simp only [laws_szIntSS.l0]
        refine ev_p (by simp; omega) (ev_p (by omega) ?_)
        rw [rdIIA hi, szIntS_eq x a h0 h1 hx, if_pos hc]
        refine Ev.bind (ev_c rfl) (ev_n (by omega) ?_)
        rw [w64 (by omega) (by omega), appA]
        exact ht
      · intro y hy'
        simp only [List.mem_cons] at hy'
        rcases hy' with rfl | hy'
        · omega
        · exact (hq h).2 y hy'
    · refine ⟨-1, ?_, fun h => absurd h (by decide)⟩
      apply ev_up
      simp only [laws_szIntSS.l0]
      refine ev_p (by simp; omega) (ev_p (by omega) ?_)
      rw [rdIIA hi, szIntS_eq x a h0 h1 hx, if_neg hc]
      exact Ev.bind (ev_c rfl) (ev_p (by decide) (Ev.now _))
theorem szIntSS_ev (l : List (List Int)) (a : Int) (h0 : 0 ≤ a) (h1 : a ≤ 1048576) (hl : l.length ≤ 9223372036854775807) (hy : ∀ y ∈ l, y.length ≤ 9223372036854775807) :
    ∃ t, Ev (fun k => laws_szIntSS.f k l a) t ∧ (0 ≤ t → t ≤ a ∧ l.length ≤ 1048576 ∧ ∀ y ∈ l, y.length ≤ 1048576) := by
  unfold laws_szIntSS.f
  rw [w64 (by omega) (by omega)]
  by_cases h : (l.length : Int) ≤ a
  · obtain ⟨t, ht, hq⟩ := szIntSS_l0 l [] (a - l.length) 0 rfl (by simpa using hl) (by omega) (by omega) hy
    exact ⟨t, ev_n (by omega) ht, fun h2 => ⟨by have := (hq h2).1; omega, by omega, (hq h2).2⟩⟩
  · exact ⟨-1, ev_p (by omega) (Ev.now _), fun h => absurd h (by decide)⟩

/-! #### toIntS -/
theorem toIntS_l0 (r : List Int) : ∀ (p z : List Int) (i : Int), i = p.length → z.length = r.length → p.length + r.length ≤ 9223372036854775806 →
    Ev (fun k => laws_toIntS.l0 k (p ++ r) (p ++ z) i) (p ++ r) := by
  induction r with
  | nil =>
    intro p z i hi hz hb
    obtain rfl : z = [] := List.length_eq_zero_iff.1 hz
    apply ev_up
    simp only [laws_toIntS.l0]
    refine ev_n (by simp; omega) ?_
    exact Ev.now _
  | cons x r ih =>
    intro p z i hi hz hb
    match z, hz with
    | y :: z, hz =>
      simp only [List.length_cons] at hz hb
      apply ev_up
      simp only [laws_toIntS.l0]
      refine ev_p (by simp; omega) (ev_p (by omega) (ev_p (by simp; omega) ?_))
      rw [rdA hi, setA hi, w64 (by omega) (by omega), appA]
      exact ih (p ++ [x]) z (i + 1) (by simp; omega) (by omega) (by simp; omega)
theorem toIntS_ev (a : List Int) (h : a.length ≤ 35184372088832) : Ev (fun k => laws_toIntS.f k a) a := by
  unfold laws_toIntS.f
  refine ev_p (by omega) (ev_p (by omega) ?_)
  exact toIntS_l0 a [] (List.replicate ((a.length : Int)).toNat 0) 0 rfl (by simp) (by simp; omega)
/-! #### toIntSS -/
theorem toIntSS_l0 (r : List (List Int)) : ∀ (p z : List (List Int)) (i : Int), i = p.length → z.length = r.length → p.length + r.length ≤ 9223372036854775806 → (∀ y ∈ r, y.length ≤ 1048576) →
    Ev (fun k => laws_toIntSS.l0 k (p ++ r) (p ++ z) i) (p ++ r) := by
  induction r with
  | nil =>
    intro p z i hi hz hb hy
    obtain rfl : z = [] := List.length_eq_zero_iff.1 hz
    apply ev_up
    simp only [laws_toIntSS.l0]
    exact ev_n (by simp; omega) (Ev.now _)
  | cons x r ih =>
    intro p z i hi hz hb hy
    match z, hz with
    | y :: z, hz =>
      simp only [List.length_cons] at hz hb
      have hx := hy x (by simp)
      apply ev_up
      simp only [laws_toIntSS.l0]
      refine ev_p (by simp; omega) (ev_p (by omega) ?_)
      rw [rdIIA hi]
      refine Ev.bind (toIntS_ev x (by omega)) (ev_p (by simp; omega) ?_)
      rw [setA hi, w64 (by omega) (by omega), appA]
      exact ih (p ++ [x]) z (i + 1) (by simp; omega) (by omega) (by simp; omega) (fun y h => hy y (by simp [h]))
theorem toIntSS_ev (l : List (List Int)) (h : l.length ≤ 1048576) (hy : ∀ y ∈ l, y.length ≤ 1048576) : Ev (fun k => laws_toIntSS.f k l) l := by
  unfold laws_toIntSS.f
  refine ev_p (by omega) (ev_p (by omega) ?_)
  exact toIntSS_l0 l [] (List.replicate ((l.length : Int)).toNat []) 0 rfl (by simp) (by simp; omega) hy

/-! #### eqIntS -/
theorem eqIntS_l0 (r : List Int) : ∀ (s p q : List Int) (i : Int), i = p.length → p.length = q.length → r.length = s.length → p.length + r.length ≤ 9223372036854775807 →
    Ev (fun k => laws_eqIntS.l0 k (p ++ r) (q ++ s) i) (decide (r = s)) := by
  induction r with
  | nil =>
    intro s p q i hi hpq hrs hb
    obtain rfl : s = [] := List.length_eq_zero_iff.1 hrs.symm
    apply ev_up
    simp only [laws_eqIntS.l0]
    refine ev_n (by simp; omega) ?_
    simpa using Ev.now true
  | cons x r ih =>
    intro s p q i hi hpq hrs hb
    match s, hrs with
    | y :: s, hrs =>
      simp only [List.length_cons] at hrs hb
      apply ev_up
      simp only [laws_eqIntS.l0]
      refine ev_p (by simp; omega) (ev_p (by omega) (ev_p (by simp; omega) ?_))
      rw [rdA hi, rdA (by omega)]
      refine ev_ite (fun hxy => ?_) (fun hxy => ?_)
      · subst hxy
        rw [w64 (by omega) (by omega), appA, appA (p := q)]
        refine ev_eq (ih s (p ++ [x]) (q ++ [x]) (i + 1) (by simp; omega) (by simp; omega) (by omega) (by simp; omega)) ?_
        simp
      · refine ev_eq (Ev.now false) ?_
        simp [hxy]
theorem eqIntS_ev (a b : List Int) (h : a.length ≤ 9223372036854775807) : Ev (fun k => laws_eqIntS.f k a b) (decide (a = b)) := by
  unfold laws_eqIntS.f
  refine ev_ite (fun hl => ?_) (fun hl => ?_)
  · exact eqIntS_l0 a b [] [] 0 rfl rfl (by omega) (by simpa using h)
  · refine ev_eq (Ev.now false) ?_
    symm
    apply decide_eq_false
    rintro rfl
    exact hl rfl

/-! #### eqIntSS -/
theorem eqIntSS_l0 (r : List (List Int)) : ∀ (s p q : List (List Int)) (i : Int), i = p.length → p.length = q.length → r.length = s.length → p.length + r.length ≤ 9223372036854775807 → (∀ y ∈ r, y.length ≤ 9223372036854775807) →
    Ev (fun k => laws_eqIntSS.l0 k (p ++ r) (q ++ s) i) (decide (r = s)) := by
  induction r with
  | nil =>
    intro s p q i hi hpq hrs hb hy
    obtain rfl : s = [] := List.length_eq_zero_iff.1 hrs.symm
    apply ev_up
    simp only [laws_eqIntSS.l0]
    refine ev_n (by simp; omega) ?_
    simpa using Ev.now true
  | cons x r ih =>
    intro s p q i hi hpq hrs hb hy
    match s, hrs with
    | y :: s, hrs =>
      simp only [List.length_cons] at hrs hb
      apply ev_up
      simp only [laws_eqIntSS.l0]
      refine ev_p (by simp; omega) (ev_p (by omega) (ev_p (by simp; omega) ?_))
      rw [rdIIA hi, rdIIA (by omega)]
      refine Ev.bind (eqIntS_ev x y (hy x (by simp))) ?_
      refine ev_ite (fun hxy => ?_) (fun hxy => ?_)
      · obtain rfl := of_decide_eq_true hxy
        rw [w64 (by omega) (by omega), appA, appA (p := q)]
        refine ev_eq (ih s (p ++ [x]) (q ++ [x]) (i + 1) (by simp; omega) (by simp; omega) (by omega) (by simp; omega) (fun y h => hy y (by simp [h]))) ?_
        simp
      · refine ev_eq (Ev.now false) ?_
        have hxy' : ¬ x = y := fun e => hxy (decide_eq_true e)
        simp [hxy']
theorem eqIntSS_ev (a b : List (List Int)) (h : a.length ≤ 9223372036854775807) (hy : ∀ y ∈ a, y.length ≤ 9223372036854775807) : Ev (fun k => laws_eqIntSS.f k a b) (decide (a = b)) := by
  unfold laws_eqIntSS.f
  refine ev_ite (fun hl => ?_) (fun hl => ?_)
  · exact eqIntSS_l0 a b [] [] 0 rfl rfl (by omega) (by simpa using h) hy
  · refine ev_eq (Ev.now false) ?_
    symm
    apply decide_eq_false
    rintro rfl
    exact hl rfl

/-! #### lawAuto -/
theorem szAutomaton_ev (n : Int) (nx : List (List Int)) (fs : List Int) (hx : nx.length ≤ 9223372036854775807) (hr : ∀ y ∈ nx, y.length ≤ 9223372036854775807) (hf : fs.length ≤ 9223372036854775807) :
    ∃ t, Ev (fun k => laws_szAutomaton.f k n nx fs 1048576) t ∧ (¬ t < 0 → nx.length ≤ 1048576 ∧ (∀ y ∈ nx, y.length ≤ 1048576) ∧ fs.length ≤ 1048576) := by
  unfold laws_szAutomaton.f
  obtain ⟨t, ht, hq⟩ := szIntSS_ev nx 1048576 (by omega) (by omega) hx hr
  by_cases h : t < 0
  · exact ⟨-1, Ev.bind ht (ev_p h (Ev.now _)), fun hh => absurd (by decide) hh⟩
  · obtain ⟨h1, h2, h3⟩ := hq (by omega)
    by_cases h4 : (fs.length : Int) ≤ t
    · refine ⟨t - fs.length, Ev.bind ht (ev_n h ?_), fun _ => ⟨h2, h3, by omega⟩⟩
      rw [szIntS_eq fs t (by omega) h1 hf, if_pos h4]
      exact Ev.bind (ev_c rfl) (ev_n (by omega) (Ev.now _))
    · refine ⟨-1, Ev.bind ht (ev_n h ?_), fun hh => absurd (by decide) hh⟩
      rw [szIntS_eq fs t (by omega) h1 hf, if_neg h4]
      exact Ev.bind (ev_c rfl) (ev_p (by decide) (Ev.now _))
theorem toAutomaton_ev (n : Int) (nx : List (List Int)) (fs : List Int) (hx : nx.length ≤ 1048576) (hr : ∀ y ∈ nx, y.length ≤ 1048576) (hf : fs.length ≤ 1048576) : Ev (fun k => laws_toAutomaton.f k n nx fs) (n, nx, fs) := by
  unfold laws_toAutomaton.f
  exact Ev.bind (toIntSS_ev nx hx hr) (Ev.bind (toIntS_ev fs (by omega)) (Ev.now _))
theorem eqAutomaton_self (n : Int) (nx : List (List Int)) (fs : List Int) (hx : nx.length ≤ 1048576) (hr : ∀ y ∈ nx, y.length ≤ 1048576) (hf : fs.length ≤ 1048576) : Ev (fun k => laws_eqAutomaton.f k n nx fs n nx fs) true := by
  unfold laws_eqAutomaton.f
  have h1 : Ev (fun k => laws_eqIntSS.f k nx nx) true := by simpa using eqIntSS_ev nx nx (by omega) (fun y h => by have := hr y h; omega)
  have h2 : Ev (fun k => laws_eqIntS.f k fs fs) true := by simpa using eqIntS_ev fs fs (by omega)
  exact ev_p rfl (Ev.bind h1 (ev_p rfl (Ev.bind h2 (ev_p rfl (Ev.now _)))))

/-! #### dotM -/
def dotF : List Int → Nat → (Nat → Int) → Int
  | [], _, _ => 0
  | x :: r, i, u => x * u i + dotF r (i + 1) u
def oneF : Nat → Int := fun _ => 1
theorem dot_zero (f : List Int) : ∀ (i : Nat) (u : Nat → Int), (∀ j, i ≤ j → u j = 0) → dotF f i u = 0 := by
  induction f with
  | nil => intro i u _; rfl
  | cons x r ih =>
    intro i u h
    rw [dotF, h i (Nat.le_refl _), ih (i + 1) u (fun j hj => h j (by omega))]
    simp
theorem dot_add (f : List Int) (u v : Nat → Int) : ∀ i, dotF f i (fun j => u j + v j) = dotF f i u + dotF f i v := by
  induction f with
  | nil => intro i; rfl
  | cons x r ih =>
    intro i
    rw [dotF, dotF, dotF, ih, Int.mul_add]
    omega
theorem dot_congr (f : List Int) (u v : Nat → Int) (h : ∀ j, u j = v j) : ∀ i, dotF f i u = dotF f i v := by
  intro i
  have : u = v := funext h
  rw [this]
theorem dot_e (f : List Int) : ∀ (i a : Nat), a < f.length → dotF f i (fun j => if j = i + a then 1 else 0) = rd f (a : Int) := by
  induction f with
  | nil => intro i a h; simp at h
  | cons x r ih =>
    intro i a h
    rw [dotF]
    cases a with
    | zero =>
      rw [dot_zero r (i + 1) _ (fun j hj => if_neg (by omega)), if_pos (by omega)]
      simp [rd]
    | succ a =>
      have h2 : (fun j => if j = i + (a + 1) then (1 : Int) else 0) = (fun j => if j = (i + 1) + a then (1 : Int) else 0) := by
        funext j
        have : (j = i + (a + 1)) ↔ (j = (i + 1) + a) := by omega
        by_cases c : j = i + (a + 1)
        · rw [if_pos c, if_pos (this.1 c)]
        · rw [if_neg c, if_neg (fun hh => c (this.2 hh))]
      rw [if_neg (by omega), h2, ih (i + 1) a (by simpa using h)]
      have e : rd (x :: r) ((a + 1 : Nat) : Int) = rd r (a : Int) := by
        unfold rd
        rw [Int.toNat_natCast, Int.toNat_natCast]
        rfl
      rw [e]
      omega
theorem dot_set (f : List Int) (c : Int) (u : Nat → Int) : ∀ (i a : Nat), a < f.length → dotF (f.set a (rd f (a : Int) + c)) i u = dotF f i u + c * u (i + a) := by
  induction f with
  | nil => intro i a h; simp at h
  | cons x r ih =>
    intro i a h
    cases a with
    | zero =>
      have e : rd (x :: r) ((0 : Nat) : Int) = x := rfl
      have e0 : c * u (i + 0) = c * u i := rfl
      rw [e, List.set_cons_zero, dotF, dotF, Int.add_mul]
      omega
    | succ a =>
      have e : rd (x :: r) ((a + 1 : Nat) : Int) = rd r (a : Int) := by
        unfold rd
        rw [Int.toNat_natCast, Int.toNat_natCast]
        rfl
      rw [e, List.set_cons_succ, dotF, dotF, ih (i + 1) a (by simpa using h), show i + 1 + a = i + (a + 1) by omega]
      omega
def nonneg (f : List Int) : Prop := ∀ x ∈ f, 0 ≤ x
theorem dot_one_nonneg {f : List Int} (h : nonneg f) : ∀ i, 0 ≤ dotF f i oneF := by
  induction f with
  | nil => intro i; exact Int.le_refl _
  | cons x r ih =>
    intro i
    have h1 := h x (by simp)
    have h2 := ih (fun y hy => h y (by simp [hy])) (i + 1)
    have e : x * oneF i = x := Int.mul_one x
    rw [dotF, e]
    omega
theorem rd_le_dot {f : List Int} (h : nonneg f) : ∀ (i a : Nat), a < f.length → rd f (a : Int) ≤ dotF f i oneF := by
  induction f with
  | nil => intro i a h; simp at h
  | cons x r ih =>
    intro i a ha
    have hr : nonneg r := fun y hy => h y (by simp [hy])
    have h1 := h x (by simp)
    have h2 := dot_one_nonneg hr (i + 1)
    have e : x * oneF i = x := Int.mul_one x
    rw [dotF, e]
    cases a with
    | zero =>
      have e : rd (x :: r) ((0 : Nat) : Int) = x := rfl
      rw [e]
      omega
    | succ a =>
      have e : rd (x :: r) ((a + 1 : Nat) : Int) = rd r (a : Int) := by
        unfold rd
        rw [Int.toNat_natCast, Int.toNat_natCast]
        rfl
      have := ih hr (i + 1) a (by simpa using ha)
      rw [e]
      omega
theorem rdN_mem {f : List Int} {a : Nat} (h : a < f.length) : rd f (a : Int) ∈ f := by
  have : rd f (a : Int) = f[a] := getDN h
  rw [this]
  exact List.getElem_mem h
theorem nonneg_set {f : List Int} (h : nonneg f) {a : Nat} {v : Int} (hv : 0 ≤ v) : nonneg (f.set a v) := fun x hx => by
  rcases List.mem_or_eq_of_mem_set hx with hx | hx
  · exact h x hx
  · omega
/-- u summed over a row's states. -/
def sumU (u : Nat → Int) : List Int → Int
  | [] => 0
  | y :: r => u y.toNat + sumU u r
def backF (nx : List (List Int)) (u : Nat → Int) : Nat → Int := fun s => sumU u (rd_L1 nx (s : Int))
def backN (nx : List (List Int)) : Nat → (Nat → Int) → Nat → Int
  | 0, u => u
  | t + 1, u => backN nx t (backF nx u)
theorem backN_comm (nx : List (List Int)) (t : Nat) : ∀ u, backN nx t (backF nx u) = backF nx (backN nx t u) := by
  induction t with
  | zero => intro u; rfl
  | succ t ih => intro u; rw [backN, ih, backN]
/-- The rows: as many entries as 3 at most, each a state. -/
def rowsOk (nx : List (List Int)) : Prop := ∀ s : Nat, s < nx.length → (rd_L1 nx (s : Int)).length ≤ 3 ∧ ∀ y ∈ rd_L1 nx (s : Int), 0 ≤ y ∧ y < nx.length
theorem rdII_mem {nx : List (List Int)} {s : Nat} (h : s < nx.length) : rd_L1 nx (s : Int) ∈ nx := by
  have : rd_L1 nx (s : Int) = nx[s] := getDN h
  rw [this]
  exact List.getElem_mem h
theorem sumU_bound {u : Nat → Int} {N : Nat} {M : Int} (hu : ∀ s, s < N → 0 ≤ u s ∧ u s ≤ M) {r : List Int} (hr : ∀ y ∈ r, 0 ≤ y ∧ y < N) : 0 ≤ sumU u r ∧ sumU u r ≤ M * r.length := by
  induction r with
  | nil => simp [sumU]
  | cons y r ih =>
    have h1 := ih (fun z hz => hr z (by simp [hz]))
    have h2 := hr y (by simp)
    have h3 := hu y.toNat (by omega)
    have h4 : M * ((r.length + 1 : Nat) : Int) = M * r.length + M := by rw [Int.natCast_add, Int.mul_add, Int.natCast_one, Int.mul_one]
    rw [sumU, List.length_cons, h4]
    omega
theorem back_bound {nx : List (List Int)} {v : Nat → Int} {M : Int} (hM : 0 ≤ M) (hok : rowsOk nx) (hv : ∀ s, s < nx.length → 0 ≤ v s ∧ v s ≤ M) : ∀ s, s < nx.length → 0 ≤ backF nx v s ∧ backF nx v s ≤ M * 3 := fun s hs => by
  obtain ⟨h3, hy⟩ := hok s hs
  have h1 := sumU_bound hv hy
  have hMr : M * ((rd_L1 nx (s : Int)).length : Int) ≤ M * 3 := Int.mul_le_mul_of_nonneg_left (by omega) hM
  unfold backF
  omega
theorem dot_le3 {f : List Int} (h : nonneg f) {u : Nat → Int} : ∀ {i : Nat}, (∀ j, j < i + f.length → u j ≤ 3) → dotF f i u ≤ dotF f i oneF * 3 := by
  induction f with
  | nil => intro i _; exact Int.le_refl _
  | cons x r ih =>
    intro i hu
    have h1 := h x (by simp)
    have h2 := ih (fun y hy => h y (by simp [hy])) (i := i + 1) (fun j hj => hu j (by simp; omega))
    have h3 : x * u i ≤ x * 3 := Int.mul_le_mul_of_nonneg_left (hu i (by simp)) h1
    have e : x * oneF i = x := Int.mul_one x
    rw [dotF, dotF, e]
    omega

/-! #### l1In -/
theorem l1In_eq (a b c : Int) : spec_l1In.f a b c = some (decide (b ≤ a ∧ a ≤ c)) := by
  unfold spec_l1In.f
  by_cases h : b ≤ a
  · rw [if_pos h]; simp [h]
  · rw [if_neg h]; simp [h]

/-! #### risingM -/
/-- Strictly increasing from behind prev on, up to hi. -/
def risingM (hi : Int) : Int → List Int → Bool
  | _, [] => true
  | prev, x :: r => decide (0 ≤ x ∧ x ≤ hi ∧ prev < x) && risingM hi x r
theorem spec_l1Rising_l0 (l : List Int) (hi : Int) (hl : l.length ≤ 1048576) (r : List Int) : ∀ (p : List Int) (i prev : Int), i = p.length → l = p ++ r → (i = 0 ∧ prev = -1 ∨ 0 < i ∧ rd l (i - 1) = prev) →
    Ev (fun k => spec_l1Rising.l0 k l 0 hi l l.length i) (risingM hi prev r) := by
  induction r with
  | nil =>
    intro p i prev hi' e hp
    have hlen : l.length = p.length := by rw [e]; simp
    apply ev_up
    simp only [spec_l1Rising.l0]
    exact ev_n (by omega) (Ev.now _)
  | cons x r ih =>
    intro p i prev hi' e hp
    have hlen : l.length = p.length + r.length + 1 := by rw [e]; simp; omega
    have hx : rd l i = x := by rw [e]; exact rdA hi'
    have ih' := ih (p ++ [x]) (i + 1) x (by simp; omega) (by rw [e]; simp) (Or.inr ⟨by omega, by rw [Int.add_sub_cancel]; exact hx⟩)
    apply ev_up
    simp only [spec_l1Rising.l0]
    refine ev_p (by omega) (ev_p (by omega) (ev_p (by omega) ?_))
    rw [hx, w64 (n := i + 1) (by omega) (by omega), w64 (n := i - 1) (by omega) (by omega), l1In_eq]
    refine Ev.bind (ev_c rfl) (ev_ite (fun h1 => ?_) (fun h1 => ?_))
    · have h1' := of_decide_eq_true h1
      refine ev_ite (fun h2 => ?_) (fun h2 => ?_)
      · rcases hp with hp | ⟨_, hp⟩
        · omega
        · refine ev_p (by omega) (ev_p (by omega) ?_)
          rw [hp]
          refine ev_ite (fun h3 => ?_) (fun h3 => ?_)
          · rw [risingM, decide_eq_false (by omega), Bool.false_and]
            exact Ev.now _
          · rw [risingM, decide_eq_true (by omega), Bool.true_and]
            exact ih'
      · rcases hp with ⟨_, hp⟩ | ⟨hp, _⟩
        · rw [risingM, decide_eq_true (by omega), Bool.true_and]
          exact ih'
        · omega
    · rw [risingM, decide_eq_false (fun hh => h1 (decide_eq_true ⟨hh.1, hh.2.1⟩)), Bool.false_and]
      exact Ev.now _
theorem spec_l1Rising_ev (l : List Int) (hi : Int) (hl : l.length ≤ 1048576) : Ev (fun k => spec_l1Rising.f k l 0 hi) (risingM hi (-1) l) := by
  unfold spec_l1Rising.f
  exact spec_l1Rising_l0 l hi hl l [] 0 (-1) rfl rfl (Or.inl ⟨rfl, rfl⟩)

/-! #### l1All -/
def inB (a b : Int) (x : Int) : Bool := decide (a ≤ x ∧ x ≤ b)
theorem l1All_l0 (l : List Int) (a b : Int) (hl : l.length ≤ 9223372036854775807) (r : List Int) : ∀ (p : List Int) (i : Int), i = p.length → l = p ++ r →
    Ev (fun k => spec_l1All.l0 k a b l l.length i) (r.all (inB a b)) := by
  induction r with
  | nil =>
    intro p i hi e
    have hlen : l.length = p.length := by rw [e]; simp
    apply ev_up
    simp only [spec_l1All.l0]
    exact ev_n (by omega) (Ev.now _)
  | cons x r ih =>
    intro p i hi e
    have hlen : l.length = p.length + r.length + 1 := by rw [e]; simp; omega
    have hx : rd l i = x := by rw [e]; exact rdA hi
    have ih' := ih (p ++ [x]) (i + 1) (by simp; omega) (by rw [e]; simp)
    apply ev_up
    simp only [spec_l1All.l0]
    refine ev_p (by omega) (ev_p (by omega) (ev_p (by omega) ?_))
    rw [hx, l1In_eq]
    refine Ev.bind (ev_c rfl) ?_
    refine ev_ite (fun h => ?_) (fun h => ?_)
    · rw [w64 (by omega) (by omega)]
      refine ev_eq ih' ?_
      rw [List.all_cons, show inB a b x = true from h, Bool.true_and]
    · refine ev_eq (Ev.now _) ?_
      rw [List.all_cons, show inB a b x = false from decide_eq_false (fun hh => h (decide_eq_true hh)), Bool.false_and]
theorem l1All_ev (l : List Int) (a b : Int) (hl : l.length ≤ 9223372036854775807) : Ev (fun k => spec_l1All.f k l a b) (l.all (inB a b)) := by
  unfold spec_l1All.f
  exact l1All_l0 l a b hl l [] 0 rfl rfl

/-! #### autoM -/
def rowOk (n : Int) (hi : Int) (w : List Int) : Bool := decide ((w.length : Int) = n) && w.all (inB 0 hi)
def autoM (n : Int) (nx : List (List Int)) (fs : List Int) : Bool := decide (1 ≤ n ∧ n ≤ 3 ∧ 1 ≤ nx.length ∧ nx.length ≤ 12) && (nx.all (rowOk n (nx.length - 1)) && risingM (nx.length - 1) (-1) fs)

/-! #### spec_CountWords -/
def indF (p : List Int) (j : Nat) : Int := if (j : Int) ∈ p then 1 else 0
theorem spec_CountWords_l3 (n : Int) (nx : List (List Int)) (fs : List Int) (t : Int) (V : List Int) (v : Nat → Int) (hV : V = rmap nx.length v) (M : Int) (hv : ∀ s, s < nx.length → 0 ≤ v s ∧ v s ≤ M) (hN : nx.length ≤ 12) (s : Nat) (hs : s < nx.length) (row : List Int) (hrow : row.length ≤ 3) (hy : ∀ y ∈ row, 0 ≤ y ∧ y < nx.length) (R : Int × Bool) (r : List Int) : ∀ (p : List Int) (i : Int) (X : List Int), i = p.length → row = p ++ r → X.length = nx.length → 0 ≤ rd X (s : Int) → rd X (s : Int) + M * r.length ≤ 1000000000000000000 →
    Ev (fun k => spec_CountWords.l2 k t V (X.set s (rd X (s : Int) + sumU v r)) nx nx.length (wrap64 ((s : Int) + 1)) n nx fs) R → Ev (fun k => spec_CountWords.l3 k t V X s nx nx.length s row row.length i n nx fs) R := by
  induction r with
  | nil =>
    intro p i X hi e hX h0 hb h
    have hlen : row.length = p.length := by rw [e]; simp
    apply ev_up
    simp only [spec_CountWords.l3]
    have e2 : X.set s (rd X (s : Int) + sumU v []) = X := by
      rw [sumU, Int.add_zero]
      have : rd X (s : Int) = X[s]'(by omega) := getDN (by omega)
      rw [this]
      exact List.set_getElem_self _
    rw [e2] at h
    exact ev_n (by omega) h
  | cons y r ih =>
    intro p i X hi e hX h0 hb h
    have hlen : row.length = p.length + r.length + 1 := by rw [e]; simp; omega
    have hx : rd row i = y := by rw [e]; exact rdA hi
    have hyb := hy y (by rw [e]; simp)
    obtain ⟨a, rfl⟩ := nat_of hyb.1
    have ha : a < nx.length := by omega
    have hva := hv a ha
    have h4 : M * ((r.length + 1 : Nat) : Int) = M * r.length + M := by rw [Int.natCast_add, Int.mul_add, Int.natCast_one, Int.mul_one]
    have hM : 0 ≤ M * r.length := Int.mul_nonneg (by omega) (by omega)
    rw [List.length_cons, h4] at hb
    have hVa : rd V (a : Int) = v a := by rw [hV]; exact rmap_get ha _
    apply ev_up
    simp only [spec_CountWords.l3]
    refine ev_p (by omega) (ev_p (by omega) (ev_p (by omega) (ev_p (by omega) (ev_p (by omega) ?_))))
    rw [hx, hVa, w64 (n := i + 1) (by omega) (by omega), w64 (n := rd X (s : Int) + v a) (by omega) (by omega), Int.toNat_natCast]
    refine ev_p (by omega) (ev_p (by rw [hV, rmap_length]; omega) ?_)
    have hXs : rd (X.set s (rd X (s : Int) + v a)) (s : Int) = rd X (s : Int) + v a := by
      have h5 : s < (X.set s (rd X (s : Int) + v a)).length := by simp; omega
      have : rd (X.set s (rd X (s : Int) + v a)) (s : Int) = (X.set s (rd X (s : Int) + v a))[s] := getDN h5
      rw [this, List.getElem_set_self]
    refine ih (p ++ [(a : Int)]) (i + 1) _ (by simp; omega) (by rw [e]; simp) (by simpa using hX) (by omega) (by rw [hXs]; omega) ?_
    rw [hXs, List.set_set]
    rw [sumU, Int.toNat_natCast, ← Int.add_assoc] at h
    exact h
theorem spec_CountWords_l2 (n : Int) (nx : List (List Int)) (fs : List Int) (t : Int) (V : List Int) (v : Nat → Int) (hV : V = rmap nx.length v) (M : Int) (hv : ∀ s, s < nx.length → 0 ≤ v s ∧ v s ≤ M) (hM : M ≤ 10000000000) (hM0 : 0 ≤ M) (hN : nx.length ≤ 12) (hok : rowsOk nx) (R : Int × Bool) (d : Nat) : ∀ (s : Nat), s + d = nx.length →
    Ev (fun k => spec_CountWords.l1 k (wrap64 (t - 1)) (rmap nx.length (backF nx v)) n nx fs) R → Ev (fun k => spec_CountWords.l2 k t V (rmap nx.length (fun j => if j < s then backF nx v j else 0)) nx nx.length s n nx fs) R := by
  induction d with
  | zero =>
    intro s hs h
    apply ev_up
    simp only [spec_CountWords.l2]
    have e : rmap nx.length (fun j => if j < s then backF nx v j else 0) = rmap nx.length (backF nx v) := rmap_congr (fun k hk => by rw [if_pos (by omega)])
    rw [e]
    exact ev_n (by omega) h
  | succ d ih =>
    intro s hs h
    have hs' : s < nx.length := by omega
    obtain ⟨h3, hy⟩ := hok s hs'
    apply ev_up
    simp only [spec_CountWords.l2]
    refine ev_p (by omega) (ev_p (by omega) (ev_p (by omega) ?_))
    have h0 : rd (rmap nx.length (fun j => if j < s then backF nx v j else 0)) (s : Int) = 0 := by
      have : rd (rmap nx.length (fun j => if j < s then backF nx v j else 0)) (s : Int) = _ := rmap_get hs' _
      rw [this, if_neg (Nat.lt_irrefl s)]
    have hMr : M * ((rd_L1 nx (s : Int)).length : Int) ≤ M * 3 := Int.mul_le_mul_of_nonneg_left (by omega) hM0
    refine spec_CountWords_l3 n nx fs t V v hV M hv hN s hs' (rd_L1 nx (s : Int)) h3 hy R (rd_L1 nx (s : Int)) [] 0 _ rfl rfl (rmap_length _ _) (by rw [h0]; exact Int.le_refl _) (by rw [h0]; omega) ?_
    rw [h0, Int.zero_add, rmap_set hs', wN (n := (s : Int) + 1) (m := s + 1) (by omega) (by omega)]
    have e : rmap nx.length (fun j => if j = s then sumU v (rd_L1 nx (s : Int)) else if j < s then backF nx v j else 0) = rmap nx.length (fun j => if j < s + 1 then backF nx v j else 0) := by
      apply rmap_congr
      intro j _
      by_cases h1 : j = s
      · rw [if_pos h1, if_pos (show j < s + 1 by omega), h1]
        rfl
      · by_cases h2 : j < s
        · rw [if_neg h1, if_pos h2, if_pos (show j < s + 1 by omega)]
        · rw [if_neg h1, if_neg h2, if_neg (show ¬ j < s + 1 by omega)]
    rw [e]
    exact ih (s + 1) (by omega) h
theorem spec_CountWords_l1 (n : Int) (nx : List (List Int)) (fs : List Int) (hN1 : 1 ≤ nx.length) (hN : nx.length ≤ 12) (hok : rowsOk nx) (t : Nat) : ∀ (v : Nat → Int) (M : Int), 0 ≤ M → t ≤ 20 → M * 3 ^ t ≤ 10000000000 → (∀ s, s < nx.length → 0 ≤ v s ∧ v s ≤ M) →
    Ev (fun k => spec_CountWords.l1 k t (rmap nx.length v) n nx fs) (backN nx t v 0, true) := by
  induction t with
  | zero =>
    intro v M hM0 ht hM hv
    apply ev_up
    simp only [spec_CountWords.l1]
    refine ev_n (by omega) (ev_p (by rw [rmap_length]; omega) (ev_eq (Ev.now _) ?_))
    have : rd (rmap nx.length v) ((0 : Nat) : Int) = v 0 := rmap_get (by omega) _
    rw [backN]
    exact Prod.ext this rfl
  | succ t ih =>
    intro v M hM0 ht hM hv
    have e3 : M * 3 ^ (t + 1) = M * 3 * 3 ^ t := by rw [Int.pow_succ, Int.mul_comm (3 ^ t) 3, ← Int.mul_assoc]
    have hp : (1 : Int) ≤ 3 ^ t := by
      have : 1 ≤ 3 ^ t := Nat.one_le_pow _ _ (by decide)
      exact_mod_cast this
    have hM3 : M * 3 ≤ M * 3 * 3 ^ t := by
      have := Int.mul_le_mul_of_nonneg_left hp (show 0 ≤ M * 3 by omega)
      omega
    apply ev_up
    simp only [spec_CountWords.l1]
    refine ev_p (by omega) (ev_p (by omega) (ev_p (by omega) ?_))
    have := spec_CountWords_l2 n nx fs ((t + 1 : Nat) : Int) (rmap nx.length v) v rfl M hv (by omega) hM0 hN hok (backN nx (t + 1) v 0, true) nx.length 0 (by omega) (by
      rw [wN (n := ((t + 1 : Nat) : Int) - 1) (m := t) (by omega) (by omega)]
      exact ih (backF nx v) (M * 3) (by omega) (by omega) (by omega) (back_bound hM0 hok hv))
    have e : rmap nx.length (fun j => if j < 0 then backF nx v j else 0) = List.replicate ((nx.length : Int)).toNat 0 := by
      rw [Int.toNat_natCast, rmap_const]
      exact rmap_congr (fun k _ => by rw [if_neg (by omega)])
    rw [e] at this
    exact this
theorem spec_CountWords_l0 (n : Int) (nx : List (List Int)) (fs : List Int) (t : Int) (hf : fs.length ≤ 1048576) (hfb : ∀ a ∈ fs, 0 ≤ a ∧ a < nx.length) (R : Int × Bool) (r : List Int) : ∀ (p : List Int) (i : Int), i = p.length → fs = p ++ r →
    Ev (fun k => spec_CountWords.l1 k t (rmap nx.length (indF fs)) n nx fs) R → Ev (fun k => spec_CountWords.l0 k t (rmap nx.length (indF p)) fs fs.length i n nx fs) R := by
  induction r with
  | nil =>
    intro p i hi e h
    have hlen : fs.length = p.length := by rw [e]; simp
    have e' : fs = p := by rw [e]; simp
    apply ev_up
    simp only [spec_CountWords.l0]
    rw [e'] at h
    rw [e'] at hlen ⊢
    exact ev_n (by omega) h
  | cons a r ih =>
    intro p i hi e h
    have hlen : fs.length = p.length + r.length + 1 := by rw [e]; simp; omega
    have hx : rd fs i = a := by rw [e]; exact rdA hi
    have hab := hfb a (by rw [e]; simp)
    obtain ⟨b, rfl⟩ := nat_of hab.1
    have hb : b < nx.length := by omega
    apply ev_up
    simp only [spec_CountWords.l0]
    refine ev_p (by omega) (ev_p (by omega) (ev_p (by omega) ?_))
    rw [hx, w64 (n := i + 1) (by omega) (by omega), Int.toNat_natCast, rmap_set hb]
    refine ev_p (by omega) (ev_p (by rw [rmap_length]; omega) ?_)
    have e2 : rmap nx.length (fun j => if j = b then (1 : Int) else indF p j) = rmap nx.length (indF (p ++ [(b : Int)])) := by
      apply rmap_congr
      intro j _
      unfold indF
      by_cases c : j = b
      · rw [if_pos c, if_pos (by rw [c]; simp)]
      · have : (j : Int) ∈ p ++ [(b : Int)] ↔ (j : Int) ∈ p := by
          rw [List.mem_append, List.mem_singleton]
          exact ⟨fun hh => hh.elim id (fun h2 => absurd (by omega) c), Or.inl⟩
        rw [if_neg c]
        by_cases c2 : (j : Int) ∈ p
        · rw [if_pos c2, if_pos (this.2 c2)]
        · rw [if_neg c2, if_neg (fun hh => c2 (this.1 hh))]
    rw [e2]
    exact ih (p ++ [(b : Int)]) (i + 1) (by simp; omega) (by rw [e]; simp) h

/-! #### impl_CountWords -/
def sumAt (f : List Int) : List Int → Int
  | [] => 0
  | a :: r => rd f a + sumAt f r
theorem impl_CountWords_l3 (f : List Int) (fs : List Int) (hn : nonneg f) (hd : dotF f 0 oneF ≤ 10000000000) (hf : fs.length ≤ 1048576) (hfb : ∀ a ∈ fs, 0 ≤ a ∧ a < f.length) (r : List Int) : ∀ (p : List Int) (i acc : Int), i = p.length → fs = p ++ r → 0 ≤ acc → acc ≤ 10000000000 * i →
    Ev (fun k => impl_CountWords.l3 k f acc fs fs.length i) (acc + sumAt f r, true) := by
  induction r with
  | nil =>
    intro p i acc hi e h0 ha
    have hlen : fs.length = p.length := by rw [e]; simp
    apply ev_up
    simp only [impl_CountWords.l3]
    rw [sumAt, Int.add_zero]
    exact ev_n (by omega) (Ev.now _)
  | cons a r ih =>
    intro p i acc hi e h0 ha
    have hlen : fs.length = p.length + r.length + 1 := by rw [e]; simp; omega
    have hx : rd fs i = a := by rw [e]; exact rdA hi
    have hab := hfb a (by rw [e]; simp)
    obtain ⟨b, rfl⟩ := nat_of hab.1
    have hb : b < f.length := by omega
    have h1 := rd_le_dot hn 0 b hb
    have h2 := hn _ (rdN_mem hb)
    apply ev_up
    simp only [impl_CountWords.l3]
    refine ev_p (by omega) (ev_p (by omega) (ev_p (by omega) ?_))
    rw [hx, w64 (n := i + 1) (by omega) (by omega), w64 (n := acc + rd f (b : Int)) (by omega) (by omega)]
    refine ev_p (by omega) (ev_p (by omega) ?_)
    refine ev_eq (ih (p ++ [(b : Int)]) (i + 1) _ (by simp; omega) (by rw [e]; simp) (by omega) (by omega)) ?_
    rw [sumAt, Int.add_assoc]
theorem impl_CountWords_l2 (n : Int) (nx : List (List Int)) (fs : List Int) (t c : Int) (F : List Int) (s : Nat) (hc : 0 ≤ c) (row : List Int) (hrow : row.length ≤ 3) (hy : ∀ y ∈ row, 0 ≤ y ∧ y < nx.length) (r : List Int) : ∀ (p : List Int) (i : Int) (g : List Int), i = p.length → row = p ++ r → g.length = nx.length → nonneg g → dotF g 0 oneF + c * r.length ≤ 10000000000 →
    ∃ g', g'.length = nx.length ∧ nonneg g' ∧ (∀ u, dotF g' 0 u = dotF g 0 u + c * sumU u r) ∧ ∀ R, Ev (fun k => impl_CountWords.l1 k t g' F F.length (wrap64 ((s : Int) + 1)) n nx fs) R → Ev (fun k => impl_CountWords.l2 k t g c F F.length s row row.length i n nx fs) R := by
  induction r with
  | nil =>
    intro p i g hi e hg hn hb
    have hlen : row.length = p.length := by rw [e]; simp
    refine ⟨g, hg, hn, fun u => by rw [sumU, Int.mul_zero, Int.add_zero], fun R h => ?_⟩
    apply ev_up
    simp only [impl_CountWords.l2]
    exact ev_n (by omega) h
  | cons y r ih =>
    intro p i g hi e hg hn hb
    have hlen : row.length = p.length + r.length + 1 := by rw [e]; simp; omega
    have hx : rd row i = y := by rw [e]; exact rdA hi
    have hyb := hy y (by rw [e]; simp)
    obtain ⟨a, rfl⟩ := nat_of hyb.1
    have ha : a < g.length := by omega
    have h1 := rd_le_dot hn 0 a ha
    have h2 := hn _ (rdN_mem ha)
    have h4 : c * ((r.length + 1 : Nat) : Int) = c * r.length + c := by rw [Int.natCast_add, Int.mul_add, Int.natCast_one, Int.mul_one]
    have h5 : 0 ≤ c * (r.length : Int) := Int.mul_nonneg hc (by omega)
    rw [List.length_cons, h4] at hb
    have hds : ∀ u, dotF (g.set a (rd g (a : Int) + c)) 0 u = dotF g 0 u + c * u a := fun u => by
      rw [dot_set g c u 0 a ha, Nat.zero_add]
    have hd1 := hds oneF
    have e1 : c * oneF a = c := Int.mul_one c
    rw [e1] at hd1
    obtain ⟨g', k1, k2, k3, k4⟩ := ih (p ++ [(a : Int)]) (i + 1) (g.set a (rd g (a : Int) + c)) (by simp; omega) (by rw [e]; simp) (by simpa using hg) (nonneg_set hn (by omega)) (by omega)
    refine ⟨g', k1, k2, fun u => ?_, fun R h => ?_⟩
    · rw [k3, hds, sumU, Int.toNat_natCast, Int.mul_add]
      omega
    · apply ev_up
      simp only [impl_CountWords.l2]
      refine ev_p (by omega) (ev_p (by omega) (ev_p (by omega) ?_))
      rw [hx, w64 (n := i + 1) (by omega) (by omega), w64 (n := rd g (a : Int) + c) (by omega) (by omega), Int.toNat_natCast]
      exact ev_p (by omega) (ev_p (by omega) (k4 R h))
theorem impl_CountWords_l1 (n : Int) (nx : List (List Int)) (fs : List Int) (t : Int) (hok : rowsOk nx) (hN : nx.length ≤ 12) (F : List Int) (hF : F.length = nx.length) (r : List Int) : ∀ (p : List Int) (s : Nat) (g : List Int), s = p.length → F = p ++ r → nonneg r → g.length = nx.length → nonneg g → dotF g 0 oneF + 3 * dotF r s oneF ≤ 10000000000 →
    ∃ g', g'.length = nx.length ∧ nonneg g' ∧ (∀ u, dotF g' 0 u = dotF g 0 u + dotF r s (backF nx u)) ∧ ∀ R, Ev (fun k => impl_CountWords.l0 k (wrap64 (t - 1)) g' n nx fs) R → Ev (fun k => impl_CountWords.l1 k t g F F.length s n nx fs) R := by
  induction r with
  | nil =>
    intro p s g hs e hr hg hn hb
    have hlen : F.length = p.length := by rw [e]; simp
    refine ⟨g, hg, hn, fun u => by rw [dotF, Int.add_zero], fun R h => ?_⟩
    apply ev_up
    simp only [impl_CountWords.l1]
    exact ev_n (by omega) h
  | cons x r ih =>
    intro p s g hs e hr hg hn hb
    have hlen : F.length = p.length + r.length + 1 := by rw [e]; simp; omega
    have hx : rd F (s : Int) = x := by rw [e]; exact rdA (by omega)
    have hx0 := hr x (by simp)
    have hr' : nonneg r := fun y hy => hr y (by simp [hy])
    have hd := dot_one_nonneg hr' (s + 1)
    obtain ⟨h3, hy⟩ := hok s (by omega)
    have e1 : x * oneF s = x := Int.mul_one x
    rw [dotF, e1] at hb
    have hMr : x * ((rd_L1 nx (s : Int)).length : Int) ≤ x * 3 := Int.mul_le_mul_of_nonneg_left (by omega) hx0
    obtain ⟨g1, k1, k2, k3, k4⟩ := impl_CountWords_l2 n nx fs t x F s hx0 (rd_L1 nx (s : Int)) h3 hy (rd_L1 nx (s : Int)) [] 0 g rfl rfl hg hn (by omega)
    have hs1 : sumU oneF (rd_L1 nx (s : Int)) ≤ 3 := by
      have := (sumU_bound (u := oneF) (N := nx.length) (M := 1) (fun _ _ => ⟨show (0 : Int) ≤ 1 by decide, Int.le_refl (1 : Int)⟩) hy).2
      omega
    have hs2 : x * sumU oneF (rd_L1 nx (s : Int)) ≤ x * 3 := Int.mul_le_mul_of_nonneg_left hs1 hx0
    have hg1 := k3 oneF
    obtain ⟨g', m1, m2, m3, m4⟩ := ih (p ++ [x]) (s + 1) g1 (by simp; omega) (by rw [e]; simp) hr' k1 k2 (by omega)
    refine ⟨g', m1, m2, fun u => ?_, fun R h => ?_⟩
    · have eb : x * backF nx u s = x * sumU u (rd_L1 nx (s : Int)) := rfl
      rw [m3, k3, dotF, eb]
      omega
    · apply ev_up
      simp only [impl_CountWords.l1]
      refine ev_p (by omega) (ev_p (by omega) (ev_p (by omega) (ev_p (by omega) ?_)))
      rw [hx]
      refine k4 R ?_
      rw [wN (n := (s : Int) + 1) (m := s + 1) (by omega) (by omega)]
      exact m4 R h
theorem dot_replicate (N : Nat) (u : Nat → Int) : ∀ i, dotF (List.replicate N 0) i u = 0 := by
  induction N with
  | zero => intro i; rfl
  | succ N ih =>
    intro i
    rw [List.replicate_succ, dotF, ih]
    simp
theorem impl_CountWords_l0 (n : Int) (nx : List (List Int)) (fs : List Int) (hok : rowsOk nx) (hN : nx.length ≤ 12) (t : Nat) : ∀ (f : List Int), t ≤ 20 → f.length = nx.length → nonneg f → dotF f 0 oneF * 3 ^ t ≤ 10000000000 →
    ∃ g, g.length = nx.length ∧ nonneg g ∧ dotF g 0 oneF ≤ 10000000000 ∧ (∀ u, dotF g 0 u = dotF f 0 (backN nx t u)) ∧ ∀ R, Ev (fun k => impl_CountWords.l3 k g 0 fs fs.length 0) R → Ev (fun k => impl_CountWords.l0 k t f n nx fs) R := by
  induction t with
  | zero =>
    intro f ht hf hn hd
    refine ⟨f, hf, hn, by simpa using hd, fun u => rfl, fun R h => ?_⟩
    apply ev_up
    simp only [impl_CountWords.l0]
    exact ev_n (by omega) h
  | succ t ih =>
    intro f ht hf hn hd
    have hf0 := dot_one_nonneg hn 0
    have e3 : dotF f 0 oneF * 3 ^ (t + 1) = dotF f 0 oneF * 3 * 3 ^ t := by rw [Int.pow_succ, Int.mul_comm (3 ^ t) 3, ← Int.mul_assoc]
    have hp : (1 : Int) ≤ 3 ^ t := by
      have : 1 ≤ 3 ^ t := Nat.one_le_pow _ _ (by decide)
      exact_mod_cast this
    have hM3 : dotF f 0 oneF * 3 ≤ dotF f 0 oneF * 3 * 3 ^ t := by
      have := Int.mul_le_mul_of_nonneg_left hp (show 0 ≤ dotF f 0 oneF * 3 by omega)
      omega
    have hz := dot_replicate nx.length oneF 0
    obtain ⟨g1, k1, k2, k3, k4⟩ := impl_CountWords_l1 n nx fs ((t + 1 : Nat) : Int) hok hN f hf f [] 0 (List.replicate nx.length 0) rfl rfl hn (by simp) (fun x hx => by rw [List.eq_of_mem_replicate hx]; exact Int.le_refl _) (by rw [hz]; omega)
    have hb1 := back_bound (v := oneF) (M := 1) (by decide) hok (fun _ _ => ⟨show (0 : Int) ≤ 1 by decide, Int.le_refl (1 : Int)⟩)
    have hg1 : dotF g1 0 oneF ≤ dotF f 0 oneF * 3 := by
      rw [k3, hz, Int.zero_add]
      exact dot_le3 hn (fun j hj => by have := hb1 j (by omega); omega)
    have hg2 : dotF g1 0 oneF * 3 ^ t ≤ dotF f 0 oneF * 3 * 3 ^ t := Int.mul_le_mul_of_nonneg_right hg1 (by omega)
    obtain ⟨g, m1, m2, m3, m4, m5⟩ := ih g1 (by omega) k1 k2 (by omega)
    refine ⟨g, m1, m2, m3, fun u => ?_, fun R h => ?_⟩
    · rw [m4, k3, dot_replicate, Int.zero_add, backN, backN_comm]
    · apply ev_up
      simp only [impl_CountWords.l0]
      refine ev_p (by omega) (ev_p (by omega) (ev_p (by omega) ?_))
      rw [hf, Int.toNat_natCast]
      have := k4 R
      rw [hf, wN (n := ((t + 1 : Nat) : Int) - 1) (m := t) (by omega) (by omega)] at this
      exact this (m5 R h)

/-! #### spec_auGood -/
theorem spec_auGood_l0 (n : Int) (nx : List (List Int)) (fs : List Int) (hx : nx.length ≤ 1048576) (hr : ∀ y ∈ nx, y.length ≤ 1048576) (hf : fs.length ≤ 1048576) (r : List (List Int)) : ∀ (p : List (List Int)) (i : Int), i = p.length → nx = p ++ r →
    Ev (fun k => spec_auGood.l0 k nx nx.length i n nx fs) (decide (1 ≤ n ∧ n ≤ 3 ∧ 1 ≤ nx.length ∧ nx.length ≤ 12) && (r.all (rowOk n (nx.length - 1)) && risingM (nx.length - 1) (-1) fs)) := by
  induction r with
  | nil =>
    intro p i hi e
    have hlen : nx.length = p.length := by rw [e]; simp
    apply ev_up
    simp only [spec_auGood.l0]
    rw [List.all_nil, Bool.true_and, l1In_eq, l1In_eq, w64 (n := (nx.length : Int) - 1) (by omega) (by omega)]
    refine ev_n (by omega) (Ev.bind (ev_c rfl) (ev_ite (fun h1 => Ev.bind (ev_c rfl) (ev_ite (fun h2 => ?_) (fun h2 => ?_))) (fun h1 => ?_)))
    · have h1' := of_decide_eq_true h1
      have h2' := of_decide_eq_true h2
      rw [decide_eq_true (by omega), Bool.true_and]
      exact Ev.bind (spec_l1Rising_ev fs _ hf) (Ev.now _)
    · rw [decide_eq_false (fun hh => h2 (decide_eq_true (by omega))), Bool.false_and]
      exact Ev.now _
    · rw [decide_eq_false (fun hh => h1 (decide_eq_true ⟨hh.1, hh.2.1⟩)), Bool.false_and]
      exact Ev.now _
  | cons x r ih =>
    intro p i hi e
    have hlen : nx.length = p.length + r.length + 1 := by rw [e]; simp; omega
    have hxx : rd_L1 nx i = x := by rw [e]; exact rdIIA hi
    have ih' := ih (p ++ [x]) (i + 1) (by simp; omega) (by rw [e]; simp)
    have no : rowOk n (nx.length - 1) x = false → Ev (fun _ => some false) (decide (1 ≤ n ∧ n ≤ 3 ∧ 1 ≤ nx.length ∧ nx.length ≤ 12) && ((x :: r).all (rowOk n (nx.length - 1)) && risingM (nx.length - 1) (-1) fs)) := fun h => by
      rw [List.all_cons, h, Bool.false_and, Bool.false_and, Bool.and_false]
      exact Ev.now _
    apply ev_up
    simp only [spec_auGood.l0]
    refine ev_p (by omega) (ev_p (by omega) (ev_p (by omega) ?_))
    rw [hxx, w64 (n := i + 1) (by omega) (by omega), w64 (n := (nx.length : Int) - 1) (by omega) (by omega)]
    refine ev_ite (fun h1 => Ev.bind (l1All_ev x 0 _ (by have := hr x (by rw [e]; simp); omega)) (ev_ite (fun h2 => ?_) (fun h2 => ?_))) (fun h1 => ?_)
    · have : rowOk n (nx.length - 1) x = true := by unfold rowOk; rw [decide_eq_true h1, h2]; rfl
      rw [List.all_cons, this, Bool.true_and]
      exact ih'
    · exact no (by unfold rowOk; rw [show x.all (inB 0 (nx.length - 1)) = false by simpa using h2, Bool.and_false])
    · exact no (by unfold rowOk; rw [decide_eq_false h1, Bool.false_and])
theorem spec_auGood_ev (n : Int) (nx : List (List Int)) (fs : List Int) (hx : nx.length ≤ 1048576) (hr : ∀ y ∈ nx, y.length ≤ 1048576) (hf : fs.length ≤ 1048576) : Ev (fun k => spec_auGood.f k n nx fs) (autoM n nx fs) := by
  unfold spec_auGood.f autoM
  exact spec_auGood_l0 n nx fs hx hr hf nx [] 0 rfl rfl

/-! #### impl_IsAutomaton -/
theorem impl_IsAutomaton_l2 (n : Int) (nx : List (List Int)) (l : List Int) (hx : nx.length ≤ 1048576) (hl : l.length ≤ 1048576) (r : List Int) : ∀ (p : List Int) (i prev : Int), i = p.length → l = p ++ r → (i = 0 ∧ prev = -1 ∨ 0 < i ∧ rd l (i - 1) = prev) →
    Ev (fun k => impl_IsAutomaton.l2 k l l.length i n nx l) (risingM (nx.length - 1) prev r) := by
  induction r with
  | nil =>
    intro p i prev hi' e hp
    have hlen : l.length = p.length := by rw [e]; simp
    apply ev_up
    simp only [impl_IsAutomaton.l2]
    exact ev_n (by omega) (Ev.now _)
  | cons x r ih =>
    intro p i prev hi' e hp
    have hlen : l.length = p.length + r.length + 1 := by rw [e]; simp; omega
    have hxx : rd l i = x := by rw [e]; exact rdA hi'
    have ih' := ih (p ++ [x]) (i + 1) x (by simp; omega) (by rw [e]; simp) (Or.inr ⟨by omega, by rw [Int.add_sub_cancel]; exact hxx⟩)
    have no : ¬ (0 ≤ x ∧ x ≤ (nx.length : Int) - 1 ∧ prev < x) → Ev (fun _ => some false) (risingM (nx.length - 1) prev (x :: r)) := fun h => by
      rw [risingM, decide_eq_false h, Bool.false_and]
      exact Ev.now _
    apply ev_up
    simp only [impl_IsAutomaton.l2]
    refine ev_p (by omega) (ev_p (by omega) (ev_p (by omega) ?_))
    rw [hxx, w64 (n := i + 1) (by omega) (by omega), w64 (n := i - 1) (by omega) (by omega)]
    refine ev_ite (fun c => no (by omega)) (fun c1 => ev_ite (fun c => no (by omega)) (fun c2 => ev_ite (fun c3 => ?_) (fun c3 => ?_)))
    · rcases hp with hp | ⟨_, hp⟩
      · omega
      · refine ev_p (by omega) (ev_p (by omega) ?_)
        rw [hp]
        refine ev_ite (fun c => no (by omega)) (fun c4 => ?_)
        rw [risingM, decide_eq_true (by omega), Bool.true_and]
        exact ih'
    · rcases hp with ⟨_, hp⟩ | ⟨hp, _⟩
      · rw [risingM, decide_eq_true (by omega), Bool.true_and]
        exact ih'
      · omega
theorem impl_IsAutomaton_l1 (n : Int) (nx : List (List Int)) (fs : List Int) (ys : List (List Int)) (f j : Int) (w : List Int) (res : Bool) (hx : nx.length ≤ 1048576) (hw : w.length ≤ 1048576) (r : List Int) : ∀ (p : List Int) (i : Int), i = p.length → w = p ++ r →
    (r.all (inB 0 (nx.length - 1)) = true → Ev (fun k => impl_IsAutomaton.l0 k ys f (wrap64 (j + 1)) n nx fs) res) → (r.all (inB 0 (nx.length - 1)) = false → res = false) →
    Ev (fun k => impl_IsAutomaton.l1 k ys f j w w.length i n nx fs) res := by
  induction r with
  | nil =>
    intro p i hi e h1 h2
    have hlen : w.length = p.length := by rw [e]; simp
    apply ev_up
    simp only [impl_IsAutomaton.l1]
    exact ev_n (by omega) (h1 rfl)
  | cons x r ih =>
    intro p i hi e h1 h2
    have hlen : w.length = p.length + r.length + 1 := by rw [e]; simp; omega
    have hxx : rd w i = x := by rw [e]; exact rdA hi
    apply ev_up
    simp only [impl_IsAutomaton.l1]
    refine ev_p (by omega) (ev_p (by omega) (ev_p (by omega) ?_))
    rw [hxx, w64 (n := i + 1) (by omega) (by omega)]
    have no : ¬ (0 ≤ x ∧ x ≤ (nx.length : Int) - 1) → Ev (fun _ => some false) res := fun h => by
      rw [h2 (by rw [List.all_cons, show inB 0 (nx.length - 1) x = false from decide_eq_false h, Bool.false_and])]
      exact Ev.now _
    refine ev_ite (fun c => no (by omega)) (fun c1 => ev_ite (fun c => no (by omega)) (fun c2 => ?_))
    have ex : inB 0 (nx.length - 1) x = true := decide_eq_true (by omega)
    rw [List.all_cons, ex, Bool.true_and] at h1 h2
    exact ih (p ++ [x]) (i + 1) (by simp; omega) (by rw [e]; simp) h1 h2
theorem impl_IsAutomaton_l0 (n : Int) (nx : List (List Int)) (fs : List Int) (hx : nx.length ≤ 1048576) (hr : ∀ y ∈ nx, y.length ≤ 1048576) (hf : fs.length ≤ 1048576) (r : List (List Int)) : ∀ (p : List (List Int)) (i : Int), i = p.length → nx = p ++ r →
    Ev (fun k => impl_IsAutomaton.l0 k nx nx.length i n nx fs) (r.all (rowOk n (nx.length - 1)) && risingM (nx.length - 1) (-1) fs) := by
  induction r with
  | nil =>
    intro p i hi e
    have hlen : nx.length = p.length := by rw [e]; simp
    apply ev_up
    simp only [impl_IsAutomaton.l0]
    refine ev_n (by omega) ?_
    rw [List.all_nil, Bool.true_and]
    exact impl_IsAutomaton_l2 n nx fs hx hf fs [] 0 (-1) rfl rfl (Or.inl ⟨rfl, rfl⟩)
  | cons x r ih =>
    intro p i hi e
    have hlen : nx.length = p.length + r.length + 1 := by rw [e]; simp; omega
    have hxx : rd_L1 nx i = x := by rw [e]; exact rdIIA hi
    have ih' := ih (p ++ [x]) (i + 1) (by simp; omega) (by rw [e]; simp)
    apply ev_up
    simp only [impl_IsAutomaton.l0]
    refine ev_p (by omega) (ev_p (by omega) (ev_p (by omega) ?_))
    rw [hxx]
    refine ev_ite (fun h1 => ?_) (fun h1 => ?_)
    · refine impl_IsAutomaton_l1 n nx fs nx nx.length i x _ hx (hr x (by rw [e]; simp)) x [] 0 rfl rfl (fun h2 => ?_) (fun h2 => ?_)
      · have : rowOk n (nx.length - 1) x = true := by unfold rowOk; rw [decide_eq_true h1, h2]; rfl
        rw [List.all_cons, this, Bool.true_and, w64 (n := i + 1) (by omega) (by omega)]
        exact ih'
      · have : rowOk n (nx.length - 1) x = false := by unfold rowOk; rw [h2, Bool.and_false]
        rw [List.all_cons, this, Bool.false_and, Bool.false_and]
    · have : rowOk n (nx.length - 1) x = false := by unfold rowOk; rw [decide_eq_false h1, Bool.false_and]
      rw [List.all_cons, this, Bool.false_and, Bool.false_and]
      exact Ev.now _
theorem impl_IsAutomaton_ev (n : Int) (nx : List (List Int)) (fs : List Int) (hx : nx.length ≤ 1048576) (hr : ∀ y ∈ nx, y.length ≤ 1048576) (hf : fs.length ≤ 1048576) : Ev (fun k => impl_IsAutomaton.f k n nx fs) (autoM n nx fs) := by
  have bad : ¬ (1 ≤ n ∧ n ≤ 3 ∧ 1 ≤ nx.length ∧ nx.length ≤ 12) → Ev (fun k => impl_IsAutomaton.j0 k true n nx fs) (autoM n nx fs) := fun h => by
    apply ev_up
    simp only [impl_IsAutomaton.j0]
    unfold autoM
    rw [decide_eq_false h, Bool.false_and]
    exact ev_p (by trivial) (Ev.now _)
  unfold impl_IsAutomaton.f
  refine ev_ite (fun c => bad (by omega)) (fun c1 => ev_ite (fun c => bad (by omega)) (fun c2 => ev_ite (fun c => bad (by omega)) (fun c3 => ?_)))
  apply ev_up
  simp only [impl_IsAutomaton.j0]
  refine ev_ite (fun c5 => ?_) (fun c5 => ?_)
  · have c5' := of_decide_eq_true c5
    unfold autoM
    rw [decide_eq_false (by omega), Bool.false_and]
    exact Ev.now _
  · have c5' : ¬ (nx.length : Int) > 12 := fun h => c5 (decide_eq_true h)
    unfold autoM
    rw [decide_eq_true (by omega), Bool.true_and]
    exact impl_IsAutomaton_l0 n nx fs hx hr hf nx [] 0 rfl rfl

/-! #### countWords -/
theorem rising_lt {hi : Int} {r : List Int} : ∀ {prev : Int}, risingM hi prev r = true → ∀ x ∈ r, prev < x ∧ 0 ≤ x ∧ x ≤ hi := by
  induction r with
  | nil => intro prev _ x hx; simp at hx
  | cons a r ih =>
    intro prev h x hx
    rw [risingM, Bool.and_eq_true] at h
    have ha := of_decide_eq_true h.1
    rcases List.mem_cons.1 hx with hx | hx
    · subst hx
      exact ⟨ha.2.2, ha.1, ha.2.1⟩
    · have := ih h.2 x hx
      exact ⟨by omega, this.2⟩
theorem dot_ind {hi : Int} (f : List Int) (hf : hi < f.length) (r : List Int) : ∀ (prev : Int), risingM hi prev r = true → dotF f 0 (indF r) = sumAt f r := by
  induction r with
  | nil => intro prev _; exact dot_zero f 0 _ (fun j _ => by simp [indF])
  | cons a r ih =>
    intro prev h
    have hall := rising_lt h
    rw [risingM, Bool.and_eq_true] at h
    have hr := rising_lt h.2
    have ha := hall a (by simp)
    obtain ⟨b, rfl⟩ := nat_of ha.2.1
    have e : ∀ j, indF ((b : Int) :: r) j = (fun j => if j = 0 + b then (1 : Int) else 0) j + indF r j := fun j => by
      unfold indF
      by_cases c : j = b
      · have h2 : ¬ (j : Int) ∈ r := fun hh => by have := hr _ hh; omega
        rw [if_pos (by rw [c]; simp), if_neg h2]
        simp [c]
      · by_cases c2 : (j : Int) ∈ r
        · rw [if_pos (by simp [c2]), if_pos c2]
          simp [c]
        · have h3 : ¬ (j : Int) ∈ (b : Int) :: r := fun hh => by
            rcases List.mem_cons.1 hh with hh | hh
            · omega
            · exact c2 hh
          rw [if_neg h3, if_neg c2]
          simp [c]
    rw [dot_congr f _ _ e, dot_add, dot_e f 0 b (by omega), ih _ h.2, sumAt]
def countWordsM (n : Int) (nx : List (List Int)) (fs : List Int) (t : Int) : Int × Bool := if autoM n nx fs = true ∧ 0 ≤ t ∧ t ≤ 20 then (backN nx t.toNat (indF fs) 0, true) else (0, false)
theorem autoM_of {n : Int} {nx : List (List Int)} {fs : List Int} (h : autoM n nx fs = true) : 1 ≤ nx.length ∧ nx.length ≤ 12 ∧ rowsOk nx ∧ risingM (nx.length - 1) (-1) fs = true := by
  unfold autoM at h
  rw [Bool.and_eq_true, Bool.and_eq_true, List.all_eq_true] at h
  have h1 := of_decide_eq_true h.1
  refine ⟨by omega, by omega, fun s hs => ?_, h.2.2⟩
  have h2 := h.2.1 _ (rdII_mem hs)
  unfold rowOk at h2
  rw [Bool.and_eq_true, List.all_eq_true] at h2
  have h3 := of_decide_eq_true h2.1
  refine ⟨by omega, fun y hy => ?_⟩
  have := of_decide_eq_true (h2.2 y hy)
  omega
theorem spec_CountWords_ev (n : Int) (nx : List (List Int)) (fs : List Int) (t : Int) (hx : nx.length ≤ 1048576) (hr : ∀ y ∈ nx, y.length ≤ 1048576) (hf : fs.length ≤ 1048576) : Ev (fun k => spec_CountWords.f k n nx fs t) (countWordsM n nx fs t) := by
  unfold spec_CountWords.f
  have no : ¬ (autoM n nx fs = true ∧ 0 ≤ t ∧ t ≤ 20) → Ev (fun k => spec_CountWords.j0 k t true n nx fs) (countWordsM n nx fs t) := fun h => by
    unfold countWordsM
    rw [if_neg h]
    apply ev_up
    simp only [spec_CountWords.j0]
    exact ev_p (by trivial) (Ev.now _)
  refine Ev.bind (spec_auGood_ev n nx fs hx hr hf) (ev_ite (fun h => ?_) (fun h => no (fun hh => h hh.1)))
  rw [l1In_eq]
  refine Ev.bind (ev_c rfl) ?_
  by_cases h2 : 0 ≤ t ∧ t ≤ 20
  · rw [decide_eq_true h2]
    obtain ⟨m, rfl⟩ := nat_of h2.1
    obtain ⟨h3, h4, h5, h6⟩ := autoM_of h
    unfold countWordsM
    rw [if_pos ⟨h, h2⟩, Int.toNat_natCast]
    apply ev_up
    simp only [spec_CountWords.j0]
    refine ev_n (by decide) (ev_p (by omega) (ev_p (by omega) ?_))
    have e : List.replicate ((nx.length : Int)).toNat 0 = rmap nx.length (indF []) := by
      rw [Int.toNat_natCast, rmap_const]
      exact rmap_congr (fun k _ => by simp [indF])
    rw [e]
    have hfb : ∀ a ∈ fs, 0 ≤ a ∧ a < nx.length := fun a ha => by have := rising_lt h6 a ha; omega
    refine spec_CountWords_l0 n nx fs m hf hfb _ fs [] 0 rfl rfl ?_
    have hp : (3 : Int) ^ m ≤ 3 ^ 20 := by
      have : 3 ^ m ≤ 3 ^ 20 := Nat.pow_le_pow_right (by decide) (by omega)
      exact_mod_cast this
    have hc : (3 : Int) ^ 20 = 3486784401 := by decide
    refine spec_CountWords_l1 n nx fs h3 h4 h5 m (indF fs) 1 (by decide) (by omega) (by omega) (fun s _ => ?_)
    unfold indF
    split <;> decide
  · rw [decide_eq_false h2]
    exact no (fun hh => h2 hh.2)
theorem impl_CountWords_ev (n : Int) (nx : List (List Int)) (fs : List Int) (t : Int) (hx : nx.length ≤ 1048576) (hr : ∀ y ∈ nx, y.length ≤ 1048576) (hf : fs.length ≤ 1048576) : Ev (fun k => impl_CountWords.f k n nx fs t) (countWordsM n nx fs t) := by
  unfold impl_CountWords.f
  have no : ¬ (autoM n nx fs = true ∧ 0 ≤ t ∧ t ≤ 20) → Ev (fun k => impl_CountWords.j0 k t true n nx fs) (countWordsM n nx fs t) := fun h => by
    unfold countWordsM
    rw [if_neg h]
    apply ev_up
    simp only [impl_CountWords.j0]
    exact ev_p (by trivial) (Ev.now _)
  refine Ev.bind (impl_IsAutomaton_ev n nx fs hx hr hf) (ev_ite (fun h => ev_ite (fun c => no (fun hh => by omega)) (fun c1 => ?_)) (fun h => no (fun hh => h hh.1)))
  by_cases c2 : t > 20
  · rw [decide_eq_true c2]
    exact no (fun hh => by omega)
  · rw [decide_eq_false c2]
    have h2 : 0 ≤ t ∧ t ≤ 20 := ⟨by omega, by omega⟩
    obtain ⟨m, rfl⟩ := nat_of h2.1
    obtain ⟨h3, h4, h5, h6⟩ := autoM_of h
    unfold countWordsM
    rw [if_pos ⟨h, h2⟩, Int.toNat_natCast]
    apply ev_up
    simp only [impl_CountWords.j0]
    refine ev_n (by decide) (ev_p (by omega) (ev_p (by omega) (Ev.bind (ev_c rfl) (ev_p (by simp; omega) ?_))))
    rw [Int.toNat_natCast]
    have hfb : ∀ a ∈ fs, 0 ≤ a ∧ a < nx.length := fun a ha => by have := rising_lt h6 a ha; omega
    have hp : (3 : Int) ^ m ≤ 3 ^ 20 := by
      have : 3 ^ m ≤ 3 ^ 20 := Nat.pow_le_pow_right (by decide) (by omega)
      exact_mod_cast this
    have hc : (3 : Int) ^ 20 = 3486784401 := by decide
    have hz : rd (List.replicate nx.length 0) ((0 : Nat) : Int) = 0 := by
      have : rd (List.replicate nx.length 0) ((0 : Nat) : Int) = (List.replicate nx.length (0 : Int))[0]'(by simp; omega) := getDN (by simp; omega)
      rw [this]
      simp
    have hds : ∀ u, dotF ((List.replicate nx.length 0).set 0 1) 0 u = u 0 := fun u => by
      have := dot_set (List.replicate nx.length 0) 1 u 0 0 (by simp; omega)
      rw [hz, dot_replicate] at this
      simpa using this
    have hn1 : nonneg ((List.replicate nx.length (0 : Int)).set 0 1) := nonneg_set (fun x hx => by rw [List.eq_of_mem_replicate hx]; exact Int.le_refl _) (by decide)
    have e1 : oneF 0 = 1 := rfl
    obtain ⟨g, k1, k2, k3, k4, k5⟩ := impl_CountWords_l0 n nx fs h5 h4 m ((List.replicate nx.length 0).set 0 1) (by omega) (by simp) hn1 (by rw [hds, e1]; omega)
    refine k5 _ ?_
    refine ev_eq (impl_CountWords_l3 g fs k2 k3 hf (by rw [k1]; exact hfb) fs [] 0 0 rfl rfl (by decide) (by decide)) ?_
    rw [Int.zero_add, ← dot_ind (hi := (nx.length : Int) - 1) g (by omega) fs (-1) h6, k4, hds]

/-! #### FnExactCountWords -/
theorem FnExactCountWords (a0_0 : Int) (l0_1 : (List (List Int))) (l0_2 : (List Int)) (a1 : Int) : I64 a0_0 → (l0_1.length ≤ 9223372036854775807 ∧ ∀ y3 ∈ l0_1, (y3.length ≤ 9223372036854775807 ∧ ∀ y2 ∈ y3, I64 y2)) → (l0_2.length ≤ 9223372036854775807 ∧ ∀ y2 ∈ l0_2, I64 y2) → I64 a1 → ∃ k, laws_FnExactCountWords.f k a0_0 l0_1 l0_2 a1 = some true := by
  rintro _ ⟨hx, hr⟩ ⟨hf, _⟩ _
  apply ev_get
  obtain ⟨t, ht, hq⟩ := szAutomaton_ev a0_0 l0_1 l0_2 hx (fun y h => (hr y h).1) hf
  unfold laws_FnExactCountWords.f
  refine Ev.bind ht (ev_ite (fun _ => Ev.now _) (fun h => ?_))
  obtain ⟨hx2, hr2, hf2⟩ := hq h
  have hto := toAutomaton_ev a0_0 l0_1 l0_2 hx2 hr2 hf2
  have heq := eqAutomaton_self a0_0 l0_1 l0_2 hx2 hr2 hf2
  have hs := spec_CountWords_ev a0_0 l0_1 l0_2 a1 hx2 hr2 hf2
  have hi := impl_CountWords_ev a0_0 l0_1 l0_2 a1 hx2 hr2 hf2
  repeat (first
    | (with_reducible exact Ev.now _)
    | (with_reducible refine Ev.bind hto ?_)
    | (with_reducible refine Ev.bind hs ?_)
    | (with_reducible refine Ev.bind hi ?_)
    | (with_reducible refine Ev.bind heq ?_)
    | (with_reducible refine ev_p rfl ?_)
    | (with_reducible refine ev_p True.intro ?_)
    | (refine ev_n ?h ?_; case h => (first | omega | (simp; done) | (simp; omega)))
    | (with_reducible refine ev_up (g := fun n => laws_FnExactCountWords.j0 n _ _ _ _ _ _ _) ?_; simp only [laws_FnExactCountWords.j0, bne_self_eq_false]))

end Go.Proofs.Ytcameioepklidaa.Pure
