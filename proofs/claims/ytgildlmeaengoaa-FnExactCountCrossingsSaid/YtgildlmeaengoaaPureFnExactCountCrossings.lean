/- The pure part of the law FnExactCountCrossings: what the program and the reference compute is the same, for all arguments. Conditions: the numbers are of Go's int, the lengths of slices are. -/
import Derived.Test.YtgildlmeaengoaaQFnExactCountCrossingsx4
import Derived.Test.YtgildlmeaengoaaKit
set_option linter.unusedVariables false
set_option linter.unusedSimpArgs false
namespace Go.Proofs.Ytgildlmeaengoaa.Pure
open Go.RowKit Go.Proofs.Ytgildlmeaengoaa.QFnExactCountCrossings Go.Proofs.YtgildlmeaengoaaW.PrintWords Go.Proofs.YtgildlmeaengoaaW.PrintLast Go.Proofs.Ytgildlmeaengoaa.Open Go.Proofs.Ytgildlmeaengoaa.Kit

/-! #### szIntS -/
theorem szIntS_eq (l : List Int) (a : Int) (ha : 0 ≤ a) (ha2 : a ≤ 1048576) (hl : l.length ≤ 9223372036854775807) : laws_szIntS.f l a = some (if l.length ≤ a then a - l.length else -1) := by
  unfold laws_szIntS.f
  rw [w64 (by omega) (by omega)]
  by_cases h : (l.length : Int) ≤ a
  · rw [if_neg (by omega), if_pos h]
  · rw [if_pos (by omega), if_neg h]

/-! #### rdII -/
theorem rdIIA {p r : List (List Int)} {x : List Int} {i : Int} (hi : i = p.length) : rd_L1 (p ++ x :: r) i = x := getDA hi

/-! #### szIntSS -/
theorem szIntSS_l0 (r : List (List Int)) : ∀ (p : List (List Int)) (a i : Int), i = p.length → p.length + r.length ≤ 9223372036854775807 → 0 ≤ a → a ≤ 1048576 → (∀ y ∈ r, y.length ≤ 9223372036854775807) →
    ∃ t, Ev (fun k => laws_szIntSS.l0 k (p ++ r) a i) t ∧ (0 ≤ t → t ≤ a ∧ ∀ y ∈ r, y.length ≤ 1048576) := by
  induction r with
  | nil =>
    intro p a i hi hb h0 h1 hy
    refine ⟨a, ?_, fun _ => ⟨Int.le_refl _, fun y hy => by simp at hy⟩⟩
    apply ev_up
    simp only [laws_szIntSS.l0]
    exact ev_n (by simp; omega) (Ev.now _)
  | cons x r ih =>
    intro p a i hi hb h0 h1 hy
    simp only [List.length_cons] at hb
    have hx := hy x (by simp)
    by_cases hc : (x.length : Int) ≤ a
    · obtain ⟨t, ht, hq⟩ := ih (p ++ [x]) (a - x.length) (i + 1) (by simp; omega) (by simp; omega) (by omega) (by omega) (fun y h => hy y (by simp [h]))
      refine ⟨t, ?_, fun h => ⟨by have := (hq h).1; omega, ?_⟩⟩
      · apply ev_up
        simp only [laws_szIntSS.l0]
        refine ev_p (by simp; omega) (ev_p (by omega) ?_)
        rw [rdIIA hi, szIntS_eq x a h0 h1 hx, if_pos hc]
        refine Ev.bind (ev_c rfl) (ev_n (by omega) ?_)
        rw [w64 (by omega) (by omega), appA]
        exact ht
      · intro y hy'
        simp only [List.mem_cons] at hy'
        rcases hy' with rfl | hy'
        · omega
        · exact (hq h).2 y hy'
    · refine ⟨-1, ?_, fun h => absurd h (by decide)⟩
      apply ev_up
      simp only [laws_szIntSS.l0]
      refine ev_p (by simp; omega) (ev_p (by omega) ?_)
      rw [rdIIA hi, szIntS_eq x a h0 h1 hx, if_neg hc]
      exact Ev.bind (ev_c rfl) (ev_p (by decide) (Ev.now _))
theorem szIntSS_ev (l : List (List Int)) (a : Int) (h0 : 0 ≤ a) (h1 : a ≤ 1048576) (hl : l.length ≤ 9223372036854775807) (hy : ∀ y ∈ l, y.length ≤ 9223372036854775807) :
    ∃ t, Ev (fun k => laws_szIntSS.f k l a) t ∧ (0 ≤ t → t ≤ a ∧ l.length ≤ 1048576 ∧ ∀ y ∈ l, y.length ≤ 1048576) := by
  unfold laws_szIntSS.f
  rw [w64 (by omega) (by omega)]
  by_cases h : (l.length : Int) ≤ a
  · obtain ⟨t, ht, hq⟩ := szIntSS_l0 l [] (a - l.length) 0 rfl (by simpa using hl) (by omega) (by omega) hy
    exact ⟨t, ev_n (by omega) ht, fun h2 => ⟨by have := (hq h2).1; omega, by omega, (hq h2).2⟩⟩
  · exact ⟨-1, ev_p (by omega) (Ev.now _), fun h => absurd h (by decide)⟩

/-! #### toIntS -/
theorem toIntS_l0 (r : List Int) : ∀ (p z : List Int) (i : Int), i = p.length → z.length = r.length → p.length + r.length ≤ 9223372036854775806 →
    Ev (fun k => laws_toIntS.l0 k (p ++ r) (p ++ z) i) (p ++ r) := by
  induction r with
  | nil =>
    intro p z i hi hz hb
    obtain rfl : z = [] := List.length_eq_zero_iff.1 hz
    apply ev_up
    simp only [laws_toIntS.l0]
    refine ev_n (by simp; omega) ?_
    exact Ev.now _
  | cons x r ih =>
    intro p z i hi hz hb
    match z, hz with
    | y :: z, hz =>
      simp only [List.length_cons] at hz hb
      apply ev_up
      simp only [laws_toIntS.l0]
      refine ev_p (by simp; omega) (ev_p (by omega) (ev_p (by simp; omega) ?_))
      rw [rdA hi, setA hi, w64 (by omega) (by omega), appA]
      exact ih (p ++ [x]) z (i + 1) (by simp; omega) (by omega) (by simp; omega)
theorem toIntS_ev (a : List Int) (h : a.length ≤ 35184372088832) : Ev (fun k => laws_toIntS.f k a) a := by
  unfold laws_toIntS.f
  refine ev_p (by omega) (ev_p (by omega) ?_)
  exact toIntS_l0 a [] (List.replicate ((a.length : Int)).toNat 0) 0 rfl (by simp) (by simp; omega)
/-! #### toIntSS -/
theorem toIntSS_l0 (r : List (List Int)) : ∀ (p z : List (List Int)) (i : Int), i = p.length → z.length = r.length → p.length + r.length ≤ 9223372036854775806 → (∀ y ∈ r, y.length ≤ 1048576) →
    Ev (fun k => laws_toIntSS.l0 k (p ++ r) (p ++ z) i) (p ++ r) := by
  induction r with
  | nil =>
    intro p z i hi hz hb hy
    obtain rfl : z = [] := List.length_eq_zero_iff.1 hz
    apply ev_up
    simp only [laws_toIntSS.l0]
    exact ev_n (by simp; omega) (Ev.now _)
  | cons x r ih =>
    intro p z i hi hz hb hy
    match z, hz with
    | y :: z, hz =>
      simp only [List.length_cons] at hz hb
      have hx := hy x (by simp)
      apply ev_up
      simp only [laws_toIntSS.l0]
      refine ev_p (by simp; omega) (ev_p (by omega) ?_)
      rw [rdIIA hi]
      refine Ev.bind (toIntS_ev x (by omega)) (ev_p (by simp; omega) ?_)
      rw [setA hi, w64 (by omega) (by omega), appA]
      exact ih (p ++ [x]) z (i + 1) (by simp; omega) (by omega) (by simp; omega) (fun y h => hy y (by simp [h]))
theorem toIntSS_ev (l : List (List Int)) (h : l.length ≤ 1048576) (hy : ∀ y ∈ l, y.length ≤ 1048576) : Ev (fun k => laws_toIntSS.f k l) l := by
  unfold laws_toIntSS.f
  refine ev_p (by omega) (ev_p (by omega) ?_)
  exact toIntSS_l0 l [] (List.replicate ((l.length : Int)).toNat []) 0 rfl (by simp) (by simp; omega) hy

/-! #### eqIntS -/
theorem eqIntS_l0 (r : List Int) : ∀ (s p q : List Int) (i : Int), i = p.length → p.length = q.length → r.length = s.length → p.length + r.length ≤ 9223372036854775807 →
    Ev (fun k => laws_eqIntS.l0 k (p ++ r) (q ++ s) i) (decide (r = s)) := by
  induction r with
  | nil =>
    intro s p q i hi hpq hrs hb
    obtain rfl : s = [] := List.length_eq_zero_iff.1 hrs.symm
    apply ev_up
    simp only [laws_eqIntS.l0]
    refine ev_n (by simp; omega) ?_
    simpa using Ev.now true
  | cons x r ih =>
    intro s p q i hi hpq hrs hb
    match s, hrs with
    | y :: s, hrs =>
      simp only [List.length_cons] at hrs hb
      apply ev_up
      simp only [laws_eqIntS.l0]
      refine ev_p (by simp; omega) (ev_p (by omega) (ev_p (by simp; omega) ?_))
      rw [rdA hi, rdA (by omega)]
      refine ev_ite (fun hxy => ?_) (fun hxy => ?_)
      · subst hxy
        rw [w64 (by omega) (by omega), appA, appA (p := q)]
        refine ev_eq (ih s (p ++ [x]) (q ++ [x]) (i + 1) (by simp; omega) (by simp; omega) (by omega) (by simp; omega)) ?_
        simp
      · refine ev_eq (Ev.now false) ?_
        simp [hxy]
theorem eqIntS_ev (a b : List Int) (h : a.length ≤ 9223372036854775807) : Ev (fun k => laws_eqIntS.f k a b) (decide (a = b)) := by
  unfold laws_eqIntS.f
  refine ev_ite (fun hl => ?_) (fun hl => ?_)
  · exact eqIntS_l0 a b [] [] 0 rfl rfl (by omega) (by simpa using h)
  · refine ev_eq (Ev.now false) ?_
    symm
    apply decide_eq_false
    rintro rfl
    exact hl rfl

/-! #### eqIntSS -/
theorem eqIntSS_l0 (r : List (List Int)) : ∀ (s p q : List (List Int)) (i : Int), i = p.length → p.length = q.length → r.length = s.length → p.length + r.length ≤ 9223372036854775807 → (∀ y ∈ r, y.length ≤ 9223372036854775807) →
    Ev (fun k => laws_eqIntSS.l0 k (p ++ r) (q ++ s) i) (decide (r = s)) := by
  induction r with
  | nil =>
    intro s p q i hi hpq hrs hb hy
    obtain rfl : s = [] := List.length_eq_zero_iff.1 hrs.symm
    apply ev_up
    simp only [laws_eqIntSS.l0]
    refine ev_n (by simp; omega) ?_
    simpa using Ev.now true
  | cons x r ih =>
    intro s p q i hi hpq hrs hb hy
    match s, hrs with
    | y :: s, hrs =>
      simp only [List.length_cons] at hrs hb
      apply ev_up
      simp only [laws_eqIntSS.l0]
      refine ev_p (by simp; omega) (ev_p (by omega) (ev_p (by simp; omega) ?_))
      rw [rdIIA hi, rdIIA (by omega)]
      refine Ev.bind (eqIntS_ev x y (hy x (by simp))) ?_
      refine ev_ite (fun hxy => ?_) (fun hxy => ?_)
      · obtain rfl := of_decide_eq_true hxy
        rw [w64 (by omega) (by omega), appA, appA (p := q)]
        refine ev_eq (ih s (p ++ [x]) (q ++ [x]) (i + 1) (by simp; omega) (by simp; omega) (by omega) (by simp; omega) (fun y h => hy y (by simp [h]))) ?_
        simp
      · refine ev_eq (Ev.now false) ?_
        have hxy' : ¬ x = y := fun e => hxy (decide_eq_true e)
        simp [hxy']
theorem eqIntSS_ev (a b : List (List Int)) (h : a.length ≤ 9223372036854775807) (hy : ∀ y ∈ a, y.length ≤ 9223372036854775807) : Ev (fun k => laws_eqIntSS.f k a b) (decide (a = b)) := by
  unfold laws_eqIntSS.f
  refine ev_ite (fun hl => ?_) (fun hl => ?_)
  · exact eqIntSS_l0 a b [] [] 0 rfl rfl (by omega) (by simpa using h) hy
  · refine ev_eq (Ev.now false) ?_
    symm
    apply decide_eq_false
    rintro rfl
    exact hl rfl

/-! #### levelWiresM -/
/-- A wire for m points. -/
def goodW (m : Int) : List Int → Bool
  | [a, b] => decide (0 ≤ a ∧ a ≤ 29 ∧ 0 ≤ b ∧ b < m)
  | _ => false
def levelWiresM (l : List (List Int)) (m : Int) : Bool := decide (1 ≤ m ∧ m ≤ 7 ∧ l.length ≤ 30) && l.all (goodW m)
theorem goodW_len {m : Int} {w : List Int} (h : w.length ≠ 2) : goodW m w = false := by
  match w, h with
  | [], _ => rfl
  | [_], _ => rfl
  | [_, _], h => simp at h
  | _ :: _ :: _ :: _, _ => rfl
theorem two_of {w : List Int} (h : w.length = 2) : ∃ a b, w = [a, b] := by
  match w, h with
  | [a, b], _ => exact ⟨a, b, rfl⟩

/-! #### crossM -/
def cross (x y : List Int) : Bool := decide ((rd x 0 - rd y 0) * (rd x 1 - rd y 1) < 0)
def isW (m : Int) (w : List Int) : Prop := ∃ a b, w = [a, b] ∧ 0 ≤ a ∧ a ≤ 29 ∧ 0 ≤ b ∧ b < m
theorem isW_of {m : Int} {w : List Int} (h : goodW m w = true) : isW m w := by
  match w, h with
  | [a, b], h =>
    have := of_decide_eq_true (show decide (0 ≤ a ∧ a ≤ 29 ∧ 0 ≤ b ∧ b < m) = true from h)
    exact ⟨a, b, rfl, this⟩
  | [], h => simp [goodW] at h
  | [_], h => simp [goodW] at h
  | _ :: _ :: _ :: _, h => simp [goodW] at h
theorem levelWiresM_of {l : List (List Int)} {m : Int} (h : levelWiresM l m = true) : 1 ≤ m ∧ m ≤ 7 ∧ l.length ≤ 30 ∧ ∀ w ∈ l, isW m w := by
  unfold levelWiresM at h
  rw [Bool.and_eq_true, List.all_eq_true] at h
  have := of_decide_eq_true h.1
  exact ⟨this.1, this.2.1, this.2.2, fun w hw => isW_of (h.2 w hw)⟩
theorem mul_small {a b : Int} (h1 : -30 ≤ a) (h2 : a ≤ 30) (h3 : -30 ≤ b) (h4 : b ≤ 30) : -900 ≤ a * b ∧ a * b ≤ 900 := by
  have e : ∀ x y : Int, 0 ≤ x → 0 ≤ y → 0 ≤ x * y := fun x y hx hy => Int.mul_nonneg hx hy
  have p1 := e (30 - a) (30 - b) (by omega) (by omega)
  have p2 := e (30 + a) (30 + b) (by omega) (by omega)
  have p3 := e (30 - a) (30 + b) (by omega) (by omega)
  have p4 := e (30 + a) (30 - b) (by omega) (by omega)
  simp only [Int.sub_mul, Int.mul_sub, Int.add_mul, Int.mul_add] at p1 p2 p3 p4
  generalize a * b = c at *
  omega
/-- How many of the pairs with one before cross. -/
def cntM : List (List Int) → List (List Int) → Nat
  | _, [] => 0
  | p, x :: r => p.countP (cross x) + cntM (p ++ [x]) r

/-! #### spec_plCount -/
theorem spec_plCount_l1 (l : List (List Int)) (m : Int) (hm : m ≤ 7) (hl : l.length ≤ 30) (x : List Int) (hx : isW m x) (j : Int) (ys : List (List Int)) (res : Int) (r : List (List Int)) : ∀ (p : List (List Int)) (n i : Int), i = p.length → ys = p ++ r → ys.length ≤ 30 → (∀ w ∈ r, isW m w) → 0 ≤ n → n + r.length ≤ 100000 →
    (Ev (fun k => spec_plCount.l0 k l (n + (r.countP (cross x) : Nat)) l l.length (wrap64 (j + 1))) res) → Ev (fun k => spec_plCount.l1 k l n x l l.length j ys ys.length i) res := by
  induction r with
  | nil =>
    intro p n i hi e hy hw h0 hn hk
    have hlen : ys.length = p.length := by rw [e]; simp
    apply ev_up
    simp only [spec_plCount.l1]
    refine ev_n (by omega) ?_
    simpa using hk
  | cons y r ih =>
    intro p n i hi e hy hw h0 hn hk
    have hlen : ys.length = p.length + r.length + 1 := by rw [e]; simp; omega
    simp only [List.length_cons] at hn
    have hr : rd_L1 ys i = y := by rw [e]; exact rdIIA hi
    obtain ⟨a, b, rfl, ha⟩ := hx
    obtain ⟨c, d, rfl, hc⟩ := hw y (by simp)
    have hb := mul_small (a := a - c) (b := b - d) (by omega) (by omega) (by omega) (by omega)
    apply ev_up
    simp only [spec_plCount.l1]
    refine ev_p (by omega) (ev_p (by omega) (ev_p (by omega) (ev_p (by simp) ?_)))
    rw [hr]
    refine ev_p (by simp) (ev_p (by simp) (ev_p (by simp) ?_))
    have e0 : rd [a, b] 0 = a := rfl
    have e1 : rd [a, b] 1 = b := rfl
    have e2 : rd [c, d] 0 = c := rfl
    have e3 : rd [c, d] 1 = d := rfl
    rw [e0, e1, e2, e3, w64 (n := a - c) (by omega) (by omega), w64 (n := b - d) (by omega) (by omega), w64 (n := (a - c) * (b - d)) (by omega) (by omega), w64 (n := i + 1) (by omega) (by omega), w64 (n := n + 1) (by omega) (by omega)]
    refine ev_ite (fun h => ?_) (fun h => ?_)
    · have hcr : cross [a, b] [c, d] = true := decide_eq_true h
      refine ih (p ++ [[c, d]]) (n + 1) (i + 1) (by simp; omega) (by rw [e]; simp) hy (fun w hw' => hw w (by simp [hw'])) (by omega) (by omega) ?_
      rw [List.countP_cons, hcr] at hk
      have e9 : n + 1 + ((r.countP (cross [a, b]) : Nat) : Int) = n + ((r.countP (cross [a, b]) + 1 : Nat) : Int) := by omega
      rw [e9]
      simpa using hk
    · have hcr : cross [a, b] [c, d] = false := decide_eq_false h
      refine ih (p ++ [[c, d]]) n (i + 1) (by simp; omega) (by rw [e]; simp) hy (fun w hw' => hw w (by simp [hw'])) (by omega) (by omega) ?_
      rw [List.countP_cons, hcr] at hk
      simpa using hk
theorem spec_plCount_l0 (l : List (List Int)) (m : Int) (hm : m ≤ 7) (hl : l.length ≤ 30) (hw : ∀ w ∈ l, isW m w) (r : List (List Int)) : ∀ (p : List (List Int)) (n i : Int), i = p.length → l = p ++ r → 0 ≤ n → n ≤ 30 * p.length →
    Ev (fun k => spec_plCount.l0 k l n l l.length i) (n + (cntM p r : Nat)) := by
  induction r with
  | nil =>
    intro p n i hi e h0 hn
    have hlen : l.length = p.length := by rw [e]; simp
    apply ev_up
    simp only [spec_plCount.l0]
    refine ev_n (by omega) ?_
    simpa [cntM] using Ev.now n
  | cons x r ih =>
    intro p n i hi e h0 hn
    have hlen : l.length = p.length + r.length + 1 := by rw [e]; simp; omega
    have hr : rd_L1 l i = x := by rw [e]; exact rdIIA hi
    have htk : l.take i.toNat = p := by rw [e, hi]; simp
    have hc := List.countP_le_length (p := cross x) (l := p)
    apply ev_up
    simp only [spec_plCount.l0]
    refine ev_p (by omega) (ev_p (by omega) (ev_p (by omega) (ev_p (by omega) (Ev.bind (ev_c rfl) ?_))))
    rw [hr, htk]
    refine spec_plCount_l1 l m hm hl x (hw x (by rw [e]; simp)) i p _ p [] n 0 rfl rfl (by omega) (fun w hw' => hw w (by rw [e]; simp [hw'])) h0 (by omega) ?_
    rw [w64 (n := i + 1) (by omega) (by omega)]
    refine ev_eq (ih (p ++ [x]) _ (i + 1) (by simp; omega) (by rw [e]; simp) (by omega) (by simp; omega)) ?_
    simp only [cntM]
    omega
theorem spec_plCount_ev (l : List (List Int)) (m : Int) (hm : m ≤ 7) (hl : l.length ≤ 30) (hw : ∀ w ∈ l, isW m w) : Ev (fun k => spec_plCount.f k l) ((cntM [] l : Nat) : Int) := by
  unfold spec_plCount.f
  exact ev_eq (spec_plCount_l0 l m hm hl hw l [] 0 0 rfl rfl (by omega) (by simp)) (by omega)

/-! #### impl_AreLevelWires -/
theorem impl_AreLevelWires_l0 (l : List (List Int)) (m : Int) (hl : l.length ≤ 9223372036854775807) (r : List (List Int)) : ∀ (p : List (List Int)) (i : Int), i = p.length → l = p ++ r →
    Ev (fun k => impl_AreLevelWires.l0 k m l l.length i) (r.all (goodW m)) := by
  induction r with
  | nil =>
    intro p i hi e
    have hlen : l.length = p.length := by rw [e]; simp
    apply ev_up
    simp only [impl_AreLevelWires.l0]
    exact ev_n (by omega) (Ev.now _)
  | cons x r ih =>
    intro p i hi e
    have hlen : l.length = p.length + r.length + 1 := by rw [e]; simp; omega
    have hx : rd_L1 l i = x := by rw [e]; exact rdIIA hi
    have ih' := ih (p ++ [x]) (i + 1) (by simp; omega) (by rw [e]; simp)
    apply ev_up
    simp only [impl_AreLevelWires.l0]
    refine ev_p (by omega) (ev_p (by omega) (ev_p (by omega) ?_))
    rw [hx]
    refine ev_ite (fun h2 => ?_) (fun h2 => ?_)
    · obtain ⟨a, b, rfl⟩ := two_of (w := x) (by omega)
      have e0 : rd [a, b] 0 = a := rfl
      have e1 : rd [a, b] 1 = b := rfl
      rw [e0, e1]
      refine ev_p (by simp) ?_
      by_cases hg : goodW m [a, b] = true
      · have hg' := hg
        simp only [goodW, decide_eq_true_eq] at hg'
        refine ev_n (by omega) (ev_n (by omega) (ev_p (by simp) (ev_n (by omega) (ev_n (by omega) ?_))))
        rw [w64 (by omega) (by omega)]
        refine ev_eq ih' ?_
        simp [hg]
      · have hf : goodW m [a, b] = false := by simpa using hg
        have er : false = (([a, b] :: r).all (goodW m)) := by simp [hf]
        rw [← er]
        refine ev_ite (fun _ => Ev.now _) (fun c1 => ev_ite (fun _ => Ev.now _) (fun c2 => ev_p (by simp) (ev_ite (fun _ => Ev.now _) (fun c3 => ev_ite (fun _ => Ev.now _) (fun c4 => ?_)))))
        exact absurd (by simp only [goodW]; exact decide_eq_true (by omega)) hg
    · refine ev_eq (Ev.now _) ?_
      have : goodW m x = false := goodW_len (by omega)
      simp [this]
theorem impl_AreLevelWires_ev (l : List (List Int)) (m : Int) (hl : l.length ≤ 9223372036854775807) : Ev (fun k => impl_AreLevelWires.f k l m) (levelWiresM l m) := by
  have h0 := impl_AreLevelWires_l0 l m hl l [] 0 rfl rfl
  unfold impl_AreLevelWires.f levelWiresM
  refine ev_ite (fun h1 => ?_) (fun h1 => ev_ite (fun h2 => ?_) (fun h2 => ?_))
  · apply ev_up
    simp only [impl_AreLevelWires.j0]
    refine ev_p (by simp) (ev_eq (Ev.now _) ?_)
    rw [decide_eq_false (by omega), Bool.false_and]
  · apply ev_up
    simp only [impl_AreLevelWires.j0]
    refine ev_p (by simp) (ev_eq (Ev.now _) ?_)
    rw [decide_eq_false (by omega), Bool.false_and]
  · apply ev_up
    simp only [impl_AreLevelWires.j0]
    refine ev_ite (fun h3 => ?_) (fun h3 => ?_)
    · have h3' := of_decide_eq_true h3
      refine ev_eq (Ev.now _) ?_
      rw [decide_eq_false (by omega), Bool.false_and]
    · have h3' : ¬ (l.length : Int) > 30 := fun h => h3 (decide_eq_true h)
      refine ev_eq h0 ?_
      rw [decide_eq_true (by omega), Bool.true_and]

/-! #### impl_CountCrossings -/
theorem impl_CountCrossings_l (k : Nat) : (∀ l n xs e i, impl_CountCrossings.l0 k l n xs e i = (spec_plCount.l0 k l n xs e i).map (fun c => (c, true))) ∧ (∀ l n x xs e i ys f j, impl_CountCrossings.l1 k l n x xs e i ys f j = (spec_plCount.l1 k l n x xs e i ys f j).map (fun c => (c, true))) := by
  induction k with
  | zero => exact ⟨fun _ _ _ _ _ => rfl, fun _ _ _ _ _ _ _ _ _ => rfl⟩
  | succ k ih =>
    constructor
    · intro l n xs e i
      simp only [impl_CountCrossings.l0, spec_plCount.l0, ih.2, Option.bind_some]
      (repeat' split) <;> rfl
    · intro l n x xs e i ys f j
      simp only [impl_CountCrossings.l1, spec_plCount.l1, ih.1, ih.2]
      (repeat' split) <;> rfl
def countM (l : List (List Int)) (m : Int) : Int × Bool := if levelWiresM l m = true then ((cntM [] l : Nat), true) else (0, false)
theorem ev_map {α β : Type} {g : Nat → Option α} {r : α} (f : α → β) (h : Ev g r) : Ev (fun k => (g k).map f) (f r) := by
  obtain ⟨K, hK⟩ := h
  exact ⟨K, fun k hk => by simp [hK k hk]⟩
theorem impl_CountCrossings_ev (l : List (List Int)) (m : Int) (hl : l.length ≤ 9223372036854775807) : Ev (fun k => impl_CountCrossings.f k l m) (countM l m) := by
  unfold impl_CountCrossings.f countM
  refine Ev.bind (impl_AreLevelWires_ev l m hl) (ev_ite (fun h => ?_) (fun h => ?_))
  · rw [if_pos h]
    obtain ⟨_, h7, h30, hw⟩ := levelWiresM_of h
    simp only [(impl_CountCrossings_l _).1]
    have := spec_plCount_ev l m h7 h30 hw
    unfold spec_plCount.f at this
    exact ev_map _ this
  · rw [if_neg h]
    exact Ev.now _

/-! #### l1In -/
theorem l1In_eq (a b c : Int) : spec_l1In.f a b c = some (decide (b ≤ a ∧ a ≤ c)) := by
  unfold spec_l1In.f
  by_cases h : b ≤ a
  · rw [if_pos h]; simp [h]
  · rw [if_neg h]; simp [h]

/-! #### spec_plWires -/
theorem spec_plWires_l0 (l : List (List Int)) (m : Int) (hm : I64 m) (hl : l.length ≤ 9223372036854775807) (r : List (List Int)) : ∀ (p : List (List Int)) (i : Int), i = p.length → l = p ++ r →
    Ev (fun k => spec_plWires.l0 k l m l l.length i) (decide (1 ≤ m ∧ m ≤ 7 ∧ l.length ≤ 30) && r.all (goodW m)) := by
  unfold I64 at hm
  induction r with
  | nil =>
    intro p i hi e
    have hlen : l.length = p.length := by rw [e]; simp
    apply ev_up
    simp only [spec_plWires.l0]
    refine ev_n (by omega) ?_
    refine ev_ite (fun h => ?_) (fun h => ?_)
    · rw [l1In_eq]
      refine Ev.bind (ev_c rfl) ?_
      refine ev_eq (Ev.now _) ?_
      rw [List.all_nil, Bool.and_true]
      exact decide_eq_decide.2 ⟨fun hh => ⟨hh.1, hh.2, by omega⟩, fun hh => ⟨hh.1, hh.2.1⟩⟩
    · refine ev_eq (Ev.now _) ?_
      rw [List.all_nil, Bool.and_true]
      exact (decide_eq_false (fun hh => h (by omega))).symm
  | cons x r ih =>
    intro p i hi e
    have hlen : l.length = p.length + r.length + 1 := by rw [e]; simp; omega
    have hx : rd_L1 l i = x := by rw [e]; exact rdIIA hi
    have ih' := ih (p ++ [x]) (i + 1) (by simp; omega) (by rw [e]; simp)
    apply ev_up
    simp only [spec_plWires.l0]
    refine ev_p (by omega) (ev_p (by omega) (ev_p (by omega) ?_))
    rw [hx]
    refine ev_ite (fun h2 => ?_) (fun h2 => ?_)
    · obtain ⟨a, b, rfl⟩ := two_of (w := x) (by omega)
      refine ev_p (by simp) ?_
      rw [l1In_eq]
      refine Ev.bind (ev_c rfl) ?_
      have e0 : rd [a, b] 0 = a := rfl
      have e1 : rd [a, b] 1 = b := rfl
      rw [e0, e1]
      refine ev_ite (fun ha => ?_) (fun ha => ?_)
      · have ha' := of_decide_eq_true ha
        refine ev_p (by simp) ?_
        rw [l1In_eq]
        refine Ev.bind (ev_c rfl) ?_
        refine ev_ite (fun hb => ?_) (fun hb => ?_)
        · have hb' := of_decide_eq_true hb
          rw [w64 (by omega) (by omega)]
          refine ev_eq ih' ?_
          by_cases h1 : 1 ≤ m
          · rw [w64 (by omega) (by omega)] at hb'
            have : goodW m [a, b] = true := by simp [goodW]; omega
            simp [this]
          · have : decide (1 ≤ m ∧ m ≤ 7 ∧ l.length ≤ 30) = false := decide_eq_false (fun h => h1 h.1)
            simp [this]
        · refine ev_eq (Ev.now _) ?_
          by_cases h1 : 1 ≤ m
          · rw [w64 (by omega) (by omega)] at hb
            have : goodW m [a, b] = false := by
              simp only [goodW]
              exact decide_eq_false (fun h => hb (decide_eq_true (by omega)))
            simp [this]
          · have : decide (1 ≤ m ∧ m ≤ 7 ∧ l.length ≤ 30) = false := decide_eq_false (fun h => h1 h.1)
            simp [this]
      · refine ev_eq (Ev.now _) ?_
        have : goodW m [a, b] = false := by
          simp only [goodW]
          exact decide_eq_false (fun h => ha (decide_eq_true (by omega)))
        simp [this]
    · refine ev_eq (Ev.now _) ?_
      have : goodW m x = false := goodW_len (by omega)
      simp [this]
theorem spec_plWires_ev (l : List (List Int)) (m : Int) (hm : I64 m) (hl : l.length ≤ 9223372036854775807) : Ev (fun k => spec_plWires.f k l m) (levelWiresM l m) := by
  unfold spec_plWires.f levelWiresM
  exact spec_plWires_l0 l m hm hl l [] 0 rfl rfl

/-! #### spec_CountCrossings -/
theorem spec_CountCrossings_ev (l : List (List Int)) (m : Int) (hm : I64 m) (hl : l.length ≤ 9223372036854775807) : Ev (fun k => spec_CountCrossings.f k l m) (countM l m) := by
  unfold spec_CountCrossings.f countM
  refine Ev.bind (spec_plWires_ev l m hm hl) (ev_ite (fun h => ?_) (fun h => ?_))
  · rw [if_pos h]
    obtain ⟨_, h7, h30, hw⟩ := levelWiresM_of h
    exact Ev.bind (spec_plCount_ev l m h7 h30 hw) (Ev.now _)
  · rw [if_neg h]
    exact Ev.now _

/-! #### FnExactCountCrossings -/
theorem FnExactCountCrossings (l0 : (List (List Int))) (a1 : Int) : (l0.length ≤ 9223372036854775807 ∧ ∀ y3 ∈ l0, (y3.length ≤ 9223372036854775807 ∧ ∀ y2 ∈ y3, I64 y2)) → I64 a1 → ∃ k, laws_FnExactCountCrossings.f k l0 a1 = some true := by
  rintro ⟨hl, hy⟩ h1
  apply ev_get
  obtain ⟨t, ht, hq⟩ := szIntSS_ev l0 1048576 (by omega) (by omega) hl (fun y h => (hy y h).1)
  unfold laws_FnExactCountCrossings.f
  refine Ev.bind ht (ev_ite (fun _ => Ev.now _) (fun h => ?_))
  obtain ⟨_, hl2, hy2⟩ := hq (by omega)
  have hto := toIntSS_ev l0 hl2 hy2
  have heq : Ev (fun k => laws_eqIntSS.f k l0 l0) true := by simpa using eqIntSS_ev l0 l0 (by omega) (fun y h => by have := hy2 y h; omega)
  have hs := spec_CountCrossings_ev l0 a1 h1 hl
  have hi := impl_CountCrossings_ev l0 a1 hl
  repeat (first
    | (with_reducible exact Ev.now _)
    | (with_reducible refine Ev.bind hto ?_)
    | (with_reducible refine Ev.bind hs ?_)
    | (with_reducible refine Ev.bind hi ?_)
    | (with_reducible refine Ev.bind heq ?_)
    | (with_reducible refine ev_p rfl ?_)
    | (with_reducible refine ev_p True.intro ?_)
    | (refine ev_n ?h ?_; case h => (first | omega | (simp; done) | (simp; omega)))
    | (with_reducible refine ev_up (g := fun n => laws_FnExactCountCrossings.j0 n _ _ _) ?_; simp only [laws_FnExactCountCrossings.j0, bne_self_eq_false]))

end Go.Proofs.Ytgildlmeaengoaa.Pure
