/- The pure part of the law FnExactMovePoints: what the program and the reference compute is the same, for all arguments. Conditions: the numbers are of Go's int, the lengths of slices are. -/
import Derived.Test.YtdhbblmkbgojfaaWalkFnExactMovePoints
import Derived.Test.YtdhbblmkbgojfaaKit
set_option linter.unusedVariables false
set_option linter.unusedSimpArgs false
namespace Go.Proofs.Ytdhbblmkbgojfaa.Pure
open Go.RowKit Go.Proofs.Ytdhbblmkbgojfaa.QFnExactMovePoints Go.Proofs.YtdhbblmkbgojfaaW.PrintWords Go.Proofs.YtdhbblmkbgojfaaW.PrintLast Go.Proofs.Ytdhbblmkbgojfaa.Open Go.Proofs.Ytdhbblmkbgojfaa.Kit

/-! #### szIntS -/
theorem szIntS_eq (l : List Int) (a : Int) (ha : 0 ≤ a) (ha2 : a ≤ 1048576) (hl : l.length ≤ 9223372036854775807) : laws_szIntS.f l a = some (if l.length ≤ a then a - l.length else -1) := by
  unfold laws_szIntS.f
  rw [w64 (by omega) (by omega)]
  by_cases h : (l.length : Int) ≤ a
  · rw [if_neg (by omega), if_pos h]
  · rw [if_pos (by omega), if_neg h]

/-! #### rdII -/
theorem rdIIA {p r : List (List Int)} {x : List Int} {i : Int} (hi : i = p.length) : rd_L1 (p ++ x :: r) i = x := getDA hi

/-! #### szIntSS -/
theorem szIntSS_l0 (r : List (List Int)) : ∀ (p : List (List Int)) (a i : Int), i = p.length → p.length + r.length ≤ 9223372036854775807 → 0 ≤ a → a ≤ 1048576 → (∀ y ∈ r, y.length ≤ 9223372036854775807) →
    ∃ t, Ev (fun k => laws_szIntSS.l0 k (p ++ r) a i) t ∧ (0 ≤ t → t ≤ a ∧ ∀ y ∈ r, y.length ≤ 1048576) := by
  induction r with
  | nil =>
    intro p a i hi hb h0 h1 hy
    refine ⟨a, ?_, fun _ => ⟨Int.le_refl _, fun y hy => by simp at hy⟩⟩
    apply ev_up
    simp only [laws_szIntSS.l0]
    exact ev_n (by simp; omega) (Ev.now _)
  | cons x r ih =>
    intro p a i hi hb h0 h1 hy
    simp only [List.length_cons] at hb
    have hx := hy x (by simp)
    by_cases hc : (x.length : Int) ≤ a
    · obtain ⟨t, ht, hq⟩ := ih (p ++ [x]) (a - x.length) (i + 1) (by simp; omega) (by simp; omega) (by omega) (by omega) (fun y h => hy y (by simp [h]))
      refine ⟨t, ?_, fun h => ⟨by have := (hq h).1; omega, ?_⟩⟩
      · apply ev_up
        simp only [laws_szIntSS.l0]
        refine ev_p (by simp; omega) (ev_p (by omega) ?_)
        rw [rdIIA hi, szIntS_eq x a h0 h1 hx, if_pos hc]
        refine Ev.bind (ev_c rfl) (ev_n (by omega) ?_)
        rw [w64 (by omega) (by omega), appA]
        exact ht
      · intro y hy'
        simp only [List.mem_cons] at hy'
        rcases hy' with rfl | hy'
        · omega
        · exact (hq h).2 y hy'
    · refine ⟨-1, ?_, fun h => absurd h (by decide)⟩
      apply ev_up
      simp only [laws_szIntSS.l0]
      refine ev_p (by simp; omega) (ev_p (by omega) ?_)
      rw [rdIIA hi, szIntS_eq x a h0 h1 hx, if_neg hc]
      exact Ev.bind (ev_c rfl) (ev_p (by decide) (Ev.now _))
theorem szIntSS_ev (l : List (List Int)) (a : Int) (h0 : 0 ≤ a) (h1 : a ≤ 1048576) (hl : l.length ≤ 9223372036854775807) (hy : ∀ y ∈ l, y.length ≤ 9223372036854775807) :
    ∃ t, Ev (fun k => laws_szIntSS.f k l a) t ∧ (0 ≤ t → t ≤ a ∧ l.length ≤ 1048576 ∧ ∀ y ∈ l, y.length ≤ 1048576) := by
  unfold laws_szIntSS.f
  rw [w64 (by omega) (by omega)]
  by_cases h : (l.length : Int) ≤ a
  · obtain ⟨t, ht, hq⟩ := szIntSS_l0 l [] (a - l.length) 0 rfl (by simpa using hl) (by omega) (by omega) hy
    exact ⟨t, ev_n (by omega) ht, fun h2 => ⟨by have := (hq h2).1; omega, by omega, (hq h2).2⟩⟩
  · exact ⟨-1, ev_p (by omega) (Ev.now _), fun h => absurd h (by decide)⟩

/-! #### toIntS -/
theorem toIntS_l0 (r : List Int) : ∀ (p z : List Int) (i : Int), i = p.length → z.length = r.length → p.length + r.length ≤ 9223372036854775806 →
    Ev (fun k => laws_toIntS.l0 k (p ++ r) (p ++ z) i) (p ++ r) := by
  induction r with
  | nil =>
    intro p z i hi hz hb
    obtain rfl : z = [] := List.length_eq_zero_iff.1 hz
    apply ev_up
    simp only [laws_toIntS.l0]
    refine ev_n (by simp; omega) ?_
    exact Ev.now _
  | cons x r ih =>
    intro p z i hi hz hb
    match z, hz with
    | y :: z, hz =>
      simp only [List.length_cons] at hz hb
      apply ev_up
      simp only [laws_toIntS.l0]
      refine ev_p (by simp; omega) (ev_p (by omega) (ev_p (by simp; omega) ?_))
      rw [rdA hi, setA hi, w64 (by omega) (by omega), appA]
      exact ih (p ++ [x]) z (i + 1) (by simp; omega) (by omega) (by simp; omega)
theorem toIntS_ev (a : List Int) (h : a.length ≤ 35184372088832) : Ev (fun k => laws_toIntS.f k a) a := by
  unfold laws_toIntS.f
  refine ev_p (by omega) (ev_p (by omega) ?_)
  exact toIntS_l0 a [] (List.replicate ((a.length : Int)).toNat 0) 0 rfl (by simp) (by simp; omega)
/-! #### toIntSS -/
theorem toIntSS_l0 (r : List (List Int)) : ∀ (p z : List (List Int)) (i : Int), i = p.length → z.length = r.length → p.length + r.length ≤ 9223372036854775806 → (∀ y ∈ r, y.length ≤ 1048576) →
    Ev (fun k => laws_toIntSS.l0 k (p ++ r) (p ++ z) i) (p ++ r) := by
  induction r with
  | nil =>
    intro p z i hi hz hb hy
    obtain rfl : z = [] := List.length_eq_zero_iff.1 hz
    apply ev_up
    simp only [laws_toIntSS.l0]
    exact ev_n (by simp; omega) (Ev.now _)
  | cons x r ih =>
    intro p z i hi hz hb hy
    match z, hz with
    | y :: z, hz =>
      simp only [List.length_cons] at hz hb
      have hx := hy x (by simp)
      apply ev_up
      simp only [laws_toIntSS.l0]
      refine ev_p (by simp; omega) (ev_p (by omega) ?_)
      rw [rdIIA hi]
      refine Ev.bind (toIntS_ev x (by omega)) (ev_p (by simp; omega) ?_)
      rw [setA hi, w64 (by omega) (by omega), appA]
      exact ih (p ++ [x]) z (i + 1) (by simp; omega) (by omega) (by simp; omega) (fun y h => hy y (by simp [h]))
theorem toIntSS_ev (l : List (List Int)) (h : l.length ≤ 1048576) (hy : ∀ y ∈ l, y.length ≤ 1048576) : Ev (fun k => laws_toIntSS.f k l) l := by
  unfold laws_toIntSS.f
  refine ev_p (by omega) (ev_p (by omega) ?_)
  exact toIntSS_l0 l [] (List.replicate ((l.length : Int)).toNat []) 0 rfl (by simp) (by simp; omega) hy

/-! #### eqIntS -/
theorem eqIntS_l0 (r : List Int) : ∀ (s p q : List Int) (i : Int), i = p.length → p.length = q.length → r.length = s.length → p.length + r.length ≤ 9223372036854775807 →
    Ev (fun k => laws_eqIntS.l0 k (p ++ r) (q ++ s) i) (decide (r = s)) := by
  induction r with
  | nil =>
    intro s p q i hi hpq hrs hb
    obtain rfl : s = [] := List.length_eq_zero_iff.1 hrs.symm
    apply ev_up
    simp only [laws_eqIntS.l0]
    refine ev_n (by simp; omega) ?_
    simpa using Ev.now true
  | cons x r ih =>
    intro s p q i hi hpq hrs hb
    match s, hrs with
    | y :: s, hrs =>
      simp only [List.length_cons] at hrs hb
      apply ev_up
      simp only [laws_eqIntS.l0]
      refine ev_p (by simp; omega) (ev_p (by omega) (ev_p (by simp; omega) ?_))
      rw [rdA hi, rdA (by omega)]
      refine ev_ite (fun hxy => ?_) (fun hxy => ?_)
      · subst hxy
        rw [w64 (by omega) (by omega), appA, appA (p := q)]
        refine ev_eq (ih s (p ++ [x]) (q ++ [x]) (i + 1) (by simp; omega) (by simp; omega) (by omega) (by simp; omega)) ?_
        simp
      · refine ev_eq (Ev.now false) ?_
        simp [hxy]
theorem eqIntS_ev (a b : List Int) (h : a.length ≤ 9223372036854775807) : Ev (fun k => laws_eqIntS.f k a b) (decide (a = b)) := by
  unfold laws_eqIntS.f
  refine ev_ite (fun hl => ?_) (fun hl => ?_)
  · exact eqIntS_l0 a b [] [] 0 rfl rfl (by omega) (by simpa using h)
  · refine ev_eq (Ev.now false) ?_
    symm
    apply decide_eq_false
    rintro rfl
    exact hl rfl

/-! #### eqIntSS -/
theorem eqIntSS_l0 (r : List (List Int)) : ∀ (s p q : List (List Int)) (i : Int), i = p.length → p.length = q.length → r.length = s.length → p.length + r.length ≤ 9223372036854775807 → (∀ y ∈ r, y.length ≤ 9223372036854775807) →
    Ev (fun k => laws_eqIntSS.l0 k (p ++ r) (q ++ s) i) (decide (r = s)) := by
  induction r with
  | nil =>
    intro s p q i hi hpq hrs hb hy
    obtain rfl : s = [] := List.length_eq_zero_iff.1 hrs.symm
    apply ev_up
    simp only [laws_eqIntSS.l0]
    refine ev_n (by simp; omega) ?_
    simpa using Ev.now true
  | cons x r ih =>
    intro s p q i hi hpq hrs hb hy
    match s, hrs with
    | y :: s, hrs =>
      simp only [List.length_cons] at hrs hb
      apply ev_up
      simp only [laws_eqIntSS.l0]
      refine ev_p (by simp; omega) (ev_p (by omega) (ev_p (by simp; omega) ?_))
      rw [rdIIA hi, rdIIA (by omega)]
      refine Ev.bind (eqIntS_ev x y (hy x (by simp))) ?_
      refine ev_ite (fun hxy => ?_) (fun hxy => ?_)
      · obtain rfl := of_decide_eq_true hxy
        rw [w64 (by omega) (by omega), appA, appA (p := q)]
        refine ev_eq (ih s (p ++ [x]) (q ++ [x]) (i + 1) (by simp; omega) (by simp; omega) (by omega) (by simp; omega) (fun y h => hy y (by simp [h]))) ?_
        simp
      · refine ev_eq (Ev.now false) ?_
        have hxy' : ¬ x = y := fun e => hxy (decide_eq_true e)
        simp [hxy']
theorem eqIntSS_ev (a b : List (List Int)) (h : a.length ≤ 9223372036854775807) (hy : ∀ y ∈ a, y.length ≤ 9223372036854775807) : Ev (fun k => laws_eqIntSS.f k a b) (decide (a = b)) := by
  unfold laws_eqIntSS.f
  refine ev_ite (fun hl => ?_) (fun hl => ?_)
  · exact eqIntSS_l0 a b [] [] 0 rfl rfl (by omega) (by simpa using h) hy
  · refine ev_eq (Ev.now false) ?_
    symm
    apply decide_eq_false
    rintro rfl
    exact hl rfl

/-! #### l1In -/
theorem l1In_eq (a b c : Int) : spec_l1In.f a b c = some (decide (b ≤ a ∧ a ≤ c)) := by
  unfold spec_l1In.f
  by_cases h : b ≤ a
  · rw [if_pos h]; simp [h]
  · rw [if_neg h]; simp [h]

/-! #### orderM -/
/-- The rest's numbers are below m, and none stands ahead of itself. -/
def okO (m : Nat) : List Int → List Int → Bool
  | _, [] => true
  | p, x :: r => decide (0 ≤ x ∧ x < m ∧ ¬ x ∈ p) && okO m (p ++ [x]) r
theorem spec_l1Has_l0 (v : Int) (l : List Int) (hl : l.length ≤ 1048576) (r : List Int) : ∀ (p : List Int) (i : Int), i = p.length → l = p ++ r →
    Ev (fun k => spec_l1Has.l0 k v l l.length i) (decide (v ∈ r)) := by
  induction r with
  | nil =>
    intro p i hi e
    have hlen : l.length = p.length := by rw [e]; simp
    apply ev_up
    simp only [spec_l1Has.l0]
    exact ev_n (by omega) (ev_eq (Ev.now _) (by simp))
  | cons x r ih =>
    intro p i hi e
    have hlen : l.length = p.length + r.length + 1 := by rw [e]; simp; omega
    have hx : rd l i = x := by rw [e]; exact rdA hi
    apply ev_up
    simp only [spec_l1Has.l0]
    refine ev_p (by omega) (ev_p (by omega) (ev_p (by omega) ?_))
    rw [hx, w64 (n := i + 1) (by omega) (by omega)]
    refine ev_ite (fun c => ?_) (fun c => ?_)
    · rw [decide_eq_true (show v ∈ x :: r by simp [c])]
      exact Ev.now _
    · refine ev_eq (ih (p ++ [x]) (i + 1) (by simp; omega) (by rw [e]; simp)) ?_
      refine decide_eq_decide.2 ?_
      simp [show ¬ v = x from fun h => c h.symm]
theorem spec_l1Has_ev (v : Int) (l : List Int) (hl : l.length ≤ 1048576) : Ev (fun k => spec_l1Has.f k l v) (decide (v ∈ l)) := by
  unfold spec_l1Has.f
  exact spec_l1Has_l0 v l hl l [] 0 rfl rfl
theorem spec_ddOrder_l0 (m : Nat) (hm : m ≤ 7) (o : List Int) (ho : o.length ≤ 1048576) (r : List Int) : ∀ (p : List Int) (i : Int), i = p.length → o = p ++ r →
    Ev (fun k => spec_ddOrder.l0 k o m o o.length i) (okO m p r && decide (o.length = m)) := by
  induction r with
  | nil =>
    intro p i hi e
    have hlen : o.length = p.length := by rw [e]; simp
    apply ev_up
    simp only [spec_ddOrder.l0]
    refine ev_n (by omega) (ev_eq (Ev.now _) ?_)
    rw [okO, Bool.true_and, Bool.eq_iff_iff, beq_iff_eq, decide_eq_true_eq]
    omega
  | cons x r ih =>
    intro p i hi e
    have hlen : o.length = p.length + r.length + 1 := by rw [e]; simp; omega
    have hx : rd o i = x := by rw [e]; exact rdA hi
    have ht : o.take (i : Int).toNat = p := by rw [e, hi, Int.toNat_natCast]; simp
    apply ev_up
    simp only [spec_ddOrder.l0]
    refine ev_p (by omega) (ev_p (by omega) (ev_p (by omega) ?_))
    rw [hx, l1In_eq, w64 (n := i + 1) (by omega) (by omega), w64 (n := (m : Int) - 1) (by omega) (by omega), ht, okO]
    refine Ev.bind (ev_c rfl) (ev_ite (fun c => ev_p (by omega) (Ev.bind (spec_l1Has_ev x p (by omega)) (ev_ite (fun c2 => ?_) (fun c2 => ?_)))) (fun c => ?_))
    · have c2' := of_decide_eq_true c2
      rw [decide_eq_false (fun h => h.2.2 c2'), Bool.false_and, Bool.false_and]
      exact Ev.now _
    · have c' := of_decide_eq_true c
      have c2' : ¬ x ∈ p := fun h => c2 (decide_eq_true h)
      rw [decide_eq_true (show 0 ≤ x ∧ x < m ∧ ¬ x ∈ p from ⟨by omega, by omega, c2'⟩), Bool.true_and]
      exact ih (p ++ [x]) (i + 1) (by simp; omega) (by rw [e]; simp)
    · have c' : ¬ (0 ≤ x ∧ x ≤ (m : Int) - 1) := fun h => c (decide_eq_true h)
      rw [decide_eq_false (fun h => c' ⟨h.1, by omega⟩), Bool.false_and, Bool.false_and]
      exact Ev.now _
theorem spec_ddOrder_ev (m : Nat) (hm : m ≤ 7) (o : List Int) (ho : o.length ≤ 1048576) : Ev (fun k => spec_ddOrder.f k o m) (okO m [] o && decide (o.length = m)) := by
  unfold spec_ddOrder.f
  exact spec_ddOrder_l0 m hm o ho o [] 0 rfl rfl
theorem impl_isOrder_l0 (m : Nat) (hm : m ≤ 7) (o : List Int) (ho : o.length ≤ 1048576) (r : List Int) : ∀ (p : List Int) (i : Int), i = p.length → o = p ++ r →
    Ev (fun k => impl_isOrder.l0 k m (rmap m (fun j => decide ((j : Int) ∈ p))) o o.length i) (okO m p r) := by
  induction r with
  | nil =>
    intro p i hi e
    have hlen : o.length = p.length := by rw [e]; simp
    apply ev_up
    simp only [impl_isOrder.l0]
    exact ev_n (by omega) (Ev.now _)
  | cons x r ih =>
    intro p i hi e
    have hlen : o.length = p.length + r.length + 1 := by rw [e]; simp; omega
    have hx : rd o i = x := by rw [e]; exact rdA hi
    have no : ¬ (0 ≤ x ∧ x < m ∧ ¬ x ∈ p) → Ev (fun _ => some false) (okO m p (x :: r)) := fun h => by
      rw [okO, decide_eq_false h, Bool.false_and]
      exact Ev.now _
    apply ev_up
    simp only [impl_isOrder.l0]
    refine ev_p (by omega) (ev_p (by omega) (ev_p (by omega) ?_))
    rw [hx, w64 (n := i + 1) (by omega) (by omega)]
    refine ev_ite (fun c => no (fun h => by omega)) (fun c => ev_ite (fun c2 => no (fun h => by omega)) (fun c2 => ?_))
    obtain ⟨y, rfl⟩ := nat_of (show 0 ≤ x by omega)
    have hy : y < m := by omega
    have hr : rdOf false (rmap m (fun j => decide ((j : Int) ∈ p))) (y : Int) = decide ((y : Int) ∈ p) := rmap_get hy _
    rw [hr, Int.toNat_natCast, rmap_set hy]
    refine ev_p (by omega) (ev_p (by rw [rmap_length]; omega) (ev_ite (fun c3 => no (fun h => h.2.2 (of_decide_eq_true c3))) (fun c3 => ?_)))
    have c3' : ¬ (y : Int) ∈ p := fun h => c3 (decide_eq_true h)
    rw [okO, decide_eq_true (show 0 ≤ (y : Int) ∧ (y : Int) < m ∧ ¬ (y : Int) ∈ p from ⟨by omega, by omega, c3'⟩), Bool.true_and]
    have e2 : rmap m (fun j => if j = y then true else decide ((j : Int) ∈ p)) = rmap m (fun j => decide ((j : Int) ∈ p ++ [(y : Int)])) := by
      apply rmap_congr
      intro j _
      by_cases c4 : j = y
      · rw [if_pos c4, decide_eq_true (by rw [c4]; simp)]
      · rw [if_neg c4]
        refine decide_eq_decide.2 ?_
        rw [List.mem_append, List.mem_singleton]
        exact ⟨Or.inl, fun h => h.elim id (fun h2 => absurd (by omega) c4)⟩
    rw [e2]
    exact ih (p ++ [(y : Int)]) (i + 1) (by simp; omega) (by rw [e]; simp)
theorem impl_isOrder_ev (m : Nat) (hm : m ≤ 7) (o : List Int) (ho : o.length ≤ 1048576) : Ev (fun k => impl_isOrder.f k o m) (okO m [] o && decide (o.length = m)) := by
  unfold impl_isOrder.f
  refine ev_ite (fun c => ?_) (fun c => ?_)
  · rw [decide_eq_true (show o.length = m by omega), Bool.and_true, Int.toNat_natCast, rmap_const]
    have := impl_isOrder_l0 m hm o ho o [] 0 rfl rfl
    have e : rmap m (fun j => decide ((j : Int) ∈ ([] : List Int))) = rmap m (fun _ => false) := rmap_congr (fun j _ => by simp)
    rw [e] at this
    exact ev_p (by omega) (ev_p (by omega) this)
  · rw [decide_eq_false (show ¬ o.length = m by omega), Bool.and_false]
    exact Ev.now _

/-! #### levelWiresM -/
/-- A wire for m points. -/
def goodW (m : Int) : List Int → Bool
  | [a, b] => decide (0 ≤ a ∧ a ≤ 29 ∧ 0 ≤ b ∧ b < m)
  | _ => false
def levelWiresM (l : List (List Int)) (m : Int) : Bool := decide (1 ≤ m ∧ m ≤ 7 ∧ l.length ≤ 30) && l.all (goodW m)
theorem goodW_len {m : Int} {w : List Int} (h : w.length ≠ 2) : goodW m w = false := by
  match w, h with
  | [], _ => rfl
  | [_], _ => rfl
  | [_, _], h => simp at h
  | _ :: _ :: _ :: _, _ => rfl
theorem two_of {w : List Int} (h : w.length = 2) : ∃ a b, w = [a, b] := by
  match w, h with
  | [a, b], _ => exact ⟨a, b, rfl⟩

/-! #### crossM -/
def cross (x y : List Int) : Bool := decide ((rd x 0 - rd y 0) * (rd x 1 - rd y 1) < 0)
def isW (m : Int) (w : List Int) : Prop := ∃ a b, w = [a, b] ∧ 0 ≤ a ∧ a ≤ 29 ∧ 0 ≤ b ∧ b < m
theorem isW_of {m : Int} {w : List Int} (h : goodW m w = true) : isW m w := by
  match w, h with
  | [a, b], h =>
    have := of_decide_eq_true (show decide (0 ≤ a ∧ a ≤ 29 ∧ 0 ≤ b ∧ b < m) = true from h)
    exact ⟨a, b, rfl, this⟩
  | [], h => simp [goodW] at h
  | [_], h => simp [goodW] at h
  | _ :: _ :: _ :: _, h => simp [goodW] at h
theorem levelWiresM_of {l : List (List Int)} {m : Int} (h : levelWiresM l m = true) : 1 ≤ m ∧ m ≤ 7 ∧ l.length ≤ 30 ∧ ∀ w ∈ l, isW m w := by
  unfold levelWiresM at h
  rw [Bool.and_eq_true, List.all_eq_true] at h
  have := of_decide_eq_true h.1
  exact ⟨this.1, this.2.1, this.2.2, fun w hw => isW_of (h.2 w hw)⟩
theorem mul_small {a b : Int} (h1 : -30 ≤ a) (h2 : a ≤ 30) (h3 : -30 ≤ b) (h4 : b ≤ 30) : -900 ≤ a * b ∧ a * b ≤ 900 := by
  have e : ∀ x y : Int, 0 ≤ x → 0 ≤ y → 0 ≤ x * y := fun x y hx hy => Int.mul_nonneg hx hy
  have p1 := e (30 - a) (30 - b) (by omega) (by omega)
  have p2 := e (30 + a) (30 + b) (by omega) (by omega)
  have p3 := e (30 - a) (30 + b) (by omega) (by omega)
  have p4 := e (30 + a) (30 - b) (by omega) (by omega)
  simp only [Int.sub_mul, Int.mul_sub, Int.add_mul, Int.mul_add] at p1 p2 p3 p4
  generalize a * b = c at *
  omega
/-- How many of the pairs with one before cross. -/
def cntM : List (List Int) → List (List Int) → Nat
  | _, [] => 0
  | p, x :: r => p.countP (cross x) + cntM (p ++ [x]) r

/-! #### levelNat -/
theorem levelWires_nat {l : List (List Int)} {m : Int} (h : levelWiresM l m = true) : ∃ n : Nat, m = n ∧ 1 ≤ n ∧ n ≤ 7 ∧ l.length ≤ 30 ∧ ∀ w ∈ l, isW n w := by
  obtain ⟨h1, h2, h3, h4⟩ := levelWiresM_of h
  obtain ⟨n, rfl⟩ := nat_of (show 0 ≤ m by omega)
  exact ⟨n, rfl, by omega, by omega, h3, h4⟩

/-! #### spec_plWires -/
theorem spec_plWires_l0 (l : List (List Int)) (m : Int) (hm : I64 m) (hl : l.length ≤ 9223372036854775807) (r : List (List Int)) : ∀ (p : List (List Int)) (i : Int), i = p.length → l = p ++ r →
    Ev (fun k => spec_plWires.l0 k l m l l.length i) (decide (1 ≤ m ∧ m ≤ 7 ∧ l.length ≤ 30) && r.all (goodW m)) := by
  unfold I64 at hm
  induction r with
  | nil =>
    intro p i hi e
    have hlen : l.length = p.length := by rw [e]; simp
    apply ev_up
    simp only [spec_plWires.l0]
    refine ev_n (by omega) ?_
    refine ev_ite (fun h => ?_) (fun h => ?_)
    · rw [l1In_eq]
      refine Ev.bind (ev_c rfl) ?_
      refine ev_eq (Ev.now _) ?_
      rw [List.all_nil, Bool.and_true]
      exact decide_eq_decide.2 ⟨fun hh => ⟨hh.1, hh.2, by omega⟩, fun hh => ⟨hh.1, hh.2.1⟩⟩
    · refine ev_eq (Ev.now _) ?_
      rw [List.all_nil, Bool.and_true]
      exact (decide_eq_false (fun hh => h (by omega))).symm
  | cons x r ih =>
    intro p i hi e
    have hlen : l.length = p.length + r.length + 1 := by rw [e]; simp; omega
    have hx : rd_L1 l i = x := by rw [e]; exact rdIIA hi
    have ih' := ih (p ++ [x]) (i + 1) (by simp; omega) (by rw [e]; simp)
    apply ev_up
    simp only [spec_plWires.l0]
    refine ev_p (by omega) (ev_p (by omega) (ev_p (by omega) ?_))
    rw [hx]
    refine ev_ite (fun h2 => ?_) (fun h2 => ?_)
    · obtain ⟨a, b, rfl⟩ := two_of (w := x) (by omega)
      refine ev_p (by simp) ?_
      rw [l1In_eq]
      refine Ev.bind (ev_c rfl) ?_
      have e0 : rd [a, b] 0 = a := rfl
      have e1 : rd [a, b] 1 = b := rfl
      rw [e0, e1]
      refine ev_ite (fun ha => ?_) (fun ha => ?_)
      · have ha' := of_decide_eq_true ha
        refine ev_p (by simp) ?_
        rw [l1In_eq]
        refine Ev.bind (ev_c rfl) ?_
        refine ev_ite (fun hb => ?_) (fun hb => ?_)
        · have hb' := of_decide_eq_true hb
          rw [w64 (by omega) (by omega)]
          refine ev_eq ih' ?_
          by_cases h1 : 1 ≤ m
          · rw [w64 (by omega) (by omega)] at hb'
            have : goodW m [a, b] = true := by simp [goodW]; omega
            simp [this]
          · have : decide (1 ≤ m ∧ m ≤ 7 ∧ l.length ≤ 30) = false := decide_eq_false (fun h => h1 h.1)
            simp [this]
        · refine ev_eq (Ev.now _) ?_
          by_cases h1 : 1 ≤ m
          · rw [w64 (by omega) (by omega)] at hb
            have : goodW m [a, b] = false := by
              simp only [goodW]
              exact decide_eq_false (fun h => hb (decide_eq_true (by omega)))
            simp [this]
          · have : decide (1 ≤ m ∧ m ≤ 7 ∧ l.length ≤ 30) = false := decide_eq_false (fun h => h1 h.1)
            simp [this]
      · refine ev_eq (Ev.now _) ?_
        have : goodW m [a, b] = false := by
          simp only [goodW]
          exact decide_eq_false (fun h => ha (decide_eq_true (by omega)))
        simp [this]
    · refine ev_eq (Ev.now _) ?_
      have : goodW m x = false := goodW_len (by omega)
      simp [this]
theorem spec_plWires_ev (l : List (List Int)) (m : Int) (hm : I64 m) (hl : l.length ≤ 9223372036854775807) : Ev (fun k => spec_plWires.f k l m) (levelWiresM l m) := by
  unfold spec_plWires.f levelWiresM
  exact spec_plWires_l0 l m hm hl l [] 0 rfl rfl

/-! #### impl_AreLevelWires -/
theorem impl_AreLevelWires_l0 (l : List (List Int)) (m : Int) (hl : l.length ≤ 9223372036854775807) (r : List (List Int)) : ∀ (p : List (List Int)) (i : Int), i = p.length → l = p ++ r →
    Ev (fun k => impl_AreLevelWires.l0 k m l l.length i) (r.all (goodW m)) := by
  induction r with
  | nil =>
    intro p i hi e
    have hlen : l.length = p.length := by rw [e]; simp
    apply ev_up
    simp only [impl_AreLevelWires.l0]
    exact ev_n (by omega) (Ev.now _)
  | cons x r ih =>
    intro p i hi e
    have hlen : l.length = p.length + r.length + 1 := by rw [e]; simp; omega
    have hx : rd_L1 l i = x := by rw [e]; exact rdIIA hi
    have ih' := ih (p ++ [x]) (i + 1) (by simp; omega) (by rw [e]; simp)
    apply ev_up
    simp only [impl_AreLevelWires.l0]
    refine ev_p (by omega) (ev_p (by omega) (ev_p (by omega) ?_))
    rw [hx]
    refine ev_ite (fun h2 => ?_) (fun h2 => ?_)
    · obtain ⟨a, b, rfl⟩ := two_of (w := x) (by omega)
      have e0 : rd [a, b] 0 = a := rfl
      have e1 : rd [a, b] 1 = b := rfl
      rw [e0, e1]
      refine ev_p (by simp) ?_
      by_cases hg : goodW m [a, b] = true
      · have hg' := hg
        simp only [goodW, decide_eq_true_eq] at hg'
        refine ev_n (by omega) (ev_n (by omega) (ev_p (by simp) (ev_n (by omega) (ev_n (by omega) ?_))))
        rw [w64 (by omega) (by omega)]
        refine ev_eq ih' ?_
        simp [hg]
      · have hf : goodW m [a, b] = false := by simpa using hg
        have er : false = (([a, b] :: r).all (goodW m)) := by simp [hf]
        rw [← er]
        refine ev_ite (fun _ => Ev.now _) (fun c1 => ev_ite (fun _ => Ev.now _) (fun c2 => ev_p (by simp) (ev_ite (fun _ => Ev.now _) (fun c3 => ev_ite (fun _ => Ev.now _) (fun c4 => ?_)))))
        exact absurd (by simp only [goodW]; exact decide_eq_true (by omega)) hg
    · refine ev_eq (Ev.now _) ?_
      have : goodW m x = false := goodW_len (by omega)
      simp [this]
theorem impl_AreLevelWires_ev (l : List (List Int)) (m : Int) (hl : l.length ≤ 9223372036854775807) : Ev (fun k => impl_AreLevelWires.f k l m) (levelWiresM l m) := by
  have h0 := impl_AreLevelWires_l0 l m hl l [] 0 rfl rfl
  unfold impl_AreLevelWires.f levelWiresM
  refine ev_ite (fun h1 => ?_) (fun h1 => ev_ite (fun h2 => ?_) (fun h2 => ?_))
  · apply ev_up
    simp only [impl_AreLevelWires.j0]
    refine ev_p (by simp) (ev_eq (Ev.now _) ?_)
    rw [decide_eq_false (by omega), Bool.false_and]
  · apply ev_up
    simp only [impl_AreLevelWires.j0]
    refine ev_p (by simp) (ev_eq (Ev.now _) ?_)
    rw [decide_eq_false (by omega), Bool.false_and]
  · apply ev_up
    simp only [impl_AreLevelWires.j0]
    refine ev_ite (fun h3 => ?_) (fun h3 => ?_)
    · have h3' := of_decide_eq_true h3
      refine ev_eq (Ev.now _) ?_
      rw [decide_eq_false (by omega), Bool.false_and]
    · have h3' : ¬ (l.length : Int) > 30 := fun h => h3 (decide_eq_true h)
      refine ev_eq h0 ?_
      rw [decide_eq_true (by omega), Bool.true_and]

/-! #### movePoints -/
theorem isW_facts {m : Nat} {w : List Int} (h : isW m w) : 0 < (w.length : Int) ∧ 1 < (w.length : Int) ∧ 0 ≤ rd w 1 ∧ rd w 1 < m ∧ w.length = 2 := by
  obtain ⟨a, b, rfl, _, _, h3, h4⟩ := h
  exact ⟨by simp, by simp, h3, h4, rfl⟩
def moveP (o : List Int) (w : List Int) : List Int := [rd w 0, rd o (rd w 1)]
def movePointsM (l : List (List Int)) (m : Int) (o : List Int) : List (List Int) × Bool := if levelWiresM l m = true ∧ (okO m.toNat [] o && decide (o.length = m.toNat)) = true then (l.map (moveP o), true) else ([], false)
theorem movePointsM_length (l : List (List Int)) (m : Int) (o : List Int) : (movePointsM l m o).1.length ≤ 30 ∧ ∀ y ∈ (movePointsM l m o).1, y.length ≤ 2 := by
  unfold movePointsM
  split
  · rename_i h
    obtain ⟨n, rfl, _, _, h30, _⟩ := levelWires_nat h.1
    refine ⟨by simpa using h30, fun y hy => ?_⟩
    obtain ⟨w, _, rfl⟩ := List.mem_map.1 hy
    exact Nat.le_refl 2
  · simp
theorem spec_plMove_l0 (m : Nat) (l : List (List Int)) (hl : l.length ≤ 30) (hw : ∀ w ∈ l, isW m w) (o : List Int) (ho : o.length = m) (r : List (List Int)) : ∀ (p : List (List Int)) (i : Int), i = p.length → l = p ++ r →
    Ev (fun k => spec_plMove.l0 k o (p.map (moveP o)) l l.length i) (l.map (moveP o)) := by
  induction r with
  | nil =>
    intro p i hi e
    have hlen : l.length = p.length := by rw [e]; simp
    have e' : l = p := by rw [e]; simp
    apply ev_up
    simp only [spec_plMove.l0]
    refine ev_n (by omega) (ev_eq (Ev.now _) ?_)
    rw [e']
  | cons w r ih =>
    intro p i hi e
    have hlen : l.length = p.length + r.length + 1 := by rw [e]; simp; omega
    have hx : rd_L1 l i = w := by rw [e]; exact rdIIA hi
    have hww := hw w (by rw [e]; simp)
    apply ev_up
    simp only [spec_plMove.l0]
    refine ev_p (by omega) (ev_p (by omega) (ev_p (by omega) ?_))
    rw [hx, w64 (n := i + 1) (by omega) (by omega)]
    obtain ⟨h1, h2, h3, h4, h5⟩ := isW_facts hww
    refine ev_p (by omega) (ev_p (by omega) (ev_p (by omega) (ev_p (by omega) (ev_p (by simp; omega) ?_))))
    have := ih (p ++ [w]) (i + 1) (by simp; omega) (by rw [e]; simp)
    rw [List.map_append] at this
    exact this
theorem impl_MovePoints_l0 (m : Nat) (l : List (List Int)) (hl : l.length ≤ 30) (hw : ∀ w ∈ l, isW m w) (o : List Int) (ho : o.length = m) (r : List (List Int)) : ∀ (p : List (List Int)) (i : Int), i = p.length → l = p ++ r →
    Ev (fun k => impl_MovePoints.l0 k o (p.map (moveP o)) l l.length i) (l.map (moveP o), true) := by
  induction r with
  | nil =>
    intro p i hi e
    have hlen : l.length = p.length := by rw [e]; simp
    have e' : l = p := by rw [e]; simp
    apply ev_up
    simp only [impl_MovePoints.l0]
    refine ev_n (by omega) (ev_eq (Ev.now _) ?_)
    rw [e']
  | cons w r ih =>
    intro p i hi e
    have hlen : l.length = p.length + r.length + 1 := by rw [e]; simp; omega
    have hx : rd_L1 l i = w := by rw [e]; exact rdIIA hi
    have hww := hw w (by rw [e]; simp)
    apply ev_up
    simp only [impl_MovePoints.l0]
    refine ev_p (by omega) (ev_p (by omega) (ev_p (by omega) ?_))
    rw [hx, w64 (n := i + 1) (by omega) (by omega)]
    obtain ⟨h1, h2, h3, h4, h5⟩ := isW_facts hww
    refine ev_p (by omega) (ev_p (by omega) (ev_p (by omega) (ev_p (by omega) (ev_p (by simp; omega) ?_))))
    have := ih (p ++ [w]) (i + 1) (by simp; omega) (by rw [e]; simp)
    rw [List.map_append] at this
    exact this
theorem spec_MovePoints_ev (l : List (List Int)) (m : Int) (o : List Int) (hm : I64 m) (hl : l.length ≤ 9223372036854775807) (ho : o.length ≤ 1048576) : Ev (fun k => spec_MovePoints.f k l m o) (movePointsM l m o) := by
  unfold spec_MovePoints.f movePointsM
  refine Ev.bind (spec_plWires_ev l m hm hl) (ev_ite (fun h => ?_) (fun h => ?_))
  · obtain ⟨n, rfl, h1, h7, h30, hw⟩ := levelWires_nat h
    refine Ev.bind (spec_ddOrder_ev n h7 o ho) (ev_ite (fun h2 => ?_) (fun h2 => ?_))
    · rw [if_pos ⟨h, by rw [Int.toNat_natCast]; exact h2⟩]
      rw [Bool.and_eq_true] at h2
      have hp : Ev (fun k => spec_plMove.f k l o) (l.map (moveP o)) := by
        unfold spec_plMove.f
        exact spec_plMove_l0 n l h30 hw o (of_decide_eq_true h2.2) l [] 0 rfl rfl
      exact Ev.bind hp (Ev.now _)
    · rw [if_neg (fun hh => h2 (by have := hh.2; rw [Int.toNat_natCast] at this; exact this))]
      exact Ev.now _
  · rw [if_neg (fun hh => h hh.1)]
    exact Ev.now _
theorem impl_MovePoints_ev (l : List (List Int)) (m : Int) (o : List Int) (hl : l.length ≤ 9223372036854775807) (ho : o.length ≤ 1048576) : Ev (fun k => impl_MovePoints.f k l m o) (movePointsM l m o) := by
  have no : ¬ (levelWiresM l m = true ∧ (okO m.toNat [] o && decide (o.length = m.toNat)) = true) → Ev (fun k => impl_MovePoints.j0 k l o true) (movePointsM l m o) := fun h => by
    unfold movePointsM
    rw [if_neg h]
    apply ev_up
    simp only [impl_MovePoints.j0]
    exact ev_p (by trivial) (Ev.now _)
  unfold impl_MovePoints.f
  refine Ev.bind (impl_AreLevelWires_ev l m hl) (ev_ite (fun h => ?_) (fun h => no (fun hh => h hh.1)))
  obtain ⟨n, rfl, h1, h7, h30, hw⟩ := levelWires_nat h
  refine Ev.bind (impl_isOrder_ev n h7 o ho) ?_
  by_cases h2 : (okO n [] o && decide (o.length = n)) = true
  · rw [h2]
    unfold movePointsM
    rw [if_pos ⟨h, by rw [Int.toNat_natCast]; exact h2⟩]
    rw [Bool.and_eq_true] at h2
    apply ev_up
    simp only [impl_MovePoints.j0]
    exact ev_n (by decide) (impl_MovePoints_l0 n l h30 hw o (of_decide_eq_true h2.2) l [] 0 rfl rfl)
  · rw [show (okO n [] o && decide (o.length = n)) = false by simpa using h2]
    exact no (fun hh => h2 (by have := hh.2; rw [Int.toNat_natCast] at this; exact this))

/-! #### markIntS -/
theorem markIntS_l0 (r : List Int) : ∀ (p : List Int) (s i : Int), i = p.length → p.length + r.length ≤ 9223372036854775807 → 0 ≤ s → s + r.length ≤ 9223372036854775807 →
    Ev (fun k => laws_markIntS.l0 k (p ++ r) s i) (s + r.length, p ++ seqFrom s r.length) := by
  induction r with
  | nil =>
    intro p s i hi hb h0 hs
    apply ev_up
    simp only [laws_markIntS.l0]
    refine ev_n (by simp; omega) ?_
    simpa [seqFrom] using Ev.now (s, p)
  | cons x r ih =>
    intro p s i hi hb h0 hs
    simp only [List.length_cons, Int.natCast_add] at hb hs
    apply ev_up
    simp only [laws_markIntS.l0]
    refine ev_p (by simp; omega) (ev_p (by omega) ?_)
    rw [setA hi, w64 (by omega) (by omega), w64 (by omega) (by omega)]
    refine ev_eq (ih (p ++ [s]) (s + 1) (i + 1) (by simp; omega) (by simp; omega) (by omega) (by omega)) ?_
    simp [seqFrom]
    omega
theorem markIntS_ev (a : List Int) (s : Int) (h0 : 0 ≤ s) (h : a.length + s ≤ 9223372036854775807) : Ev (fun k => laws_markIntS.f k a s) (s + a.length, seqFrom s a.length) := by
  unfold laws_markIntS.f
  exact markIntS_l0 a [] s 0 rfl (by simp; omega) h0 (by omega)

/-! #### heldIntS -/
theorem heldIntS_l0 (n : Nat) : ∀ (p : List Int) (s i : Int), i = p.length → p.length + n ≤ 9223372036854775807 → 0 ≤ s → s + n ≤ 9223372036854775807 →
    Ev (fun k => laws_heldIntS.l0 k (p ++ seqFrom s n) s i) (s + n) := by
  induction n with
  | zero =>
    intro p s i hi hb h0 hs
    apply ev_up
    simp only [laws_heldIntS.l0]
    refine ev_n (by simp [seqFrom]; omega) ?_
    simpa [seqFrom] using Ev.now s
  | succ n ih =>
    intro p s i hi hb h0 hs
    apply ev_up
    simp only [laws_heldIntS.l0]
    have hl := seqFrom_length s (n + 1)
    refine ev_p (by simp [hl]; omega) (ev_p (by omega) ?_)
    refine ev_p (by simp only [seqFrom]; exact rdA hi) ?_
    simp only [seqFrom]
    rw [appA, w64 (by omega) (by omega), w64 (by omega) (by omega)]
    refine ev_eq (ih (p ++ [s]) (s + 1) (i + 1) (by simp; omega) (by simp; omega) (by omega) (by omega)) ?_
    omega
theorem heldIntS_ev (n : Nat) (s : Int) (h0 : 0 ≤ s) (h : n + s ≤ 9223372036854775807) : Ev (fun k => laws_heldIntS.f k (seqFrom s n) s) (s + n) := by
  unfold laws_heldIntS.f
  exact heldIntS_l0 n [] s 0 rfl (by simp; omega) h0 (by omega)

/-! #### markIntSS -/
def totL : List (List Int) → Nat
  | [] => 0
  | x :: r => x.length + totL r
theorem totL_le {l : List (List Int)} {M : Nat} (h : ∀ y ∈ l, y.length ≤ M) : totL l ≤ l.length * M := by
  induction l with
  | nil => simp [totL]
  | cons x r ih =>
    have h1 := h x (by simp)
    have h2 := ih (fun y hy => h y (by simp [hy]))
    rw [totL, List.length_cons, Nat.succ_mul]
    omega
/-- The marks: rows as long as before, the numbers from s on. -/
def markSS : Int → List (List Int) → List (List Int)
  | _, [] => []
  | s, x :: r => seqFrom s x.length :: markSS (s + x.length) r
theorem markSS_length (r : List (List Int)) : ∀ s, (markSS s r).length = r.length := by
  induction r with
  | nil => intro s; rfl
  | cons x r ih => intro s; rw [markSS, List.length_cons, List.length_cons, ih]
theorem markIntSS_l0 (r : List (List Int)) : ∀ (p : List (List Int)) (s i : Int), i = p.length → p.length + r.length ≤ 1048576 → 0 ≤ s → s + totL r ≤ 9000000000000000000 →
    Ev (fun k => laws_markIntSS.l0 k (p ++ r) s i) (s + totL r, p ++ markSS s r) := by
  induction r with
  | nil =>
    intro p s i hi hb h0 hs
    apply ev_up
    simp only [laws_markIntSS.l0]
    refine ev_n (by simp; omega) ?_
    simpa [markSS, totL] using Ev.now (s, p)
  | cons x r ih =>
    intro p s i hi hb h0 hs
    rw [totL] at hs
    simp only [List.length_cons] at hb
    have ht := ih (p ++ [seqFrom s x.length]) (s + x.length) (i + 1) (by simp; omega) (by simp; omega) (by omega) (by omega)
    apply ev_up
    simp only [laws_markIntSS.l0]
    refine ev_p (by simp; omega) (ev_p (by omega) ?_)
    rw [rdIIA hi]
    have e : ∀ v : List Int, (p ++ x :: r).set (i : Int).toNat v = p ++ [v] ++ r := fun v => by rw [setA hi]
    refine Ev.bind (markIntS_ev x s h0 (by omega)) ?_
    dsimp only
    rw [e, w64 (n := i + 1) (by omega) (by omega)]
    refine ev_eq ht ?_
    rw [totL, markSS, List.append_assoc]
    refine Prod.ext ?_ rfl
    simp only
    omega
theorem markIntSS_ev (a : List (List Int)) (h : a.length ≤ 1048576) (hy : ∀ y ∈ a, y.length ≤ 1048576) : Ev (fun k => laws_markIntSS.f k a 1) (1 + totL a, markSS 1 a) := by
  unfold laws_markIntSS.f
  have := totL_le hy
  exact markIntSS_l0 a [] 1 0 rfl (by simpa using h) (by omega) (by omega)

/-! #### heldIntSS -/
theorem heldIntSS_l0 (r : List (List Int)) : ∀ (p : List (List Int)) (s i : Int), i = p.length → p.length + r.length ≤ 1048576 → 0 ≤ s → s + totL r ≤ 9000000000000000000 →
    Ev (fun k => laws_heldIntSS.l0 k (p ++ markSS s r) s i) (s + totL r) := by
  induction r with
  | nil =>
    intro p s i hi hb h0 hs
    apply ev_up
    simp only [laws_heldIntSS.l0]
    exact ev_n (by simp [markSS]; omega) (ev_eq (Ev.now _) (by simp [totL]))
  | cons x r ih =>
    intro p s i hi hb h0 hs
    rw [totL] at hs
    simp only [List.length_cons] at hb
    have ht := ih (p ++ [seqFrom s x.length]) (s + x.length) (i + 1) (by simp; omega) (by simp; omega) (by omega) (by omega)
    apply ev_up
    simp only [laws_heldIntSS.l0]
    refine ev_p (by simp [markSS]; omega) (ev_p (by omega) ?_)
    rw [markSS, rdIIA hi]
    refine Ev.bind (heldIntS_ev x.length s h0 (by omega)) (ev_n (by omega) ?_)
    rw [w64 (n := i + 1) (by omega) (by omega), appA]
    refine ev_eq ht ?_
    rw [totL]
    omega
theorem heldIntSS_ev (a : List (List Int)) (h : a.length ≤ 1048576) (hy : ∀ y ∈ a, y.length ≤ 1048576) : Ev (fun k => laws_heldIntSS.f k (markSS 1 a) 1) (1 + totL a) := by
  unfold laws_heldIntSS.f
  have := totL_le hy
  exact heldIntSS_l0 a [] 1 0 rfl (by simpa using h) (by omega) (by omega)

/-! #### FnExactMovePoints -/
theorem FnExactMovePoints (l0 : (List (List Int))) (a1 : Int) (l2 : (List Int)) : (l0.length ≤ 9223372036854775807 ∧ ∀ y3 ∈ l0, (y3.length ≤ 9223372036854775807 ∧ ∀ y2 ∈ y3, I64 y2)) → I64 a1 → (l2.length ≤ 9223372036854775807 ∧ ∀ y2 ∈ l2, I64 y2) → ∃ k, laws_FnExactMovePoints.f k l0 a1 l2 = some true := by
  rintro ⟨hl, hy⟩ h1 ⟨ho, _⟩
  apply ev_get
  obtain ⟨t, ht, hq⟩ := szIntSS_ev l0 1048576 (by omega) (by omega) hl (fun y h => (hy y h).1)
  unfold laws_FnExactMovePoints.f
  refine ev_ite (fun _ => Ev.now _) (fun h0 => Ev.bind ht (ev_ite (fun _ => Ev.now _) (fun h => ?_)))
  obtain ⟨_, hl2, hy2⟩ := hq (by omega)
  have ho2 : l2.length ≤ 1048576 := by omega
  have hto := toIntSS_ev l0 hl2 hy2
  have hti := toIntS_ev l2 (by omega)
  have heq : Ev (fun k => laws_eqIntSS.f k l0 l0) true := by simpa using eqIntSS_ev l0 l0 (by omega) (fun y h => by have := hy2 y h; omega)
  have heqi : Ev (fun k => laws_eqIntS.f k l2 l2) true := by simpa using eqIntS_ev l2 l2 (by omega)
  have hs := spec_MovePoints_ev l0 a1 l2 h1 hl ho2
  have hi := impl_MovePoints_ev l0 a1 l2 hl ho2
  obtain ⟨hR1, hR2⟩ := movePointsM_length l0 a1 l2
  generalize movePointsM l0 a1 l2 = R at hs hi hR1 hR2
  have heqR : Ev (fun k => laws_eqIntSS.f k R.1 R.1) true := by simpa using eqIntSS_ev R.1 R.1 (by omega) (fun y h => by have := hR2 y h; omega)
  have hmk := markIntSS_ev l0 hl2 hy2
  have htl := totL_le hy2
  have hmi := markIntS_ev l2 (1 + totL l0) (by omega) (by omega)
  have hmr := markIntSS_ev R.1 (by omega) (fun y h => by have := hR2 y h; omega)
  have hhr := heldIntSS_ev R.1 (by omega) (fun y h => by have := hR2 y h; omega)
  repeat (first
    | (with_reducible exact Ev.now _)
    | (with_reducible refine Ev.bind hto ?_)
    | (with_reducible refine Ev.bind hti ?_)
    | (with_reducible refine Ev.bind hs ?_)
    | (with_reducible refine Ev.bind hi ?_)
    | (with_reducible refine Ev.bind heq ?_)
    | (with_reducible refine Ev.bind heqi ?_)
    | (with_reducible refine Ev.bind heqR ?_)
    | (with_reducible refine Ev.bind hmk ?_)
    | (with_reducible refine Ev.bind hmi ?_)
    | (with_reducible refine Ev.bind hmr ?_)
    | (with_reducible refine Ev.bind hhr ?_)
    | (with_reducible refine ev_p rfl ?_)
    | (with_reducible refine ev_p True.intro ?_)
    | (refine ev_n ?h ?_; case h => (first | omega | (simp; done) | (simp; omega))))

end Go.Proofs.Ytdhbblmkbgojfaa.Pure
