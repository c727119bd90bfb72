/- The pure part of the law FnExactIsRouting: what the program and the reference compute is the same, for all arguments. Conditions: the numbers are of Go's int, the lengths of slices are. -/
import Derived.Test.YtdhbblmkbgojfaaPFnExactIsRoutingx5
import Derived.Test.YtdhbblmkbgojfaaKit
set_option linter.unusedVariables false
set_option linter.unusedSimpArgs false
namespace Go.Proofs.Ytdhbblmkbgojfaa.Pure
open Go.RowKit Go.Proofs.Ytdhbblmkbgojfaa.PFnExactIsRouting Go.Proofs.YtdhbblmkbgojfaaW.PrintWords Go.Proofs.YtdhbblmkbgojfaaW.PrintLast Go.Proofs.Ytdhbblmkbgojfaa.Open Go.Proofs.Ytdhbblmkbgojfaa.Kit

/-! #### szWireS -/
theorem szWireS_eq (l : List S63) (a : Int) (ha : 0 ≤ a) (ha2 : a ≤ 1048576) (hl : l.length ≤ 9223372036854775807) : laws_szWireS.f l a = some (if l.length ≤ a then a - l.length else -1) := by
  unfold laws_szWireS.f
  rw [w64 (by omega) (by omega)]
  by_cases h : (l.length : Int) ≤ a
  · rw [if_neg (by omega), if_pos h]
  · rw [if_pos (by omega), if_neg h]

/-! #### wirePre -/
theorem wire_pre {n : Nat} (h : ¬ (if (n : Int) ≤ 1048576 then (1048576 : Int) - n else -1) < 0) : n ≤ 1048576 := by
  by_cases h2 : (n : Int) ≤ 1048576
  · omega
  · rw [if_neg h2] at h
    exact absurd (by decide) h

/-! #### wireT -/
theorem rdLWireA {p r : List S63} {x : S63} {i : Int} (hi : i = p.length) : rd_T63 (p ++ x :: r) i = x := getDA hi
theorem rdWireA {p r : List S61} {x : S61} {i : Int} (hi : i = p.length) : rd_T61 (p ++ x :: r) i = x := getDA hi
instance decWire : DecidableEq S61 := fun a b => decidable_of_decidable_of_iff (p := a.f0 = b.f0 ∧ a.f1 = b.f1) ⟨fun h => by cases a; cases b; simp_all, fun h => by rw [h]; exact ⟨rfl, rfl⟩⟩
/-- A wire of the laws as one of the program. -/
def cvWire (x : S63) : S61 := ⟨x.f0, x.f1⟩

/-! #### toWireS -/
theorem toWireS_l0 (r : List S63) : ∀ (p : List S63) (z : List S61) (i : Int), i = p.length → z.length = r.length → p.length + r.length ≤ 9223372036854775806 →
    Ev (fun k => laws_toWireS.l0 k (p ++ r) (p.map cvWire ++ z) i) ((p ++ r).map cvWire) := by
  induction r with
  | nil =>
    intro p z i hi hz hb
    obtain rfl : z = [] := List.length_eq_zero_iff.1 hz
    apply ev_up
    simp only [laws_toWireS.l0]
    refine ev_n (by simp; omega) ?_
    simpa using Ev.now (p.map cvWire)
  | cons x r ih =>
    intro p z i hi hz hb
    match z, hz with
    | y :: z, hz =>
      simp only [List.length_cons] at hz hb
      apply ev_up
      simp only [laws_toWireS.l0]
      refine ev_p (by simp; omega) (ev_p (by omega) ?_)
      rw [rdLWireA hi]
      refine Ev.bind (ev_c (show laws_toWire.f x.f0 x.f1 = some (x.f0, x.f1) from rfl)) (ev_p (by simp; omega) ?_)
      rw [setA (by simpa using hi), w64 (by omega) (by omega), appA]
      have := ih (p ++ [x]) z (i + 1) (by simp; omega) (by omega) (by simp; omega)
      simpa [cvWire] using this
theorem toWireS_ev (a : List S63) (h : a.length ≤ 1048576) : Ev (fun k => laws_toWireS.f k a) (a.map cvWire) := by
  unfold laws_toWireS.f
  refine ev_p (by omega) (ev_p (by omega) ?_)
  exact toWireS_l0 a [] (List.replicate ((a.length : Int)).toNat z61) 0 rfl (by simp) (by simp; omega)

/-! #### eqWireS -/
theorem eqWire_eq (a b c d : Int) : laws_eqWire.f a b c d = some (decide ((⟨a, b⟩ : S61) = ⟨c, d⟩)) := by
  unfold laws_eqWire.f
  by_cases h1 : a = c
  · by_cases h2 : b = d
    · rw [if_pos h1, if_pos h2, h1, h2, decide_eq_true rfl]
    · rw [if_pos h1, if_neg h2]
      congr 1; symm
      exact decide_eq_false (fun h => h2 (by injection h))
  · rw [if_neg h1]
    congr 1; symm
    exact decide_eq_false (fun h => h1 (by injection h))
theorem eqWireS_l0 (r : List S61) : ∀ (s p q : List S61) (i : Int), i = p.length → p.length = q.length → r.length = s.length → p.length + r.length ≤ 9223372036854775807 →
    Ev (fun k => laws_eqWireS.l0 k (p ++ r) (q ++ s) i) (decide (r = s)) := by
  induction r with
  | nil =>
    intro s p q i hi hpq hrs hb
    obtain rfl : s = [] := List.length_eq_zero_iff.1 hrs.symm
    apply ev_up
    simp only [laws_eqWireS.l0]
    refine ev_n (by simp; omega) ?_
    simpa using Ev.now true
  | cons x r ih =>
    intro s p q i hi hpq hrs hb
    match s, hrs with
    | y :: s, hrs =>
      simp only [List.length_cons] at hrs hb
      apply ev_up
      simp only [laws_eqWireS.l0]
      refine ev_p (by simp; omega) (ev_p (by omega) (ev_p (by simp; omega) ?_))
      rw [rdWireA hi, rdWireA (by omega), eqWire_eq]
      refine Ev.bind (ev_c rfl) ?_
      refine ev_ite (fun hxy => ?_) (fun hxy => ?_)
      · have hxy' : x = y := of_decide_eq_true hxy
        subst hxy'
        rw [w64 (by omega) (by omega), appA, appA (p := q)]
        refine ev_eq (ih s (p ++ [x]) (q ++ [x]) (i + 1) (by simp; omega) (by simp; omega) (by omega) (by simp; omega)) ?_
        simp
      · refine ev_eq (Ev.now false) ?_
        have hxy' : ¬ x = y := fun e => hxy (decide_eq_true e)
        simp [hxy']
theorem eqWireS_ev (a b : List S61) (h : a.length ≤ 9223372036854775807) : Ev (fun k => laws_eqWireS.f k a b) (decide (a = b)) := by
  unfold laws_eqWireS.f
  refine ev_ite (fun hl => ?_) (fun hl => ?_)
  · exact eqWireS_l0 a b [] [] 0 rfl rfl (by omega) (by simpa using h)
  · refine ev_eq (Ev.now false) ?_
    symm
    apply decide_eq_false
    rintro rfl
    exact hl rfl

/-! #### allB -/
/-- f at j, j + 1, .. : d of them. -/
def allB (f : Nat → Bool) : Nat → Nat → Bool
  | _, 0 => true
  | j, d + 1 => f j && allB f (j + 1) d
theorem allB_iff (f : Nat → Bool) (d : Nat) : ∀ j, allB f j d = true ↔ ∀ x, j ≤ x → x < j + d → f x = true := by
  induction d with
  | zero => intro j; simp [allB]; intro x h1 h2; omega
  | succ d ih =>
    intro j
    rw [allB, Bool.and_eq_true, ih]
    constructor
    · rintro ⟨h1, h2⟩ x h3 h4
      by_cases e : x = j
      · rw [e]; exact h1
      · exact h2 x (by omega) (by omega)
    · intro h
      exact ⟨h j (Nat.le_refl _) (by omega), fun x h1 h2 => h x (by omega) (by omega)⟩

/-! #### routM -/
def meetB (a b : S61) : Bool := decide (a.f0 ≤ b.f1 ∧ b.f0 ≤ a.f1)
theorem spec_rtMeet_eq (a b : S61) : spec_rtMeet.f a.f0 a.f1 b.f0 b.f1 = some (meetB a b) := by
  unfold spec_rtMeet.f meetB
  by_cases h : a.f0 ≤ b.f1
  · rw [if_pos h]; simp [h]
  · rw [if_neg h]; simp [h]
theorem impl_wiresMeet_eq (a b : S61) : impl_wiresMeet.f a.f0 a.f1 b.f0 b.f1 = some (meetB a b) := by
  unfold impl_wiresMeet.f meetB
  by_cases h : a.f0 ≤ b.f1
  · rw [if_pos h]; simp [h]
  · rw [if_neg h]; simp [h]
/-- The wires i and k are in different tracks, or do not meet. -/
def okPair (l : List S61) (tr : List Int) (i k : Nat) : Bool := !(decide (rd tr i = rd tr k) && meetB (rd_T61 l i) (rd_T61 l k))
def routM (l : List S61) (tr : List Int) : Bool := allB (fun i => allB (okPair l tr i) 0 i) 0 l.length

/-! #### spec_rtRouting -/
theorem spec_rtRouting_l1 (l : List S61) (tr : List Int) (hl : l.length ≤ 1048576) (ht : tr.length = l.length) (i : Nat) (hi : i < l.length) (res : Bool) (d : Nat) : ∀ (j : Nat), j + d = i →
    (allB (okPair l tr i) j d = true → Ev (fun k => spec_rtRouting.l0 k l tr l l.length (wrap64 ((i : Int) + 1))) res) → (allB (okPair l tr i) j d = false → res = false) →
    Ev (fun k => spec_rtRouting.l1 k l tr i l l.length i i j (rd_T61 l i).f0 (rd_T61 l i).f1) res := by
  induction d with
  | zero =>
    intro j hj h1 h2
    apply ev_up
    simp only [spec_rtRouting.l1]
    exact ev_n (by omega) (h1 rfl)
  | succ d ih =>
    intro j hj h1 h2
    apply ev_up
    simp only [spec_rtRouting.l1]
    refine ev_p (by omega) (ev_p (by omega) (ev_p (by omega) (ev_p (by omega) (ev_p (by omega) ?_))))
    rw [wN (n := (j : Int) + 1) (m := j + 1) (by omega) (by omega), allB] at *
    have yes : okPair l tr i j = true → Ev (fun k => spec_rtRouting.l1 k l tr i l l.length i i ((j + 1 : Nat) : Int) (rd_T61 l i).f0 (rd_T61 l i).f1) res := fun h => by
      rw [h, Bool.true_and] at h1 h2
      exact ih (j + 1) (by omega) h1 h2
    refine ev_ite (fun c1 => ev_p (by omega) ?_) (fun c1 => ?_)
    · rw [spec_rtMeet_eq]
      refine Ev.bind (ev_c rfl) (ev_ite (fun c2 => ?_) (fun c2 => ?_))
      · have : okPair l tr i j = false := by unfold okPair; rw [decide_eq_true c1, c2]; rfl
        rw [h2 (by rw [this, Bool.false_and])]
        exact Ev.now _
      · exact yes (by unfold okPair; rw [show meetB (rd_T61 l i) (rd_T61 l j) = false by simpa using c2, Bool.and_false]; rfl)
    · exact yes (by unfold okPair; rw [decide_eq_false c1, Bool.false_and]; rfl)
theorem spec_rtRouting_l0 (l : List S61) (tr : List Int) (hl : l.length ≤ 1048576) (ht : tr.length = l.length) (d : Nat) : ∀ (i : Nat), i + d = l.length →
    Ev (fun k => spec_rtRouting.l0 k l tr l l.length i) (allB (fun i => allB (okPair l tr i) 0 i) i d) := by
  induction d with
  | zero =>
    intro i hi
    apply ev_up
    simp only [spec_rtRouting.l0]
    exact ev_n (by omega) (Ev.now _)
  | succ d ih =>
    intro i hi
    have e : ((l.take ((i : Int)).toNat).length : Int) = i := by simp; omega
    apply ev_up
    simp only [spec_rtRouting.l0]
    refine ev_p (by omega) (ev_p (by omega) (ev_p (by omega) (ev_p (by omega) ?_)))
    rw [e]
    refine spec_rtRouting_l1 l tr hl ht i (by omega) _ i 0 (by omega) (fun h => ?_) (fun h => ?_)
    · rw [wN (n := (i : Int) + 1) (m := i + 1) (by omega) (by omega), allB, h, Bool.true_and]
      exact ih (i + 1) (by omega)
    · rw [allB, h, Bool.false_and]
theorem spec_rtRouting_ev (l : List S61) (tr : List Int) (hl : l.length ≤ 1048576) (ht : tr.length = l.length) : Ev (fun k => spec_rtRouting.f k l tr) (routM l tr) := by
  unfold spec_rtRouting.f routM
  exact spec_rtRouting_l0 l tr hl ht l.length 0 (by omega)

/-! #### impl_isRouting -/
theorem impl_isRouting_l1 (l : List S61) (tr : List Int) (hl : l.length ≤ 1048576) (ht : tr.length = l.length) (i : Nat) (hi : i < l.length) (res : Bool) (d : Nat) : ∀ (j : Nat), j + d = i →
    (allB (okPair l tr i) j d = true → Ev (fun k => impl_isRouting.l0 k l tr l.length (wrap64 ((i : Int) + 1))) res) → (allB (okPair l tr i) j d = false → res = false) →
    Ev (fun k => impl_isRouting.l1 k l tr i j l.length i) res := by
  induction d with
  | zero =>
    intro j hj h1 h2
    apply ev_up
    simp only [impl_isRouting.l1]
    exact ev_n (by omega) (h1 rfl)
  | succ d ih =>
    intro j hj h1 h2
    apply ev_up
    simp only [impl_isRouting.l1]
    refine ev_p (by omega) (ev_p (by omega) (ev_p (by omega) (ev_p (by omega) (ev_p (by omega) ?_))))
    rw [wN (n := (j : Int) + 1) (m := j + 1) (by omega) (by omega), allB] at *
    have yes : okPair l tr i j = true → Ev (fun k => impl_isRouting.l1 k l tr i ((j + 1 : Nat) : Int) l.length i) res := fun h => by
      rw [h, Bool.true_and] at h1 h2
      exact ih (j + 1) (by omega) h1 h2
    refine ev_ite (fun c1 => ev_p (by omega) (ev_p (by omega) ?_)) (fun c1 => ?_)
    · rw [impl_wiresMeet_eq]
      refine Ev.bind (ev_c rfl) (ev_ite (fun c2 => ?_) (fun c2 => ?_))
      · have : okPair l tr i j = false := by unfold okPair; rw [decide_eq_true c1, c2]; rfl
        rw [h2 (by rw [this, Bool.false_and])]
        exact Ev.now _
      · exact yes (by unfold okPair; rw [show meetB (rd_T61 l i) (rd_T61 l j) = false by simpa using c2, Bool.and_false]; rfl)
    · exact yes (by unfold okPair; rw [decide_eq_false c1, Bool.false_and]; rfl)
theorem impl_isRouting_l0 (l : List S61) (tr : List Int) (hl : l.length ≤ 1048576) (ht : tr.length = l.length) (d : Nat) : ∀ (i : Nat), i + d = l.length →
    Ev (fun k => impl_isRouting.l0 k l tr l.length i) (allB (fun i => allB (okPair l tr i) 0 i) i d) := by
  induction d with
  | zero =>
    intro i hi
    apply ev_up
    simp only [impl_isRouting.l0]
    exact ev_n (by omega) (Ev.now _)
  | succ d ih =>
    intro i hi
    apply ev_up
    simp only [impl_isRouting.l0]
    refine ev_p (by omega) ?_
    refine impl_isRouting_l1 l tr hl ht i (by omega) _ i 0 (by omega) (fun h => ?_) (fun h => ?_)
    · rw [wN (n := (i : Int) + 1) (m := i + 1) (by omega) (by omega), allB, h, Bool.true_and]
      exact ih (i + 1) (by omega)
    · rw [allB, h, Bool.false_and]
theorem impl_isRouting_ev (l : List S61) (tr : List Int) (hl : l.length ≤ 1048576) (ht : tr.length = l.length) : Ev (fun k => impl_isRouting.f k l tr) (routM l tr) := by
  unfold impl_isRouting.f routM
  exact impl_isRouting_l0 l tr hl ht l.length 0 (by omega)

/-! #### l1In -/
theorem l1In_eq (a b c : Int) : spec_l1In.f a b c = some (decide (b ≤ a ∧ a ≤ c)) := by
  unfold spec_l1In.f
  by_cases h : b ≤ a
  · rw [if_pos h]; simp [h]
  · rw [if_neg h]; simp [h]

/-! #### chanM -/
def goodWire (x : S61) : Bool := decide (0 ≤ x.f0 ∧ x.f0 ≤ x.f1 ∧ x.f1 ≤ 50)
def chanM (l : List S61) : Bool := decide (l.length ≤ 20) && l.all goodWire
theorem spec_rtWire_eq (a b : Int) : spec_rtWire.f a b = some (goodWire ⟨a, b⟩) := by
  unfold spec_rtWire.f
  rw [l1In_eq, Option.bind_some]
  by_cases h : 0 ≤ a ∧ a ≤ b
  · rw [decide_eq_true h, if_pos rfl, l1In_eq, Option.bind_some]
    congr 1
    exact decide_eq_decide.2 ⟨fun hh => ⟨h.1, h.2, hh.2⟩, fun hh => ⟨h.2, hh.2.2⟩⟩
  · rw [decide_eq_false h, if_neg (by decide)]
    congr 1; symm
    exact decide_eq_false (fun hh => h ⟨hh.1, hh.2.1⟩)
theorem impl_isWire_eq (a b : Int) : impl_isWire.f a b = some (goodWire ⟨a, b⟩) := by
  unfold impl_isWire.f
  by_cases h1 : a ≥ 0
  · rw [if_pos h1]
    by_cases h2 : a ≤ b
    · rw [if_pos h2]
      congr 1
      exact decide_eq_decide.2 ⟨fun hh => ⟨h1, h2, hh⟩, fun hh => hh.2.2⟩
    · rw [if_neg h2]
      congr 1; symm
      exact decide_eq_false (fun hh => h2 hh.2.1)
  · rw [if_neg h1]
    congr 1; symm
    exact decide_eq_false (fun hh => h1 hh.1)

/-! #### spec_rtGood -/
theorem spec_rtGood_l0 (l : List S61) (hl : l.length ≤ 9223372036854775807) (r : List S61) : ∀ (p : List S61) (i : Int), i = p.length → l = p ++ r →
    Ev (fun k => spec_rtGood.l0 k l l l.length i) (decide (l.length ≤ 20) && r.all goodWire) := by
  induction r with
  | nil =>
    intro p i hi e
    have hlen : l.length = p.length := by rw [e]; simp
    apply ev_up
    simp only [spec_rtGood.l0]
    refine ev_n (by omega) (ev_eq (Ev.now _) ?_)
    rw [List.all_nil, Bool.and_true]
    exact decide_eq_decide.2 (by omega)
  | cons x r ih =>
    intro p i hi e
    have hlen : l.length = p.length + r.length + 1 := by rw [e]; simp; omega
    have hx : rd_T61 l i = x := by rw [e]; exact rdWireA hi
    have ih' := ih (p ++ [x]) (i + 1) (by simp; omega) (by rw [e]; simp)
    apply ev_up
    simp only [spec_rtGood.l0]
    refine ev_p (by omega) (ev_p (by omega) (ev_p (by omega) ?_))
    rw [hx, spec_rtWire_eq]
    refine Ev.bind (ev_c rfl) ?_
    have ex : (⟨x.f0, x.f1⟩ : S61) = x := rfl
    rw [ex]
    refine ev_ite (fun h => ?_) (fun h => ?_)
    · rw [w64 (by omega) (by omega)]
      refine ev_eq ih' ?_
      rw [List.all_cons, h, Bool.true_and]
    · refine ev_eq (Ev.now _) ?_
      have h' : goodWire x = false := by simpa using h
      rw [List.all_cons, h', Bool.false_and, Bool.and_false]
theorem spec_rtGood_ev (l : List S61) (hl : l.length ≤ 9223372036854775807) : Ev (fun k => spec_rtGood.f k l) (chanM l) := by
  unfold spec_rtGood.f chanM
  exact spec_rtGood_l0 l hl l [] 0 rfl rfl

/-! #### impl_AreChannelWires -/
theorem impl_AreChannelWires_l0 (l : List S61) (hl : l.length ≤ 9223372036854775807) (r : List S61) : ∀ (p : List S61) (i : Int), i = p.length → l = p ++ r →
    Ev (fun k => impl_AreChannelWires.l0 k l l.length i) (r.all goodWire) := by
  induction r with
  | nil =>
    intro p i hi e
    have hlen : l.length = p.length := by rw [e]; simp
    apply ev_up
    simp only [impl_AreChannelWires.l0]
    exact ev_n (by omega) (Ev.now _)
  | cons x r ih =>
    intro p i hi e
    have hlen : l.length = p.length + r.length + 1 := by rw [e]; simp; omega
    have hx : rd_T61 l i = x := by rw [e]; exact rdWireA hi
    have ih' := ih (p ++ [x]) (i + 1) (by simp; omega) (by rw [e]; simp)
    apply ev_up
    simp only [impl_AreChannelWires.l0]
    refine ev_p (by omega) (ev_p (by omega) (ev_p (by omega) ?_))
    rw [hx, impl_isWire_eq]
    refine Ev.bind (ev_c rfl) ?_
    have ex : (⟨x.f0, x.f1⟩ : S61) = x := rfl
    rw [ex]
    refine ev_ite (fun h => ?_) (fun h => ?_)
    · rw [w64 (by omega) (by omega)]
      refine ev_eq ih' ?_
      rw [List.all_cons, h, Bool.true_and]
    · refine ev_eq (Ev.now _) ?_
      have h' : goodWire x = false := by simpa using h
      rw [List.all_cons, h', Bool.false_and]
theorem impl_AreChannelWires_ev (l : List S61) (hl : l.length ≤ 9223372036854775807) : Ev (fun k => impl_AreChannelWires.f k l) (chanM l) := by
  unfold impl_AreChannelWires.f chanM
  refine ev_ite (fun h => ?_) (fun h => ?_)
  · rw [decide_eq_false (by omega), Bool.false_and]
    exact Ev.now _
  · rw [decide_eq_true (by omega), Bool.true_and]
    exact impl_AreChannelWires_l0 l hl l [] 0 rfl rfl

/-! #### l1All -/
def inB (a b : Int) (x : Int) : Bool := decide (a ≤ x ∧ x ≤ b)
theorem l1All_l0 (l : List Int) (a b : Int) (hl : l.length ≤ 9223372036854775807) (r : List Int) : ∀ (p : List Int) (i : Int), i = p.length → l = p ++ r →
    Ev (fun k => spec_l1All.l0 k a b l l.length i) (r.all (inB a b)) := by
  induction r with
  | nil =>
    intro p i hi e
    have hlen : l.length = p.length := by rw [e]; simp
    apply ev_up
    simp only [spec_l1All.l0]
    exact ev_n (by omega) (Ev.now _)
  | cons x r ih =>
    intro p i hi e
    have hlen : l.length = p.length + r.length + 1 := by rw [e]; simp; omega
    have hx : rd l i = x := by rw [e]; exact rdA hi
    have ih' := ih (p ++ [x]) (i + 1) (by simp; omega) (by rw [e]; simp)
    apply ev_up
    simp only [spec_l1All.l0]
    refine ev_p (by omega) (ev_p (by omega) (ev_p (by omega) ?_))
    rw [hx, l1In_eq]
    refine Ev.bind (ev_c rfl) ?_
    refine ev_ite (fun h => ?_) (fun h => ?_)
    · rw [w64 (by omega) (by omega)]
      refine ev_eq ih' ?_
      rw [List.all_cons, show inB a b x = true from h, Bool.true_and]
    · refine ev_eq (Ev.now _) ?_
      rw [List.all_cons, show inB a b x = false from decide_eq_false (fun hh => h (decide_eq_true hh)), Bool.false_and]
theorem l1All_ev (l : List Int) (a b : Int) (hl : l.length ≤ 9223372036854775807) : Ev (fun k => spec_l1All.f k l a b) (l.all (inB a b)) := by
  unfold spec_l1All.f
  exact l1All_l0 l a b hl l [] 0 rfl rfl

/-! #### tracksM -/
def tracksM (l : List Int) : Bool := decide (l.length ≤ 20) && l.all (inB 0 19)
theorem spec_rtTracks_ev (l : List Int) (hl : l.length ≤ 9223372036854775807) : Ev (fun k => spec_rtTracks.f k l) (tracksM l) := by
  unfold spec_rtTracks.f tracksM
  refine ev_ite (fun h => ?_) (fun h => ?_)
  · rw [decide_eq_true (by omega), Bool.true_and]
    exact Ev.bind (l1All_ev l 0 19 hl) (Ev.now _)
  · rw [decide_eq_false (by omega), Bool.false_and]
    exact Ev.now _
theorem tracksM_bounds {l : List Int} (h : tracksM l = true) : l.length ≤ 20 ∧ ∀ x ∈ l, 0 ≤ x ∧ x ≤ 19 := by
  unfold tracksM at h
  rw [Bool.and_eq_true, List.all_eq_true] at h
  exact ⟨of_decide_eq_true h.1, fun x hx => of_decide_eq_true (h.2 x hx)⟩

/-! #### impl_areTracks -/
theorem impl_areTracks_l0 (l : List Int) (hl : l.length ≤ 9223372036854775807) (r : List Int) : ∀ (p : List Int) (i : Int), i = p.length → l = p ++ r →
    Ev (fun k => impl_areTracks.l0 k l l.length i) (r.all (inB 0 19)) := by
  induction r with
  | nil =>
    intro p i hi e
    have hlen : l.length = p.length := by rw [e]; simp
    apply ev_up
    simp only [impl_areTracks.l0]
    exact ev_n (by omega) (Ev.now _)
  | cons x r ih =>
    intro p i hi e
    have hlen : l.length = p.length + r.length + 1 := by rw [e]; simp; omega
    have hx : rd l i = x := by rw [e]; exact rdA hi
    have ih' := ih (p ++ [x]) (i + 1) (by simp; omega) (by rw [e]; simp)
    apply ev_up
    simp only [impl_areTracks.l0]
    refine ev_p (by omega) (ev_p (by omega) (ev_p (by omega) ?_))
    rw [hx]
    refine ev_ite (fun h => ?_) (fun h => ev_ite (fun h2 => ?_) (fun h2 => ?_))
    · refine ev_eq (Ev.now _) ?_
      rw [List.all_cons, show inB 0 19 x = false from decide_eq_false (by omega), Bool.false_and]
    · refine ev_eq (Ev.now _) ?_
      rw [List.all_cons, show inB 0 19 x = false from decide_eq_false (by omega), Bool.false_and]
    · rw [w64 (by omega) (by omega)]
      refine ev_eq ih' ?_
      rw [List.all_cons, show inB 0 19 x = true from decide_eq_true (by omega), Bool.true_and]
theorem impl_areTracks_ev (l : List Int) (hl : l.length ≤ 9223372036854775807) : Ev (fun k => impl_areTracks.f k l) (tracksM l) := by
  unfold impl_areTracks.f tracksM
  refine ev_ite (fun h => ?_) (fun h => ?_)
  · rw [decide_eq_false (by omega), Bool.false_and]
    exact Ev.now _
  · rw [decide_eq_true (by omega), Bool.true_and]
    exact impl_areTracks_l0 l hl l [] 0 rfl rfl

/-! #### isRouting -/
def isRoutingM (l : List S61) (tr : List Int) : Bool × Bool := if chanM l = true ∧ tracksM tr = true ∧ tr.length = l.length then (routM l tr, true) else (false, false)
theorem spec_rtAsked_ev (l : List S61) (tr : List Int) (hl : l.length ≤ 1048576) (ht : tr.length ≤ 1048576) : Ev (fun k => spec_rtAsked.f k l tr) (decide (chanM l = true ∧ tracksM tr = true ∧ tr.length = l.length)) := by
  unfold spec_rtAsked.f
  refine Ev.bind (spec_rtGood_ev l (by omega)) (ev_ite (fun h1 => Ev.bind (spec_rtTracks_ev tr (by omega)) (ev_ite (fun h2 => ?_) (fun h2 => ?_))) (fun h1 => ?_))
  · refine ev_eq (Ev.now _) ?_
    rw [Bool.eq_iff_iff, beq_iff_eq, decide_eq_true_eq]
    exact ⟨fun h => ⟨h1, h2, by omega⟩, fun h => by omega⟩
  · rw [decide_eq_false (fun h => h2 h.2.1)]
    exact Ev.now _
  · rw [decide_eq_false (fun h => h1 h.1)]
    exact Ev.now _
theorem spec_IsRouting_ev (l : List S61) (tr : List Int) (hl : l.length ≤ 1048576) (ht : tr.length ≤ 1048576) : Ev (fun k => spec_IsRouting.f k l tr) (isRoutingM l tr) := by
  unfold spec_IsRouting.f isRoutingM
  refine Ev.bind (spec_rtAsked_ev l tr hl ht) (ev_ite (fun h => ?_) (fun h => ?_))
  · have h' := of_decide_eq_true h
    rw [if_pos h']
    exact Ev.bind (spec_rtRouting_ev l tr hl h'.2.2) (Ev.now _)
  · rw [if_neg (fun hh => h (decide_eq_true hh))]
    exact Ev.now _
theorem impl_IsRouting_ev (l : List S61) (tr : List Int) (hl : l.length ≤ 1048576) (ht : tr.length ≤ 1048576) : Ev (fun k => impl_IsRouting.f k l tr) (isRoutingM l tr) := by
  unfold impl_IsRouting.f isRoutingM
  refine Ev.bind (impl_AreChannelWires_ev l (by omega)) (ev_ite (fun h1 => Ev.bind (impl_areTracks_ev tr (by omega)) (ev_ite (fun h2 => ev_ite (fun h3 => ?_) (fun h3 => ?_)) (fun h2 => ?_))) (fun h1 => ?_))
  · have h3' : tr.length = l.length := by omega
    rw [if_pos ⟨h1, h2, h3'⟩]
    exact Ev.bind (impl_isRouting_ev l tr hl h3') (Ev.now _)
  · rw [if_neg (fun hh => h3 (by rw [hh.2.2]))]
    exact Ev.now _
  · rw [if_neg (fun hh => h2 hh.2.1)]
    exact Ev.now _
  · rw [if_neg (fun hh => h1 hh.1)]
    exact Ev.now _

/-! #### toIntS -/
theorem toIntS_l0 (r : List Int) : ∀ (p z : List Int) (i : Int), i = p.length → z.length = r.length → p.length + r.length ≤ 9223372036854775806 →
    Ev (fun k => laws_toIntS.l0 k (p ++ r) (p ++ z) i) (p ++ r) := by
  induction r with
  | nil =>
    intro p z i hi hz hb
    obtain rfl : z = [] := List.length_eq_zero_iff.1 hz
    apply ev_up
    simp only [laws_toIntS.l0]
    refine ev_n (by simp; omega) ?_
    exact Ev.now _
  | cons x r ih =>
    intro p z i hi hz hb
    match z, hz with
    | y :: z, hz =>
      simp only [List.length_cons] at hz hb
      apply ev_up
      simp only [laws_toIntS.l0]
      refine ev_p (by simp; omega) (ev_p (by omega) (ev_p (by simp; omega) ?_))
      rw [rdA hi, setA hi, w64 (by omega) (by omega), appA]
      exact ih (p ++ [x]) z (i + 1) (by simp; omega) (by omega) (by simp; omega)
theorem toIntS_ev (a : List Int) (h : a.length ≤ 35184372088832) : Ev (fun k => laws_toIntS.f k a) a := by
  unfold laws_toIntS.f
  refine ev_p (by omega) (ev_p (by omega) ?_)
  exact toIntS_l0 a [] (List.replicate ((a.length : Int)).toNat 0) 0 rfl (by simp) (by simp; omega)
/-! #### eqIntS -/
theorem eqIntS_l0 (r : List Int) : ∀ (s p q : List Int) (i : Int), i = p.length → p.length = q.length → r.length = s.length → p.length + r.length ≤ 9223372036854775807 →
    Ev (fun k => laws_eqIntS.l0 k (p ++ r) (q ++ s) i) (decide (r = s)) := by
  induction r with
  | nil =>
    intro s p q i hi hpq hrs hb
    obtain rfl : s = [] := List.length_eq_zero_iff.1 hrs.symm
    apply ev_up
    simp only [laws_eqIntS.l0]
    refine ev_n (by simp; omega) ?_
    simpa using Ev.now true
  | cons x r ih =>
    intro s p q i hi hpq hrs hb
    match s, hrs with
    | y :: s, hrs =>
      simp only [List.length_cons] at hrs hb
      apply ev_up
      simp only [laws_eqIntS.l0]
      refine ev_p (by simp; omega) (ev_p (by omega) (ev_p (by simp; omega) ?_))
      rw [rdA hi, rdA (by omega)]
      refine ev_ite (fun hxy => ?_) (fun hxy => ?_)
      · subst hxy
        rw [w64 (by omega) (by omega), appA, appA (p := q)]
        refine ev_eq (ih s (p ++ [x]) (q ++ [x]) (i + 1) (by simp; omega) (by simp; omega) (by omega) (by simp; omega)) ?_
        simp
      · refine ev_eq (Ev.now false) ?_
        simp [hxy]
theorem eqIntS_ev (a b : List Int) (h : a.length ≤ 9223372036854775807) : Ev (fun k => laws_eqIntS.f k a b) (decide (a = b)) := by
  unfold laws_eqIntS.f
  refine ev_ite (fun hl => ?_) (fun hl => ?_)
  · exact eqIntS_l0 a b [] [] 0 rfl rfl (by omega) (by simpa using h)
  · refine ev_eq (Ev.now false) ?_
    symm
    apply decide_eq_false
    rintro rfl
    exact hl rfl

/-! #### FnExactIsRouting -/
theorem FnExactIsRouting (l0 : (List (S63))) (l1 : (List Int)) : (l0.length ≤ 9223372036854775807 ∧ ∀ y2 ∈ l0, I64 y2.f0 ∧ I64 y2.f1) → (l1.length ≤ 9223372036854775807 ∧ ∀ y2 ∈ l1, I64 y2) → ∃ k, laws_FnExactIsRouting.f k l0 l1 = some true := by
  rintro ⟨hl, _⟩ ⟨ht, _⟩
  apply ev_get
  unfold laws_FnExactIsRouting.f
  rw [szWireS_eq l0 1048576 (by omega) (by omega) hl]
  refine ev_ite (fun _ => Ev.now _) (fun h1 => Ev.bind (ev_c rfl) (ev_ite (fun _ => Ev.now _) (fun h => ?_)))
  have hl2 := wire_pre h
  have ht2 : l1.length ≤ 1048576 := by omega
  have hto := toWireS_ev l0 hl2
  have hti := toIntS_ev l1 (by omega)
  have hlm : (l0.map cvWire).length ≤ 1048576 := by simpa using hl2
  have heq : Ev (fun k => laws_eqWireS.f k (l0.map cvWire) (l0.map cvWire)) true := by simpa using eqWireS_ev (l0.map cvWire) (l0.map cvWire) (by omega)
  have heqi : Ev (fun k => laws_eqIntS.f k l1 l1) true := by simpa using eqIntS_ev l1 l1 (by omega)
  have hs := spec_IsRouting_ev (l0.map cvWire) l1 hlm ht2
  have hi := impl_IsRouting_ev (l0.map cvWire) l1 hlm ht2
  repeat (first
    | (with_reducible exact Ev.now _)
    | (with_reducible refine Ev.bind hto ?_)
    | (with_reducible refine Ev.bind hti ?_)
    | (with_reducible refine Ev.bind hs ?_)
    | (with_reducible refine Ev.bind hi ?_)
    | (with_reducible refine Ev.bind heq ?_)
    | (with_reducible refine Ev.bind heqi ?_)
    | (with_reducible refine ev_p rfl ?_)
    | (with_reducible refine ev_p True.intro ?_)
    | (refine ev_n ?h ?_; case h => (first | omega | (simp; done) | (simp; omega)))
    | (with_reducible refine ev_up (g := fun n => laws_FnExactIsRouting.j0 n _ _ _ _ _) ?_; simp only [laws_FnExactIsRouting.j0, bne_self_eq_false]))

end Go.Proofs.Ytdhbblmkbgojfaa.Pure
