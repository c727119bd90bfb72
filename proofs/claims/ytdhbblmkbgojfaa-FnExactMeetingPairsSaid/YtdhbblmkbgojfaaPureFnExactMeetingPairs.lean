/- The pure part of the law FnExactMeetingPairs: what the program and the reference compute is the same, for all arguments. Conditions: the numbers are of Go's int, the lengths of slices are. -/
import Derived.Test.YtdhbblmkbgojfaaWalkFnExactMeetingPairs
import Derived.Test.YtdhbblmkbgojfaaKit
set_option linter.unusedVariables false
set_option linter.unusedSimpArgs false
namespace Go.Proofs.Ytdhbblmkbgojfaa.Pure
open Go.RowKit Go.Proofs.Ytdhbblmkbgojfaa.QFnExactMeetingPairs Go.Proofs.YtdhbblmkbgojfaaW.PrintWords Go.Proofs.YtdhbblmkbgojfaaW.PrintLast Go.Proofs.Ytdhbblmkbgojfaa.Open Go.Proofs.Ytdhbblmkbgojfaa.Kit

/-! #### szWireS -/
theorem szWireS_eq (l : List S63) (a : Int) (ha : 0 ≤ a) (ha2 : a ≤ 1048576) (hl : l.length ≤ 9223372036854775807) : laws_szWireS.f l a = some (if l.length ≤ a then a - l.length else -1) := by
  unfold laws_szWireS.f
  rw [w64 (by omega) (by omega)]
  by_cases h : (l.length : Int) ≤ a
  · rw [if_neg (by omega), if_pos h]
  · rw [if_pos (by omega), if_neg h]

/-! #### wirePre -/
theorem wire_pre {n : Nat} (h : ¬ (if (n : Int) ≤ 1048576 then (1048576 : Int) - n else -1) < 0) : n ≤ 1048576 := by
  by_cases h2 : (n : Int) ≤ 1048576
  · omega
  · rw [if_neg h2] at h
    exact absurd (by decide) h

/-! #### wireT -/
theorem rdLWireA {p r : List S63} {x : S63} {i : Int} (hi : i = p.length) : rd_T63 (p ++ x :: r) i = x := getDA hi
theorem rdWireA {p r : List S61} {x : S61} {i : Int} (hi : i = p.length) : rd_T61 (p ++ x :: r) i = x := getDA hi
instance decWire : DecidableEq S61 := fun a b => decidable_of_decidable_of_iff (p := a.f0 = b.f0 ∧ a.f1 = b.f1) ⟨fun h => by cases a; cases b; simp_all, fun h => by rw [h]; exact ⟨rfl, rfl⟩⟩
/-- A wire of the laws as one of the program. -/
def cvWire (x : S63) : S61 := ⟨x.f0, x.f1⟩

/-! #### toWireS -/
theorem toWireS_l0 (r : List S63) : ∀ (p : List S63) (z : List S61) (i : Int), i = p.length → z.length = r.length → p.length + r.length ≤ 9223372036854775806 →
    Ev (fun k => laws_toWireS.l0 k (p ++ r) (p.map cvWire ++ z) i) ((p ++ r).map cvWire) := by
  induction r with
  | nil =>
    intro p z i hi hz hb
    obtain rfl : z = [] := List.length_eq_zero_iff.1 hz
    apply ev_up
    simp only [laws_toWireS.l0]
    refine ev_n (by simp; omega) ?_
    simpa using Ev.now (p.map cvWire)
  | cons x r ih =>
    intro p z i hi hz hb
    match z, hz with
    | y :: z, hz =>
      simp only [List.length_cons] at hz hb
      apply ev_up
      simp only [laws_toWireS.l0]
      refine ev_p (by simp; omega) (ev_p (by omega) ?_)
      rw [rdLWireA hi]
      refine Ev.bind (ev_c (show laws_toWire.f x.f0 x.f1 = some (x.f0, x.f1) from rfl)) (ev_p (by simp; omega) ?_)
      rw [setA (by simpa using hi), w64 (by omega) (by omega), appA]
      have := ih (p ++ [x]) z (i + 1) (by simp; omega) (by omega) (by simp; omega)
      simpa [cvWire] using this
theorem toWireS_ev (a : List S63) (h : a.length ≤ 1048576) : Ev (fun k => laws_toWireS.f k a) (a.map cvWire) := by
  unfold laws_toWireS.f
  refine ev_p (by omega) (ev_p (by omega) ?_)
  exact toWireS_l0 a [] (List.replicate ((a.length : Int)).toNat z61) 0 rfl (by simp) (by simp; omega)

/-! #### eqWireS -/
theorem eqWire_eq (a b c d : Int) : laws_eqWire.f a b c d = some (decide ((⟨a, b⟩ : S61) = ⟨c, d⟩)) := by
  unfold laws_eqWire.f
  by_cases h1 : a = c
  · by_cases h2 : b = d
    · rw [if_pos h1, if_pos h2, h1, h2, decide_eq_true rfl]
    · rw [if_pos h1, if_neg h2]
      congr 1; symm
      exact decide_eq_false (fun h => h2 (by injection h))
  · rw [if_neg h1]
    congr 1; symm
    exact decide_eq_false (fun h => h1 (by injection h))
theorem eqWireS_l0 (r : List S61) : ∀ (s p q : List S61) (i : Int), i = p.length → p.length = q.length → r.length = s.length → p.length + r.length ≤ 9223372036854775807 →
    Ev (fun k => laws_eqWireS.l0 k (p ++ r) (q ++ s) i) (decide (r = s)) := by
  induction r with
  | nil =>
    intro s p q i hi hpq hrs hb
    obtain rfl : s = [] := List.length_eq_zero_iff.1 hrs.symm
    apply ev_up
    simp only [laws_eqWireS.l0]
    refine ev_n (by simp; omega) ?_
    simpa using Ev.now true
  | cons x r ih =>
    intro s p q i hi hpq hrs hb
    match s, hrs with
    | y :: s, hrs =>
      simp only [List.length_cons] at hrs hb
      apply ev_up
      simp only [laws_eqWireS.l0]
      refine ev_p (by simp; omega) (ev_p (by omega) (ev_p (by simp; omega) ?_))
      rw [rdWireA hi, rdWireA (by omega), eqWire_eq]
      refine Ev.bind (ev_c rfl) ?_
      refine ev_ite (fun hxy => ?_) (fun hxy => ?_)
      · have hxy' : x = y := of_decide_eq_true hxy
        subst hxy'
        rw [w64 (by omega) (by omega), appA, appA (p := q)]
        refine ev_eq (ih s (p ++ [x]) (q ++ [x]) (i + 1) (by simp; omega) (by simp; omega) (by omega) (by simp; omega)) ?_
        simp
      · refine ev_eq (Ev.now false) ?_
        have hxy' : ¬ x = y := fun e => hxy (decide_eq_true e)
        simp [hxy']
theorem eqWireS_ev (a b : List S61) (h : a.length ≤ 9223372036854775807) : Ev (fun k => laws_eqWireS.f k a b) (decide (a = b)) := by
  unfold laws_eqWireS.f
  refine ev_ite (fun hl => ?_) (fun hl => ?_)
  · exact eqWireS_l0 a b [] [] 0 rfl rfl (by omega) (by simpa using h)
  · refine ev_eq (Ev.now false) ?_
    symm
    apply decide_eq_false
    rintro rfl
    exact hl rfl

/-! #### allB -/
/-- f at j, j + 1, .. : d of them. -/
def allB (f : Nat → Bool) : Nat → Nat → Bool
  | _, 0 => true
  | j, d + 1 => f j && allB f (j + 1) d
theorem allB_iff (f : Nat → Bool) (d : Nat) : ∀ j, allB f j d = true ↔ ∀ x, j ≤ x → x < j + d → f x = true := by
  induction d with
  | zero => intro j; simp [allB]; intro x h1 h2; omega
  | succ d ih =>
    intro j
    rw [allB, Bool.and_eq_true, ih]
    constructor
    · rintro ⟨h1, h2⟩ x h3 h4
      by_cases e : x = j
      · rw [e]; exact h1
      · exact h2 x (by omega) (by omega)
    · intro h
      exact ⟨h j (Nat.le_refl _) (by omega), fun x h1 h2 => h x (by omega) (by omega)⟩

/-! #### routM -/
def meetB (a b : S61) : Bool := decide (a.f0 ≤ b.f1 ∧ b.f0 ≤ a.f1)
theorem spec_rtMeet_eq (a b : S61) : spec_rtMeet.f a.f0 a.f1 b.f0 b.f1 = some (meetB a b) := by
  unfold spec_rtMeet.f meetB
  by_cases h : a.f0 ≤ b.f1
  · rw [if_pos h]; simp [h]
  · rw [if_neg h]; simp [h]
theorem impl_wiresMeet_eq (a b : S61) : impl_wiresMeet.f a.f0 a.f1 b.f0 b.f1 = some (meetB a b) := by
  unfold impl_wiresMeet.f meetB
  by_cases h : a.f0 ≤ b.f1
  · rw [if_pos h]; simp [h]
  · rw [if_neg h]; simp [h]
/-- The wires i and k are in different tracks, or do not meet. -/
def okPair (l : List S61) (tr : List Int) (i k : Nat) : Bool := !(decide (rd tr i = rd tr k) && meetB (rd_T61 l i) (rd_T61 l k))
def routM (l : List S61) (tr : List Int) : Bool := allB (fun i => allB (okPair l tr i) 0 i) 0 l.length

/-! #### l1In -/
theorem l1In_eq (a b c : Int) : spec_l1In.f a b c = some (decide (b ≤ a ∧ a ≤ c)) := by
  unfold spec_l1In.f
  by_cases h : b ≤ a
  · rw [if_pos h]; simp [h]
  · rw [if_neg h]; simp [h]

/-! #### chanM -/
def goodWire (x : S61) : Bool := decide (0 ≤ x.f0 ∧ x.f0 ≤ x.f1 ∧ x.f1 ≤ 50)
def chanM (l : List S61) : Bool := decide (l.length ≤ 20) && l.all goodWire
theorem spec_rtWire_eq (a b : Int) : spec_rtWire.f a b = some (goodWire ⟨a, b⟩) := by
  unfold spec_rtWire.f
  rw [l1In_eq, Option.bind_some]
  by_cases h : 0 ≤ a ∧ a ≤ b
  · rw [decide_eq_true h, if_pos rfl, l1In_eq, Option.bind_some]
    congr 1
    exact decide_eq_decide.2 ⟨fun hh => ⟨h.1, h.2, hh.2⟩, fun hh => ⟨h.2, hh.2.2⟩⟩
  · rw [decide_eq_false h, if_neg (by decide)]
    congr 1; symm
    exact decide_eq_false (fun hh => h ⟨hh.1, hh.2.1⟩)
theorem impl_isWire_eq (a b : Int) : impl_isWire.f a b = some (goodWire ⟨a, b⟩) := by
  unfold impl_isWire.f
  by_cases h1 : a ≥ 0
  · rw [if_pos h1]
    by_cases h2 : a ≤ b
    · rw [if_pos h2]
      congr 1
      exact decide_eq_decide.2 ⟨fun hh => ⟨h1, h2, hh⟩, fun hh => hh.2.2⟩
    · rw [if_neg h2]
      congr 1; symm
      exact decide_eq_false (fun hh => h2 hh.2.1)
  · rw [if_neg h1]
    congr 1; symm
    exact decide_eq_false (fun hh => h1 hh.1)

/-! #### pairsM -/
def pairR (l : List S61) (i : Nat) : Nat → Nat → List (List Int)
  | _, 0 => []
  | j, d + 1 => (if meetB (rd_T61 l (i : Int)) (rd_T61 l (j : Int)) = true then [[(i : Int), (j : Int)]] else []) ++ pairR l i (j + 1) d
theorem pairR_length (l : List S61) (i d : Nat) : ∀ j, (pairR l i j d).length ≤ d := by
  induction d with
  | zero => intro j; simp [pairR]
  | succ d ih =>
    intro j
    have := ih (j + 1)
    rw [pairR]
    split <;> simp <;> omega
theorem pairR_rows (l : List S61) (i d : Nat) : ∀ j, ∀ y ∈ pairR l i j d, y.length = 2 := by
  induction d with
  | zero => intro j y hy; simp [pairR] at hy
  | succ d ih =>
    intro j y hy
    rw [pairR, List.mem_append] at hy
    rcases hy with hy | hy
    · split at hy
      · rw [List.mem_singleton] at hy
        rw [hy]
        rfl
      · simp at hy
    · exact ih (j + 1) y hy
def pairsR (l : List S61) : Nat → Nat → List (List Int)
  | _, 0 => []
  | i, d + 1 => pairR l i (i + 1) d ++ pairsR l (i + 1) d
theorem pairsR_length (l : List S61) (N d : Nat) (hd : d ≤ N) : ∀ i, (pairsR l i d).length ≤ N * d := by
  induction d with
  | zero => intro i; simp [pairsR]
  | succ d ih =>
    intro i
    have h1 := ih (by omega) (i + 1)
    have h2 := pairR_length l i d (i + 1)
    have h3 : N * (d + 1) = N * d + N := Nat.mul_succ N d
    rw [pairsR, List.length_append]
    omega
theorem pairsR_rows (l : List S61) (d : Nat) : ∀ i, ∀ y ∈ pairsR l i d, y.length = 2 := by
  induction d with
  | zero => intro i y hy; simp [pairsR] at hy
  | succ d ih =>
    intro i y hy
    rw [pairsR, List.mem_append] at hy
    rcases hy with hy | hy
    · exact pairR_rows l i d (i + 1) y hy
    · exact ih (i + 1) y hy
def meetingPairsM (l : List S61) : List (List Int) × Bool := if chanM l = true then (pairsR l 0 l.length, true) else ([], false)
theorem chan20 {l : List S61} (h : chanM l = true) : l.length ≤ 20 := by
  unfold chanM at h
  rw [Bool.and_eq_true] at h
  exact of_decide_eq_true h.1
theorem meetingPairsM_length (l : List S61) : (meetingPairsM l).1.length ≤ 400 ∧ ∀ y ∈ (meetingPairsM l).1, y.length ≤ 2 := by
  unfold meetingPairsM
  split
  · rename_i h
    have h20 := chan20 h
    have := pairsR_length l 20 l.length h20 0
    exact ⟨by simp only; omega, fun y hy => by rw [pairsR_rows l l.length 0 y hy]; exact Nat.le_refl _⟩
  · simp

/-! #### spec_rtGood -/
theorem spec_rtGood_l0 (l : List S61) (hl : l.length ≤ 9223372036854775807) (r : List S61) : ∀ (p : List S61) (i : Int), i = p.length → l = p ++ r →
    Ev (fun k => spec_rtGood.l0 k l l l.length i) (decide (l.length ≤ 20) && r.all goodWire) := by
  induction r with
  | nil =>
    intro p i hi e
    have hlen : l.length = p.length := by rw [e]; simp
    apply ev_up
    simp only [spec_rtGood.l0]
    refine ev_n (by omega) (ev_eq (Ev.now _) ?_)
    rw [List.all_nil, Bool.and_true]
    exact decide_eq_decide.2 (by omega)
  | cons x r ih =>
    intro p i hi e
    have hlen : l.length = p.length + r.length + 1 := by rw [e]; simp; omega
    have hx : rd_T61 l i = x := by rw [e]; exact rdWireA hi
    have ih' := ih (p ++ [x]) (i + 1) (by simp; omega) (by rw [e]; simp)
    apply ev_up
    simp only [spec_rtGood.l0]
    refine ev_p (by omega) (ev_p (by omega) (ev_p (by omega) ?_))
    rw [hx, spec_rtWire_eq]
    refine Ev.bind (ev_c rfl) ?_
    have ex : (⟨x.f0, x.f1⟩ : S61) = x := rfl
    rw [ex]
    refine ev_ite (fun h => ?_) (fun h => ?_)
    · rw [w64 (by omega) (by omega)]
      refine ev_eq ih' ?_
      rw [List.all_cons, h, Bool.true_and]
    · refine ev_eq (Ev.now _) ?_
      have h' : goodWire x = false := by simpa using h
      rw [List.all_cons, h', Bool.false_and, Bool.and_false]
theorem spec_rtGood_ev (l : List S61) (hl : l.length ≤ 9223372036854775807) : Ev (fun k => spec_rtGood.f k l) (chanM l) := by
  unfold spec_rtGood.f chanM
  exact spec_rtGood_l0 l hl l [] 0 rfl rfl

/-! #### spec_MeetingPairs -/
theorem spec_MeetingPairs_l1 (l : List S61) (hl : l.length ≤ 20) (i : Nat) (hi : i < l.length) (R : List (List Int) × Bool) (d : Nat) : ∀ (j : Nat) (acc : List (List Int)), j + d = l.length → acc.length + d ≤ 1000000 →
    Ev (fun k => spec_MeetingPairs.l0 k l (acc ++ pairR l i j d) l l.length (wrap64 ((i : Int) + 1))) R → Ev (fun k => spec_MeetingPairs.l1 k l acc i j l l.length i (rd_T61 l (i : Int)).f0 (rd_T61 l (i : Int)).f1) R := by
  induction d with
  | zero =>
    intro j acc hj ha h
    rw [pairR, List.append_nil] at h
    apply ev_up
    simp only [spec_MeetingPairs.l1]
    exact ev_n (by omega) h
  | succ d ih =>
    intro j acc hj ha h
    rw [pairR] at h
    apply ev_up
    simp only [spec_MeetingPairs.l1]
    rw [spec_rtMeet_eq, wN (n := (j : Int) + 1) (m := j + 1) (by omega) (by omega)]
    refine ev_p (by omega) (ev_p (by omega) (Ev.bind (ev_c rfl) (ev_ite (fun c => ev_p (by omega) ?_) (fun c => ?_))))
    · rw [if_pos c] at h
      refine ih (j + 1) _ (by omega) (by simp; omega) ?_
      simpa using h
    · rw [if_neg c, List.nil_append] at h
      exact ih (j + 1) acc (by omega) (by omega) h
theorem spec_MeetingPairs_l0 (l : List S61) (hl : l.length ≤ 20) (d : Nat) : ∀ (i : Nat) (acc : List (List Int)), i + d = l.length → acc.length ≤ 20 * i →
    Ev (fun k => spec_MeetingPairs.l0 k l acc l l.length i) (acc ++ pairsR l i d, true) := by
  induction d with
  | zero =>
    intro i acc hi ha
    apply ev_up
    simp only [spec_MeetingPairs.l0]
    rw [pairsR, List.append_nil]
    exact ev_n (by omega) (Ev.now _)
  | succ d ih =>
    intro i acc hi ha
    have hp := pairR_length l i d (i + 1)
    apply ev_up
    simp only [spec_MeetingPairs.l0]
    rw [wN (n := (i : Int) + 1) (m := i + 1) (by omega) (by omega)]
    refine ev_p (by omega) (ev_p (by omega) (ev_p (by omega) ?_))
    refine spec_MeetingPairs_l1 l hl i (by omega) _ d (i + 1) acc (by omega) (by omega) ?_
    rw [wN (n := (i : Int) + 1) (m := i + 1) (by omega) (by omega)]
    refine ev_eq (ih (i + 1) _ (by omega) (by simp; omega)) ?_
    rw [pairsR, List.append_assoc]
theorem spec_MeetingPairs_ev (l : List S61) (hl : l.length ≤ 1048576) : Ev (fun k => spec_MeetingPairs.f k l) (meetingPairsM l) := by
  unfold spec_MeetingPairs.f meetingPairsM
  refine Ev.bind (spec_rtGood_ev l (by omega)) (ev_ite (fun h => ?_) (fun h => ?_))
  · rw [if_pos h]
    have := spec_MeetingPairs_l0 l (chan20 h) l.length 0 [] (by omega) (by simp)
    rw [List.nil_append] at this
    exact this
  · rw [if_neg h]
    exact Ev.now _

/-! #### impl_AreChannelWires -/
theorem impl_AreChannelWires_l0 (l : List S61) (hl : l.length ≤ 9223372036854775807) (r : List S61) : ∀ (p : List S61) (i : Int), i = p.length → l = p ++ r →
    Ev (fun k => impl_AreChannelWires.l0 k l l.length i) (r.all goodWire) := by
  induction r with
  | nil =>
    intro p i hi e
    have hlen : l.length = p.length := by rw [e]; simp
    apply ev_up
    simp only [impl_AreChannelWires.l0]
    exact ev_n (by omega) (Ev.now _)
  | cons x r ih =>
    intro p i hi e
    have hlen : l.length = p.length + r.length + 1 := by rw [e]; simp; omega
    have hx : rd_T61 l i = x := by rw [e]; exact rdWireA hi
    have ih' := ih (p ++ [x]) (i + 1) (by simp; omega) (by rw [e]; simp)
    apply ev_up
    simp only [impl_AreChannelWires.l0]
    refine ev_p (by omega) (ev_p (by omega) (ev_p (by omega) ?_))
    rw [hx, impl_isWire_eq]
    refine Ev.bind (ev_c rfl) ?_
    have ex : (⟨x.f0, x.f1⟩ : S61) = x := rfl
    rw [ex]
    refine ev_ite (fun h => ?_) (fun h => ?_)
    · rw [w64 (by omega) (by omega)]
      refine ev_eq ih' ?_
      rw [List.all_cons, h, Bool.true_and]
    · refine ev_eq (Ev.now _) ?_
      have h' : goodWire x = false := by simpa using h
      rw [List.all_cons, h', Bool.false_and]
theorem impl_AreChannelWires_ev (l : List S61) (hl : l.length ≤ 9223372036854775807) : Ev (fun k => impl_AreChannelWires.f k l) (chanM l) := by
  unfold impl_AreChannelWires.f chanM
  refine ev_ite (fun h => ?_) (fun h => ?_)
  · rw [decide_eq_false (by omega), Bool.false_and]
    exact Ev.now _
  · rw [decide_eq_true (by omega), Bool.true_and]
    exact impl_AreChannelWires_l0 l hl l [] 0 rfl rfl

/-! #### impl_MeetingPairs -/
theorem impl_MeetingPairs_l1 (l : List S61) (hl : l.length ≤ 20) (i : Nat) (hi : i < l.length) (R : List (List Int) × Bool) (d : Nat) : ∀ (j : Nat) (acc : List (List Int)), j + d = l.length → acc.length + d ≤ 1000000 →
    Ev (fun k => impl_MeetingPairs.l0 k l (acc ++ pairR l i j d) l.length (wrap64 ((i : Int) + 1))) R → Ev (fun k => impl_MeetingPairs.l1 k l acc i j l.length i) R := by
  induction d with
  | zero =>
    intro j acc hj ha h
    rw [pairR, List.append_nil] at h
    apply ev_up
    simp only [impl_MeetingPairs.l1]
    exact ev_n (by omega) h
  | succ d ih =>
    intro j acc hj ha h
    rw [pairR] at h
    apply ev_up
    simp only [impl_MeetingPairs.l1]
    rw [impl_wiresMeet_eq, wN (n := (j : Int) + 1) (m := j + 1) (by omega) (by omega)]
    refine ev_p (by omega) (ev_p (by omega) (ev_p (by omega) (ev_p (by omega) (Ev.bind (ev_c rfl) (ev_ite (fun c => ev_p (by omega) ?_) (fun c => ?_))))))
    · rw [if_pos c] at h
      refine ih (j + 1) _ (by omega) (by simp; omega) ?_
      simpa using h
    · rw [if_neg c, List.nil_append] at h
      exact ih (j + 1) acc (by omega) (by omega) h
theorem impl_MeetingPairs_l0 (l : List S61) (hl : l.length ≤ 20) (d : Nat) : ∀ (i : Nat) (acc : List (List Int)), i + d = l.length → acc.length ≤ 20 * i →
    Ev (fun k => impl_MeetingPairs.l0 k l acc l.length i) (acc ++ pairsR l i d, true) := by
  induction d with
  | zero =>
    intro i acc hi ha
    apply ev_up
    simp only [impl_MeetingPairs.l0]
    rw [pairsR, List.append_nil]
    exact ev_n (by omega) (Ev.now _)
  | succ d ih =>
    intro i acc hi ha
    have hp := pairR_length l i d (i + 1)
    apply ev_up
    simp only [impl_MeetingPairs.l0]
    rw [wN (n := (i : Int) + 1) (m := i + 1) (by omega) (by omega)]
    refine ev_p (by omega) ?_
    refine impl_MeetingPairs_l1 l hl i (by omega) _ d (i + 1) acc (by omega) (by omega) ?_
    rw [wN (n := (i : Int) + 1) (m := i + 1) (by omega) (by omega)]
    refine ev_eq (ih (i + 1) _ (by omega) (by simp; omega)) ?_
    rw [pairsR, List.append_assoc]
theorem impl_MeetingPairs_ev (l : List S61) (hl : l.length ≤ 1048576) : Ev (fun k => impl_MeetingPairs.f k l) (meetingPairsM l) := by
  unfold impl_MeetingPairs.f meetingPairsM
  refine Ev.bind (impl_AreChannelWires_ev l (by omega)) (ev_ite (fun h => ?_) (fun h => ?_))
  · rw [if_pos h]
    have := impl_MeetingPairs_l0 l (chan20 h) l.length 0 [] (by omega) (by simp)
    rw [List.nil_append] at this
    exact this
  · rw [if_neg h]
    exact Ev.now _

/-! #### eqIntS -/
theorem eqIntS_l0 (r : List Int) : ∀ (s p q : List Int) (i : Int), i = p.length → p.length = q.length → r.length = s.length → p.length + r.length ≤ 9223372036854775807 →
    Ev (fun k => laws_eqIntS.l0 k (p ++ r) (q ++ s) i) (decide (r = s)) := by
  induction r with
  | nil =>
    intro s p q i hi hpq hrs hb
    obtain rfl : s = [] := List.length_eq_zero_iff.1 hrs.symm
    apply ev_up
    simp only [laws_eqIntS.l0]
    refine ev_n (by simp; omega) ?_
    simpa using Ev.now true
  | cons x r ih =>
    intro s p q i hi hpq hrs hb
    match s, hrs with
    | y :: s, hrs =>
      simp only [List.length_cons] at hrs hb
      apply ev_up
      simp only [laws_eqIntS.l0]
      refine ev_p (by simp; omega) (ev_p (by omega) (ev_p (by simp; omega) ?_))
      rw [rdA hi, rdA (by omega)]
      refine ev_ite (fun hxy => ?_) (fun hxy => ?_)
      · subst hxy
        rw [w64 (by omega) (by omega), appA, appA (p := q)]
        refine ev_eq (ih s (p ++ [x]) (q ++ [x]) (i + 1) (by simp; omega) (by simp; omega) (by omega) (by simp; omega)) ?_
        simp
      · refine ev_eq (Ev.now false) ?_
        simp [hxy]
theorem eqIntS_ev (a b : List Int) (h : a.length ≤ 9223372036854775807) : Ev (fun k => laws_eqIntS.f k a b) (decide (a = b)) := by
  unfold laws_eqIntS.f
  refine ev_ite (fun hl => ?_) (fun hl => ?_)
  · exact eqIntS_l0 a b [] [] 0 rfl rfl (by omega) (by simpa using h)
  · refine ev_eq (Ev.now false) ?_
    symm
    apply decide_eq_false
    rintro rfl
    exact hl rfl

/-! #### rdII -/
theorem rdIIA {p r : List (List Int)} {x : List Int} {i : Int} (hi : i = p.length) : rd_L3 (p ++ x :: r) i = x := getDA hi

/-! #### eqIntSS -/
theorem eqIntSS_l0 (r : List (List Int)) : ∀ (s p q : List (List Int)) (i : Int), i = p.length → p.length = q.length → r.length = s.length → p.length + r.length ≤ 9223372036854775807 → (∀ y ∈ r, y.length ≤ 9223372036854775807) →
    Ev (fun k => laws_eqIntSS.l0 k (p ++ r) (q ++ s) i) (decide (r = s)) := by
  induction r with
  | nil =>
    intro s p q i hi hpq hrs hb hy
    obtain rfl : s = [] := List.length_eq_zero_iff.1 hrs.symm
    apply ev_up
    simp only [laws_eqIntSS.l0]
    refine ev_n (by simp; omega) ?_
    simpa using Ev.now true
  | cons x r ih =>
    intro s p q i hi hpq hrs hb hy
    match s, hrs with
    | y :: s, hrs =>
      simp only [List.length_cons] at hrs hb
      apply ev_up
      simp only [laws_eqIntSS.l0]
      refine ev_p (by simp; omega) (ev_p (by omega) (ev_p (by simp; omega) ?_))
      rw [rdIIA hi, rdIIA (by omega)]
      refine Ev.bind (eqIntS_ev x y (hy x (by simp))) ?_
      refine ev_ite (fun hxy => ?_) (fun hxy => ?_)
      · obtain rfl := of_decide_eq_true hxy
        rw [w64 (by omega) (by omega), appA, appA (p := q)]
        refine ev_eq (ih s (p ++ [x]) (q ++ [x]) (i + 1) (by simp; omega) (by simp; omega) (by omega) (by simp; omega) (fun y h => hy y (by simp [h]))) ?_
        simp
      · refine ev_eq (Ev.now false) ?_
        have hxy' : ¬ x = y := fun e => hxy (decide_eq_true e)
        simp [hxy']
theorem eqIntSS_ev (a b : List (List Int)) (h : a.length ≤ 9223372036854775807) (hy : ∀ y ∈ a, y.length ≤ 9223372036854775807) : Ev (fun k => laws_eqIntSS.f k a b) (decide (a = b)) := by
  unfold laws_eqIntSS.f
  refine ev_ite (fun hl => ?_) (fun hl => ?_)
  · exact eqIntSS_l0 a b [] [] 0 rfl rfl (by omega) (by simpa using h) hy
  · refine ev_eq (Ev.now false) ?_
    symm
    apply decide_eq_false
    rintro rfl
    exact hl rfl

/-! #### markWireS -/
/-- Marked wires: some others, of as many. -/
theorem markWireS_l0 (r : List S61) : ∀ (p : List S61) (s i : Int), i = p.length → p.length + r.length ≤ 1048576 → 0 ≤ s → s + 2 * r.length ≤ 4194304 →
    ∃ t, Ev (fun k => laws_markWireS.l0 k (p ++ r) s i) (s + 2 * r.length, t) := by
  induction r with
  | nil =>
    intro p s i hi hb h0 hs
    refine ⟨p, ?_⟩
    apply ev_up
    simp only [laws_markWireS.l0]
    refine ev_n (by simp; omega) ?_
    simpa using Ev.now (s, p)
  | cons x r ih =>
    intro p s i hi hb h0 hs
    simp only [List.length_cons, Int.natCast_add] at hb hs
    obtain ⟨t, ht⟩ := ih (p ++ [⟨s, s + 1⟩]) (s + 1 + 1) (i + 1) (by simp; omega) (by simp; omega) (by omega) (by omega)
    refine ⟨t, ?_⟩
    apply ev_up
    simp only [laws_markWireS.l0]
    refine ev_p (by simp; omega) (ev_p (by omega) (Ev.bind (ev_c rfl) ?_))
    rw [rdWireA hi, setB hi, rdWireA hi, setA hi, w64 (n := s + 1) (by omega) (by omega), w64 (n := s + 1 + 1) (by omega) (by omega), w64 (n := i + 1) (by omega) (by omega)]
    refine ev_eq ht ?_
    simp only [List.length_cons, Prod.mk.injEq, and_true]
    omega
theorem markWireS_ev (a : List S61) (h : a.length ≤ 1048576) : ∃ t, Ev (fun k => laws_markWireS.f k a 1) (1 + 2 * a.length, t) := by
  unfold laws_markWireS.f
  exact markWireS_l0 a [] 1 0 rfl (by simpa using h) (by omega) (by omega)

/-! #### markIntS -/
theorem markIntS_l0 (r : List Int) : ∀ (p : List Int) (s i : Int), i = p.length → p.length + r.length ≤ 9223372036854775807 → 0 ≤ s → s + r.length ≤ 9223372036854775807 →
    Ev (fun k => laws_markIntS.l0 k (p ++ r) s i) (s + r.length, p ++ seqFrom s r.length) := by
  induction r with
  | nil =>
    intro p s i hi hb h0 hs
    apply ev_up
    simp only [laws_markIntS.l0]
    refine ev_n (by simp; omega) ?_
    simpa [seqFrom] using Ev.now (s, p)
  | cons x r ih =>
    intro p s i hi hb h0 hs
    simp only [List.length_cons, Int.natCast_add] at hb hs
    apply ev_up
    simp only [laws_markIntS.l0]
    refine ev_p (by simp; omega) (ev_p (by omega) ?_)
    rw [setA hi, w64 (by omega) (by omega), w64 (by omega) (by omega)]
    refine ev_eq (ih (p ++ [s]) (s + 1) (i + 1) (by simp; omega) (by simp; omega) (by omega) (by omega)) ?_
    simp [seqFrom]
    omega
theorem markIntS_ev (a : List Int) (s : Int) (h0 : 0 ≤ s) (h : a.length + s ≤ 9223372036854775807) : Ev (fun k => laws_markIntS.f k a s) (s + a.length, seqFrom s a.length) := by
  unfold laws_markIntS.f
  exact markIntS_l0 a [] s 0 rfl (by simp; omega) h0 (by omega)

/-! #### heldIntS -/
theorem heldIntS_l0 (n : Nat) : ∀ (p : List Int) (s i : Int), i = p.length → p.length + n ≤ 9223372036854775807 → 0 ≤ s → s + n ≤ 9223372036854775807 →
    Ev (fun k => laws_heldIntS.l0 k (p ++ seqFrom s n) s i) (s + n) := by
  induction n with
  | zero =>
    intro p s i hi hb h0 hs
    apply ev_up
    simp only [laws_heldIntS.l0]
    refine ev_n (by simp [seqFrom]; omega) ?_
    simpa [seqFrom] using Ev.now s
  | succ n ih =>
    intro p s i hi hb h0 hs
    apply ev_up
    simp only [laws_heldIntS.l0]
    have hl := seqFrom_length s (n + 1)
    refine ev_p (by simp [hl]; omega) (ev_p (by omega) ?_)
    refine ev_p (by simp only [seqFrom]; exact rdA hi) ?_
    simp only [seqFrom]
    rw [appA, w64 (by omega) (by omega), w64 (by omega) (by omega)]
    refine ev_eq (ih (p ++ [s]) (s + 1) (i + 1) (by simp; omega) (by simp; omega) (by omega) (by omega)) ?_
    omega
theorem heldIntS_ev (n : Nat) (s : Int) (h0 : 0 ≤ s) (h : n + s ≤ 9223372036854775807) : Ev (fun k => laws_heldIntS.f k (seqFrom s n) s) (s + n) := by
  unfold laws_heldIntS.f
  exact heldIntS_l0 n [] s 0 rfl (by simp; omega) h0 (by omega)

/-! #### markIntSS -/
def totL : List (List Int) → Nat
  | [] => 0
  | x :: r => x.length + totL r
theorem totL_le {l : List (List Int)} {M : Nat} (h : ∀ y ∈ l, y.length ≤ M) : totL l ≤ l.length * M := by
  induction l with
  | nil => simp [totL]
  | cons x r ih =>
    have h1 := h x (by simp)
    have h2 := ih (fun y hy => h y (by simp [hy]))
    rw [totL, List.length_cons, Nat.succ_mul]
    omega
/-- The marks: rows as long as before, the numbers from s on. -/
def markSS : Int → List (List Int) → List (List Int)
  | _, [] => []
  | s, x :: r => seqFrom s x.length :: markSS (s + x.length) r
theorem markSS_length (r : List (List Int)) : ∀ s, (markSS s r).length = r.length := by
  induction r with
  | nil => intro s; rfl
  | cons x r ih => intro s; rw [markSS, List.length_cons, List.length_cons, ih]
theorem markIntSS_l0 (r : List (List Int)) : ∀ (p : List (List Int)) (s i : Int), i = p.length → p.length + r.length ≤ 1048576 → 0 ≤ s → s + totL r ≤ 9000000000000000000 →
    Ev (fun k => laws_markIntSS.l0 k (p ++ r) s i) (s + totL r, p ++ markSS s r) := by
  induction r with
  | nil =>
    intro p s i hi hb h0 hs
    apply ev_up
    simp only [laws_markIntSS.l0]
    refine ev_n (by simp; omega) ?_
    simpa [markSS, totL] using Ev.now (s, p)
  | cons x r ih =>
    intro p s i hi hb h0 hs
    rw [totL] at hs
    simp only [List.length_cons] at hb
    have ht := ih (p ++ [seqFrom s x.length]) (s + x.length) (i + 1) (by simp; omega) (by simp; omega) (by omega) (by omega)
    apply ev_up
    simp only [laws_markIntSS.l0]
    refine ev_p (by simp; omega) (ev_p (by omega) ?_)
    rw [rdIIA hi]
    have e : ∀ v : List Int, (p ++ x :: r).set (i : Int).toNat v = p ++ [v] ++ r := fun v => by rw [setA hi]
    refine Ev.bind (markIntS_ev x s h0 (by omega)) ?_
    dsimp only
    rw [e, w64 (n := i + 1) (by omega) (by omega)]
    refine ev_eq ht ?_
    rw [totL, markSS, List.append_assoc]
    refine Prod.ext ?_ rfl
    simp only
    omega
theorem markIntSS_ev (a : List (List Int)) (h : a.length ≤ 1048576) (hy : ∀ y ∈ a, y.length ≤ 1048576) : Ev (fun k => laws_markIntSS.f k a 1) (1 + totL a, markSS 1 a) := by
  unfold laws_markIntSS.f
  have := totL_le hy
  exact markIntSS_l0 a [] 1 0 rfl (by simpa using h) (by omega) (by omega)

/-! #### heldIntSS -/
theorem heldIntSS_l0 (r : List (List Int)) : ∀ (p : List (List Int)) (s i : Int), i = p.length → p.length + r.length ≤ 1048576 → 0 ≤ s → s + totL r ≤ 9000000000000000000 →
    Ev (fun k => laws_heldIntSS.l0 k (p ++ markSS s r) s i) (s + totL r) := by
  induction r with
  | nil =>
    intro p s i hi hb h0 hs
    apply ev_up
    simp only [laws_heldIntSS.l0]
    exact ev_n (by simp [markSS]; omega) (ev_eq (Ev.now _) (by simp [totL]))
  | cons x r ih =>
    intro p s i hi hb h0 hs
    rw [totL] at hs
    simp only [List.length_cons] at hb
    have ht := ih (p ++ [seqFrom s x.length]) (s + x.length) (i + 1) (by simp; omega) (by simp; omega) (by omega) (by omega)
    apply ev_up
    simp only [laws_heldIntSS.l0]
    refine ev_p (by simp [markSS]; omega) (ev_p (by omega) ?_)
    rw [markSS, rdIIA hi]
    refine Ev.bind (heldIntS_ev x.length s h0 (by omega)) (ev_n (by omega) ?_)
    rw [w64 (n := i + 1) (by omega) (by omega), appA]
    refine ev_eq ht ?_
    rw [totL]
    omega
theorem heldIntSS_ev (a : List (List Int)) (h : a.length ≤ 1048576) (hy : ∀ y ∈ a, y.length ≤ 1048576) : Ev (fun k => laws_heldIntSS.f k (markSS 1 a) 1) (1 + totL a) := by
  unfold laws_heldIntSS.f
  have := totL_le hy
  exact heldIntSS_l0 a [] 1 0 rfl (by simpa using h) (by omega) (by omega)

/-! #### FnExactMeetingPairs -/
theorem FnExactMeetingPairs (l0 : (List (S63))) : (l0.length ≤ 9223372036854775807 ∧ ∀ y2 ∈ l0, I64 y2.f0 ∧ I64 y2.f1) → ∃ k, laws_FnExactMeetingPairs.f k l0 = some true := by
  rintro ⟨hl, _⟩
  apply ev_get
  unfold laws_FnExactMeetingPairs.f
  rw [szWireS_eq l0 1048576 (by omega) (by omega) hl]
  refine Ev.bind (ev_c rfl) (ev_ite (fun _ => Ev.now _) (fun h => ?_))
  have hl2 := wire_pre h
  have hto := toWireS_ev l0 hl2
  have hlm : (l0.map cvWire).length ≤ 1048576 := by simpa using hl2
  have heq : Ev (fun k => laws_eqWireS.f k (l0.map cvWire) (l0.map cvWire)) true := by simpa using eqWireS_ev (l0.map cvWire) (l0.map cvWire) (by omega)
  have hs := spec_MeetingPairs_ev (l0.map cvWire) hlm
  have hi := impl_MeetingPairs_ev (l0.map cvWire) hlm
  obtain ⟨hR1, hR2⟩ := meetingPairsM_length (l0.map cvWire)
  generalize meetingPairsM (l0.map cvWire) = R at hs hi hR1 hR2
  have heqR : Ev (fun k => laws_eqIntSS.f k R.1 R.1) true := by simpa using eqIntSS_ev R.1 R.1 (by omega) (fun y h => by have := hR2 y h; omega)
  have hmr := markIntSS_ev R.1 (by omega) (fun y h => by have := hR2 y h; omega)
  have hhr := heldIntSS_ev R.1 (by omega) (fun y h => by have := hR2 y h; omega)
  obtain ⟨t, hmw⟩ := markWireS_ev (l0.map cvWire) hlm
  repeat (first
    | (with_reducible exact Ev.now _)
    | (with_reducible refine Ev.bind hto ?_)
    | (with_reducible refine Ev.bind hs ?_)
    | (with_reducible refine Ev.bind hi ?_)
    | (with_reducible refine Ev.bind heq ?_)
    | (with_reducible refine Ev.bind heqR ?_)
    | (with_reducible refine Ev.bind hmr ?_)
    | (with_reducible refine Ev.bind hhr ?_)
    | (with_reducible refine Ev.bind hmw ?_)
    | (with_reducible refine ev_p rfl ?_)
    | (with_reducible refine ev_p True.intro ?_)
    | (refine ev_n ?h ?_; case h => (first | omega | (simp; done) | (simp; omega))))

end Go.Proofs.Ytdhbblmkbgojfaa.Pure
