/- The pure part of the law FnExactMostInTrack: what the program and the reference compute is the same, for all arguments. Conditions: the numbers are of Go's int, the lengths of slices are. -/
import Derived.Test.YtoacnogdjmdicaaPFnExactMostInTrackx4
import Derived.Test.YtoacnogdjmdicaaKit
set_option linter.unusedVariables false
set_option linter.unusedSimpArgs false
namespace Go.Proofs.Ytoacnogdjmdicaa.Pure
open Go.RowKit Go.Proofs.Ytoacnogdjmdicaa.PFnExactMostInTrack Go.Proofs.YtoacnogdjmdicaaW.PrintWords Go.Proofs.YtoacnogdjmdicaaW.PrintLast Go.Proofs.Ytoacnogdjmdicaa.Open Go.Proofs.Ytoacnogdjmdicaa.Kit

/-! #### szWireS -/
theorem szWireS_eq (l : List S113) (a : Int) (ha : 0 ≤ a) (ha2 : a ≤ 1048576) (hl : l.length ≤ 9223372036854775807) : laws_szWireS.f l a = some (if l.length ≤ a then a - l.length else -1) := by
  unfold laws_szWireS.f
  rw [w64 (by omega) (by omega)]
  by_cases h : (l.length : Int) ≤ a
  · rw [if_neg (by omega), if_pos h]
  · rw [if_pos (by omega), if_neg h]

/-! #### wirePre -/
theorem wire_pre {n : Nat} (h : ¬ (if (n : Int) ≤ 1048576 then (1048576 : Int) - n else -1) < 0) : n ≤ 1048576 := by
  by_cases h2 : (n : Int) ≤ 1048576
  · omega
  · rw [if_neg h2] at h
    exact absurd (by decide) h

/-! #### wireT -/
theorem rdLWireA {p r : List S113} {x : S113} {i : Int} (hi : i = p.length) : rd_T113 (p ++ x :: r) i = x := getDA hi
theorem rdWireA {p r : List S111} {x : S111} {i : Int} (hi : i = p.length) : rd_T111 (p ++ x :: r) i = x := getDA hi
instance decWire : DecidableEq S111 := fun a b => decidable_of_decidable_of_iff (p := a.f0 = b.f0 ∧ a.f1 = b.f1) ⟨fun h => by cases a; cases b; simp_all, fun h => by rw [h]; exact ⟨rfl, rfl⟩⟩
/-- A wire of the laws as one of the program. -/
def cvWire (x : S113) : S111 := ⟨x.f0, x.f1⟩

/-! #### toWireS -/
theorem toWireS_l0 (r : List S113) : ∀ (p : List S113) (z : List S111) (i : Int), i = p.length → z.length = r.length → p.length + r.length ≤ 9223372036854775806 →
    Ev (fun k => laws_toWireS.l0 k (p ++ r) (p.map cvWire ++ z) i) ((p ++ r).map cvWire) := by
  induction r with
  | nil =>
    intro p z i hi hz hb
    obtain rfl : z = [] := List.length_eq_zero_iff.1 hz
    apply ev_up
    simp only [laws_toWireS.l0]
    refine ev_n (by simp; omega) ?_
    simpa using Ev.now (p.map cvWire)
  | cons x r ih =>
    intro p z i hi hz hb
    match z, hz with
    | y :: z, hz =>
      simp only [List.length_cons] at hz hb
      apply ev_up
      simp only [laws_toWireS.l0]
      refine ev_p (by simp; omega) (ev_p (by omega) ?_)
      rw [rdLWireA hi]
      refine Ev.bind (ev_c (show laws_toWire.f x.f0 x.f1 = some (x.f0, x.f1) from rfl)) (ev_p (by simp; omega) ?_)
      rw [setA (by simpa using hi), w64 (by omega) (by omega), appA]
      have := ih (p ++ [x]) z (i + 1) (by simp; omega) (by omega) (by simp; omega)
      simpa [cvWire] using this
theorem toWireS_ev (a : List S113) (h : a.length ≤ 1048576) : Ev (fun k => laws_toWireS.f k a) (a.map cvWire) := by
  unfold laws_toWireS.f
  refine ev_p (by omega) (ev_p (by omega) ?_)
  exact toWireS_l0 a [] (List.replicate ((a.length : Int)).toNat z111) 0 rfl (by simp) (by simp; omega)

/-! #### eqWireS -/
theorem eqWire_eq (a b c d : Int) : laws_eqWire.f a b c d = some (decide ((⟨a, b⟩ : S111) = ⟨c, d⟩)) := by
  unfold laws_eqWire.f
  by_cases h1 : a = c
  · by_cases h2 : b = d
    · rw [if_pos h1, if_pos h2, h1, h2, decide_eq_true rfl]
    · rw [if_pos h1, if_neg h2]
      congr 1; symm
      exact decide_eq_false (fun h => h2 (by injection h))
  · rw [if_neg h1]
    congr 1; symm
    exact decide_eq_false (fun h => h1 (by injection h))
theorem eqWireS_l0 (r : List S111) : ∀ (s p q : List S111) (i : Int), i = p.length → p.length = q.length → r.length = s.length → p.length + r.length ≤ 9223372036854775807 →
    Ev (fun k => laws_eqWireS.l0 k (p ++ r) (q ++ s) i) (decide (r = s)) := by
  induction r with
  | nil =>
    intro s p q i hi hpq hrs hb
    obtain rfl : s = [] := List.length_eq_zero_iff.1 hrs.symm
    apply ev_up
    simp only [laws_eqWireS.l0]
    refine ev_n (by simp; omega) ?_
    simpa using Ev.now true
  | cons x r ih =>
    intro s p q i hi hpq hrs hb
    match s, hrs with
    | y :: s, hrs =>
      simp only [List.length_cons] at hrs hb
      apply ev_up
      simp only [laws_eqWireS.l0]
      refine ev_p (by simp; omega) (ev_p (by omega) (ev_p (by simp; omega) ?_))
      rw [rdWireA hi, rdWireA (by omega), eqWire_eq]
      refine Ev.bind (ev_c rfl) ?_
      refine ev_ite (fun hxy => ?_) (fun hxy => ?_)
      · have hxy' : x = y := of_decide_eq_true hxy
        subst hxy'
        rw [w64 (by omega) (by omega), appA, appA (p := q)]
        refine ev_eq (ih s (p ++ [x]) (q ++ [x]) (i + 1) (by simp; omega) (by simp; omega) (by omega) (by simp; omega)) ?_
        simp
      · refine ev_eq (Ev.now false) ?_
        have hxy' : ¬ x = y := fun e => hxy (decide_eq_true e)
        simp [hxy']
theorem eqWireS_ev (a b : List S111) (h : a.length ≤ 9223372036854775807) : Ev (fun k => laws_eqWireS.f k a b) (decide (a = b)) := by
  unfold laws_eqWireS.f
  refine ev_ite (fun hl => ?_) (fun hl => ?_)
  · exact eqWireS_l0 a b [] [] 0 rfl rfl (by omega) (by simpa using h)
  · refine ev_eq (Ev.now false) ?_
    symm
    apply decide_eq_false
    rintro rfl
    exact hl rfl

/-! #### l1In -/
theorem l1In_eq (a b c : Int) : spec_l1In.f a b c = some (decide (b ≤ a ∧ a ≤ c)) := by
  unfold spec_l1In.f
  by_cases h : b ≤ a
  · rw [if_pos h]; simp [h]
  · rw [if_neg h]; simp [h]

/-! #### chanM -/
def goodWire (x : S111) : Bool := decide (0 ≤ x.f0 ∧ x.f0 ≤ x.f1 ∧ x.f1 ≤ 50)
def chanM (l : List S111) : Bool := decide (l.length ≤ 20) && l.all goodWire
theorem spec_rtWire_eq (a b : Int) : spec_rtWire.f a b = some (goodWire ⟨a, b⟩) := by
  unfold spec_rtWire.f
  rw [l1In_eq, Option.bind_some]
  by_cases h : 0 ≤ a ∧ a ≤ b
  · rw [decide_eq_true h, if_pos rfl, l1In_eq, Option.bind_some]
    congr 1
    exact decide_eq_decide.2 ⟨fun hh => ⟨h.1, h.2, hh.2⟩, fun hh => ⟨h.2, hh.2.2⟩⟩
  · rw [decide_eq_false h, if_neg (by decide)]
    congr 1; symm
    exact decide_eq_false (fun hh => h ⟨hh.1, hh.2.1⟩)
theorem impl_isWire_eq (a b : Int) : impl_isWire.f a b = some (goodWire ⟨a, b⟩) := by
  unfold impl_isWire.f
  by_cases h1 : a ≥ 0
  · rw [if_pos h1]
    by_cases h2 : a ≤ b
    · rw [if_pos h2]
      congr 1
      exact decide_eq_decide.2 ⟨fun hh => ⟨h1, h2, hh⟩, fun hh => hh.2.2⟩
    · rw [if_neg h2]
      congr 1; symm
      exact decide_eq_false (fun hh => h2 hh.2.1)
  · rw [if_neg h1]
    congr 1; symm
    exact decide_eq_false (fun hh => h1 hh.1)

/-! #### mostM -/
/-- b is the best of the wires p that begin behind end, or -1 where there is none. -/
def BestOf (l : List S111) (fin : Int) (p : List S111) (b : Int) : Prop :=
  (b = -1 ∧ ∀ w ∈ p, w.f0 ≤ fin) ∨ (0 ≤ b ∧ b < l.length ∧ (rd_T111 l b).f0 > fin ∧ ∀ w ∈ p, w.f0 > fin → (rd_T111 l b).f1 ≤ w.f1)
theorem rdWire_mem {l : List S111} {b : Int} (h0 : 0 ≤ b) (h1 : b < l.length) : rd_T111 l b ∈ l := by
  obtain ⟨n, rfl⟩ := nat_of h0
  have hn : n < l.length := by omega
  have : rd_T111 l (n : Int) = l[n] := getDN hn
  rw [this]
  exact List.getElem_mem hn
theorem spec_MostInTrack_l1 (l : List S111) (hl : l.length ≤ 20) (acc : List Int) (fin : Int) (r : List S111) : ∀ (p : List S111) (i b : Int), i = p.length → l = p ++ r → BestOf l fin p b →
    ∃ b', BestOf l fin l b' ∧ ∀ res, Ev (fun k => spec_MostInTrack.l1 k l acc fin b' l l.length l.length) res → Ev (fun k => spec_MostInTrack.l1 k l acc fin b l l.length i) res := by
  induction r with
  | nil =>
    intro p i b hi e hb
    have hp : l = p := by rw [e]; simp
    refine ⟨b, by rw [← hp] at hb; exact hb, fun res h => ?_⟩
    rw [hi, ← hp]
    exact h
  | cons x r ih =>
    intro p i b hi e hb
    have hlen : l.length = p.length + r.length + 1 := by rw [e]; simp; omega
    have hx : rd_T111 l i = x := by rw [e]; exact rdWireA hi
    have step : ∀ b2, BestOf l fin (p ++ [x]) b2 → (∀ res, Ev (fun k => spec_MostInTrack.l1 k l acc fin b2 l l.length (wrap64 (i + 1))) res → Ev (fun k => spec_MostInTrack.l1 k l acc fin b l l.length i) res) →
        ∃ b', BestOf l fin l b' ∧ ∀ res, Ev (fun k => spec_MostInTrack.l1 k l acc fin b' l l.length l.length) res → Ev (fun k => spec_MostInTrack.l1 k l acc fin b l l.length i) res := by
      intro b2 hb2 hk
      obtain ⟨b', h1, h2⟩ := ih (p ++ [x]) (i + 1) b2 (by simp; omega) (by rw [e]; simp) hb2
      refine ⟨b', h1, fun res h => hk res ?_⟩
      rw [w64 (by omega) (by omega)]
      exact h2 res h
    have go : ∀ (g : Nat → Option (List Int × Bool)) res, (∀ k, spec_MostInTrack.l1 (k + 1) l acc fin b l l.length i = g k) → Ev g res → Ev (fun k => spec_MostInTrack.l1 k l acc fin b l l.length i) res := fun g res h e => Ev.step h e
    by_cases c1 : x.f0 > fin
    · by_cases c2 : b < 0
      · refine step i (Or.inr ⟨by omega, by omega, by rw [hx]; exact c1, fun w hw hwf => ?_⟩) (fun res h => ?_)
        · rcases hb with ⟨_, hb⟩ | hb
          · rw [hx]
            rw [List.mem_append] at hw
            rcases hw with hw | hw
            · have := hb w hw
              omega
            · simp only [List.mem_singleton] at hw
              rw [hw]
              exact Int.le_refl _
          · omega
        · apply ev_up
          simp only [spec_MostInTrack.l1]
          refine ev_p (by omega) (ev_p (by omega) (ev_p (by omega) ?_))
          rw [hx]
          exact ev_p c1 (ev_p c2 h)
      · rcases hb with ⟨hb, _⟩ | ⟨hb0, hb1, hb2, hb3⟩
        · omega
        · by_cases c3 : x.f1 < (rd_T111 l b).f1
          · refine step i (Or.inr ⟨by omega, by omega, by rw [hx]; exact c1, fun w hw hwf => ?_⟩) (fun res h => ?_)
            · rw [hx]
              rw [List.mem_append] at hw
              rcases hw with hw | hw
              · have := hb3 w hw hwf
                omega
              · simp only [List.mem_singleton] at hw
                rw [hw]
                exact Int.le_refl _
            · apply ev_up
              simp only [spec_MostInTrack.l1]
              refine ev_p (by omega) (ev_p (by omega) (ev_p (by omega) ?_))
              rw [hx]
              exact ev_p c1 (ev_n c2 (ev_p hb0 (ev_p hb1 (ev_p c3 h))))
          · refine step b (Or.inr ⟨hb0, hb1, hb2, fun w hw hwf => ?_⟩) (fun res h => ?_)
            · rw [List.mem_append] at hw
              rcases hw with hw | hw
              · exact hb3 w hw hwf
              · simp only [List.mem_singleton] at hw
                rw [hw]
                omega
            · apply ev_up
              simp only [spec_MostInTrack.l1]
              refine ev_p (by omega) (ev_p (by omega) (ev_p (by omega) ?_))
              rw [hx]
              exact ev_p c1 (ev_n c2 (ev_p hb0 (ev_p hb1 (ev_n c3 h))))
    · refine step b ?_ (fun res h => ?_)
      · rcases hb with ⟨hb, hb'⟩ | ⟨hb0, hb1, hb2, hb3⟩
        · refine Or.inl ⟨hb, fun w hw => ?_⟩
          rw [List.mem_append] at hw
          rcases hw with hw | hw
          · exact hb' w hw
          · simp only [List.mem_singleton] at hw
            rw [hw]
            omega
        · refine Or.inr ⟨hb0, hb1, hb2, fun w hw hwf => ?_⟩
          rw [List.mem_append] at hw
          rcases hw with hw | hw
          · exact hb3 w hw hwf
          · simp only [List.mem_singleton] at hw
            rw [hw] at hwf
            omega
      · apply ev_up
        simp only [spec_MostInTrack.l1]
        refine ev_p (by omega) (ev_p (by omega) (ev_p (by omega) ?_))
        rw [hx]
        exact ev_n c1 h
/-- What the chosen wires are: indices, each behind the one before, and each wire behind the end meets one of them. -/
def Chosen (l : List S111) : Int → List Int → Prop
  | fin, [] => ∀ w ∈ l, w.f0 ≤ fin
  | fin, b :: r => 0 ≤ b ∧ b < l.length ∧ (rd_T111 l b).f0 > fin ∧ (∀ w ∈ l, w.f0 > fin → (rd_T111 l b).f1 ≤ w.f1) ∧ Chosen l (rd_T111 l b).f1 r
theorem spec_MostInTrack_l0 (l : List S111) (hl : l.length ≤ 20) (hg : ∀ w ∈ l, goodWire w = true) (d : Nat) : ∀ (acc : List Int) (fin : Int), -1 ≤ fin → fin ≤ 50 → 50 - fin ≤ d → acc.length + d ≤ 100 →
    ∃ ch, Chosen l fin ch ∧ ch.length ≤ d ∧ Ev (fun k => spec_MostInTrack.l0 k l acc fin) (acc ++ ch, true) := by
  induction d with
  | zero =>
    intro acc fin h0 h1 hd ha
    obtain ⟨b, hb, hk⟩ := spec_MostInTrack_l1 l hl acc fin l [] 0 (-1) rfl rfl (Or.inl ⟨rfl, fun w hw => by simp at hw⟩)
    rcases hb with ⟨hb, hb'⟩ | ⟨hb0, hb1, hb2, hb3⟩
    · refine ⟨[], hb', by simp, ?_⟩
      apply ev_up
      simp only [spec_MostInTrack.l0]
      refine hk _ ?_
      apply ev_up
      simp only [spec_MostInTrack.l1]
      rw [List.append_nil]
      exact ev_n (by omega) (ev_p (by omega) (Ev.now _))
    · have hw := of_decide_eq_true (hg _ (rdWire_mem hb0 hb1))
      omega
  | succ d ih =>
    intro acc fin h0 h1 hd ha
    obtain ⟨b, hb, hk⟩ := spec_MostInTrack_l1 l hl acc fin l [] 0 (-1) rfl rfl (Or.inl ⟨rfl, fun w hw => by simp at hw⟩)
    rcases hb with ⟨hb, hb'⟩ | ⟨hb0, hb1, hb2, hb3⟩
    · refine ⟨[], hb', by simp, ?_⟩
      apply ev_up
      simp only [spec_MostInTrack.l0]
      refine hk _ ?_
      apply ev_up
      simp only [spec_MostInTrack.l1]
      rw [List.append_nil]
      exact ev_n (by omega) (ev_p (by omega) (Ev.now _))
    · have hw := of_decide_eq_true (hg _ (rdWire_mem hb0 hb1))
      obtain ⟨ch, hc, hcl, he⟩ := ih (acc ++ [b]) (rd_T111 l b).f1 (by omega) (by omega) (by omega) (by simp; omega)
      refine ⟨b :: ch, ⟨hb0, hb1, hb2, hb3, hc⟩, by simp; omega, ?_⟩
      apply ev_up
      simp only [spec_MostInTrack.l0]
      refine hk _ ?_
      apply ev_up
      simp only [spec_MostInTrack.l1]
      refine ev_n (by omega) (ev_n (by omega) (ev_p (by omega) (ev_p hb0 (ev_p hb1 ?_))))
      simpa using he
theorem impl_MostInTrack_l (k : Nat) : (∀ l acc fin, impl_MostInTrack.l0 k l acc fin = spec_MostInTrack.l0 k l acc fin) ∧ (∀ l acc fin b xs e i, impl_MostInTrack.l1 k l acc fin b xs e i = spec_MostInTrack.l1 k l acc fin b xs e i) := by
  induction k with
  | zero => exact ⟨fun _ _ _ => rfl, fun _ _ _ _ _ _ _ => rfl⟩
  | succ k ih =>
    constructor
    · intro l acc fin
      simp only [impl_MostInTrack.l0, spec_MostInTrack.l0, ih.2]
    · intro l acc fin b xs e i
      simp only [impl_MostInTrack.l1, spec_MostInTrack.l1, ih.1, ih.2]

/-! #### spec_rtGood -/
theorem spec_rtGood_l0 (l : List S111) (hl : l.length ≤ 9223372036854775807) (r : List S111) : ∀ (p : List S111) (i : Int), i = p.length → l = p ++ r →
    Ev (fun k => spec_rtGood.l0 k l l l.length i) (decide (l.length ≤ 20) && r.all goodWire) := by
  induction r with
  | nil =>
    intro p i hi e
    have hlen : l.length = p.length := by rw [e]; simp
    apply ev_up
    simp only [spec_rtGood.l0]
    refine ev_n (by omega) (ev_eq (Ev.now _) ?_)
    rw [List.all_nil, Bool.and_true]
    exact decide_eq_decide.2 (by omega)
  | cons x r ih =>
    intro p i hi e
    have hlen : l.length = p.length + r.length + 1 := by rw [e]; simp; omega
    have hx : rd_T111 l i = x := by rw [e]; exact rdWireA hi
    have ih' := ih (p ++ [x]) (i + 1) (by simp; omega) (by rw [e]; simp)
    apply ev_up
    simp only [spec_rtGood.l0]
    refine ev_p (by omega) (ev_p (by omega) (ev_p (by omega) ?_))
    rw [hx, spec_rtWire_eq]
    refine Ev.bind (ev_c rfl) ?_
    have ex : (⟨x.f0, x.f1⟩ : S111) = x := rfl
    rw [ex]
    refine ev_ite (fun h => ?_) (fun h => ?_)
    · rw [w64 (by omega) (by omega)]
      refine ev_eq ih' ?_
      rw [List.all_cons, h, Bool.true_and]
    · refine ev_eq (Ev.now _) ?_
      have h' : goodWire x = false := by simpa using h
      rw [List.all_cons, h', Bool.false_and, Bool.and_false]
theorem spec_rtGood_ev (l : List S111) (hl : l.length ≤ 9223372036854775807) : Ev (fun k => spec_rtGood.f k l) (chanM l) := by
  unfold spec_rtGood.f chanM
  exact spec_rtGood_l0 l hl l [] 0 rfl rfl

/-! #### impl_AreChannelWires -/
theorem impl_AreChannelWires_l0 (l : List S111) (hl : l.length ≤ 9223372036854775807) (r : List S111) : ∀ (p : List S111) (i : Int), i = p.length → l = p ++ r →
    Ev (fun k => impl_AreChannelWires.l0 k l l.length i) (r.all goodWire) := by
  induction r with
  | nil =>
    intro p i hi e
    have hlen : l.length = p.length := by rw [e]; simp
    apply ev_up
    simp only [impl_AreChannelWires.l0]
    exact ev_n (by omega) (Ev.now _)
  | cons x r ih =>
    intro p i hi e
    have hlen : l.length = p.length + r.length + 1 := by rw [e]; simp; omega
    have hx : rd_T111 l i = x := by rw [e]; exact rdWireA hi
    have ih' := ih (p ++ [x]) (i + 1) (by simp; omega) (by rw [e]; simp)
    apply ev_up
    simp only [impl_AreChannelWires.l0]
    refine ev_p (by omega) (ev_p (by omega) (ev_p (by omega) ?_))
    rw [hx, impl_isWire_eq]
    refine Ev.bind (ev_c rfl) ?_
    have ex : (⟨x.f0, x.f1⟩ : S111) = x := rfl
    rw [ex]
    refine ev_ite (fun h => ?_) (fun h => ?_)
    · rw [w64 (by omega) (by omega)]
      refine ev_eq ih' ?_
      rw [List.all_cons, h, Bool.true_and]
    · refine ev_eq (Ev.now _) ?_
      have h' : goodWire x = false := by simpa using h
      rw [List.all_cons, h', Bool.false_and]
theorem impl_AreChannelWires_ev (l : List S111) (hl : l.length ≤ 9223372036854775807) : Ev (fun k => impl_AreChannelWires.f k l) (chanM l) := by
  unfold impl_AreChannelWires.f chanM
  refine ev_ite (fun h => ?_) (fun h => ?_)
  · rw [decide_eq_false (by omega), Bool.false_and]
    exact Ev.now _
  · rw [decide_eq_true (by omega), Bool.true_and]
    exact impl_AreChannelWires_l0 l hl l [] 0 rfl rfl

/-! #### mostInTrack -/
theorem chanM_of {l : List S111} (h : chanM l = true) : l.length ≤ 20 ∧ ∀ w ∈ l, goodWire w = true := by
  unfold chanM at h
  rw [Bool.and_eq_true, List.all_eq_true] at h
  exact ⟨of_decide_eq_true h.1, h.2⟩
theorem mostInTrack_ev (l : List S111) (hl : l.length ≤ 1048576) : ∃ R : List Int × Bool, R.2 = chanM l ∧ R.1.length ≤ 51 ∧ (chanM l = true → Chosen l (-1) R.1) ∧ Ev (fun k => spec_MostInTrack.f k l) R ∧ Ev (fun k => impl_MostInTrack.f k l) R := by
  unfold spec_MostInTrack.f impl_MostInTrack.f
  simp only [(impl_MostInTrack_l _).1]
  by_cases h : chanM l = true
  · obtain ⟨h20, hg⟩ := chanM_of h
    obtain ⟨ch, hc, hcl, he⟩ := spec_MostInTrack_l0 l h20 hg 51 [] (-1) (by omega) (by omega) (by omega) (by simp)
    rw [List.nil_append] at he
    exact ⟨(ch, true), h.symm, hcl, fun _ => hc, Ev.bind (spec_rtGood_ev l (by omega)) (ev_p h he), Ev.bind (impl_AreChannelWires_ev l (by omega)) (ev_p h he)⟩
  · exact ⟨([], false), by simpa using h, by simp, fun hh => absurd hh h, Ev.bind (spec_rtGood_ev l (by omega)) (ev_n h (Ev.now _)), Ev.bind (impl_AreChannelWires_ev l (by omega)) (ev_n h (Ev.now _))⟩

/-! #### eqIntS -/
theorem eqIntS_l0 (r : List Int) : ∀ (s p q : List Int) (i : Int), i = p.length → p.length = q.length → r.length = s.length → p.length + r.length ≤ 9223372036854775807 →
    Ev (fun k => laws_eqIntS.l0 k (p ++ r) (q ++ s) i) (decide (r = s)) := by
  induction r with
  | nil =>
    intro s p q i hi hpq hrs hb
    obtain rfl : s = [] := List.length_eq_zero_iff.1 hrs.symm
    apply ev_up
    simp only [laws_eqIntS.l0]
    refine ev_n (by simp; omega) ?_
    simpa using Ev.now true
  | cons x r ih =>
    intro s p q i hi hpq hrs hb
    match s, hrs with
    | y :: s, hrs =>
      simp only [List.length_cons] at hrs hb
      apply ev_up
      simp only [laws_eqIntS.l0]
      refine ev_p (by simp; omega) (ev_p (by omega) (ev_p (by simp; omega) ?_))
      rw [rdA hi, rdA (by omega)]
      refine ev_ite (fun hxy => ?_) (fun hxy => ?_)
      · subst hxy
        rw [w64 (by omega) (by omega), appA, appA (p := q)]
        refine ev_eq (ih s (p ++ [x]) (q ++ [x]) (i + 1) (by simp; omega) (by simp; omega) (by omega) (by simp; omega)) ?_
        simp
      · refine ev_eq (Ev.now false) ?_
        simp [hxy]
theorem eqIntS_ev (a b : List Int) (h : a.length ≤ 9223372036854775807) : Ev (fun k => laws_eqIntS.f k a b) (decide (a = b)) := by
  unfold laws_eqIntS.f
  refine ev_ite (fun hl => ?_) (fun hl => ?_)
  · exact eqIntS_l0 a b [] [] 0 rfl rfl (by omega) (by simpa using h)
  · refine ev_eq (Ev.now false) ?_
    symm
    apply decide_eq_false
    rintro rfl
    exact hl rfl

/-! #### markIntS -/
theorem markIntS_l0 (r : List Int) : ∀ (p : List Int) (s i : Int), i = p.length → p.length + r.length ≤ 9223372036854775807 → 0 ≤ s → s + r.length ≤ 9223372036854775807 →
    Ev (fun k => laws_markIntS.l0 k (p ++ r) s i) (s + r.length, p ++ seqFrom s r.length) := by
  induction r with
  | nil =>
    intro p s i hi hb h0 hs
    apply ev_up
    simp only [laws_markIntS.l0]
    refine ev_n (by simp; omega) ?_
    simpa [seqFrom] using Ev.now (s, p)
  | cons x r ih =>
    intro p s i hi hb h0 hs
    simp only [List.length_cons, Int.natCast_add] at hb hs
    apply ev_up
    simp only [laws_markIntS.l0]
    refine ev_p (by simp; omega) (ev_p (by omega) ?_)
    rw [setA hi, w64 (by omega) (by omega), w64 (by omega) (by omega)]
    refine ev_eq (ih (p ++ [s]) (s + 1) (i + 1) (by simp; omega) (by simp; omega) (by omega) (by omega)) ?_
    simp [seqFrom]
    omega
theorem markIntS_ev (a : List Int) (s : Int) (h0 : 0 ≤ s) (h : a.length + s ≤ 9223372036854775807) : Ev (fun k => laws_markIntS.f k a s) (s + a.length, seqFrom s a.length) := by
  unfold laws_markIntS.f
  exact markIntS_l0 a [] s 0 rfl (by simp; omega) h0 (by omega)

/-! #### heldIntS -/
theorem heldIntS_l0 (n : Nat) : ∀ (p : List Int) (s i : Int), i = p.length → p.length + n ≤ 9223372036854775807 → 0 ≤ s → s + n ≤ 9223372036854775807 →
    Ev (fun k => laws_heldIntS.l0 k (p ++ seqFrom s n) s i) (s + n) := by
  induction n with
  | zero =>
    intro p s i hi hb h0 hs
    apply ev_up
    simp only [laws_heldIntS.l0]
    refine ev_n (by simp [seqFrom]; omega) ?_
    simpa [seqFrom] using Ev.now s
  | succ n ih =>
    intro p s i hi hb h0 hs
    apply ev_up
    simp only [laws_heldIntS.l0]
    have hl := seqFrom_length s (n + 1)
    refine ev_p (by simp [hl]; omega) (ev_p (by omega) ?_)
    refine ev_p (by simp only [seqFrom]; exact rdA hi) ?_
    simp only [seqFrom]
    rw [appA, w64 (by omega) (by omega), w64 (by omega) (by omega)]
    refine ev_eq (ih (p ++ [s]) (s + 1) (i + 1) (by simp; omega) (by simp; omega) (by omega) (by omega)) ?_
    omega
theorem heldIntS_ev (n : Nat) (s : Int) (h0 : 0 ≤ s) (h : n + s ≤ 9223372036854775807) : Ev (fun k => laws_heldIntS.f k (seqFrom s n) s) (s + n) := by
  unfold laws_heldIntS.f
  exact heldIntS_l0 n [] s 0 rfl (by simp; omega) h0 (by omega)

/-! #### markWireS -/
/-- Marked wires: some others, of as many. -/
theorem markWireS_l0 (r : List S111) : ∀ (p : List S111) (s i : Int), i = p.length → p.length + r.length ≤ 1048576 → 0 ≤ s → s + 2 * r.length ≤ 4194304 →
    ∃ t, Ev (fun k => laws_markWireS.l0 k (p ++ r) s i) (s + 2 * r.length, t) := by
  induction r with
  | nil =>
    intro p s i hi hb h0 hs
    refine ⟨p, ?_⟩
    apply ev_up
    simp only [laws_markWireS.l0]
    refine ev_n (by simp; omega) ?_
    simpa using Ev.now (s, p)
  | cons x r ih =>
    intro p s i hi hb h0 hs
    simp only [List.length_cons, Int.natCast_add] at hb hs
    obtain ⟨t, ht⟩ := ih (p ++ [⟨s, s + 1⟩]) (s + 1 + 1) (i + 1) (by simp; omega) (by simp; omega) (by omega) (by omega)
    refine ⟨t, ?_⟩
    apply ev_up
    simp only [laws_markWireS.l0]
    refine ev_p (by simp; omega) (ev_p (by omega) (Ev.bind (ev_c rfl) ?_))
    rw [rdWireA hi, setB hi, rdWireA hi, setA hi, w64 (n := s + 1) (by omega) (by omega), w64 (n := s + 1 + 1) (by omega) (by omega), w64 (n := i + 1) (by omega) (by omega)]
    refine ev_eq ht ?_
    simp only [List.length_cons, Prod.mk.injEq, and_true]
    omega
theorem markWireS_ev (a : List S111) (h : a.length ≤ 1048576) : ∃ t, Ev (fun k => laws_markWireS.f k a 1) (1 + 2 * a.length, t) := by
  unfold laws_markWireS.f
  exact markWireS_l0 a [] 1 0 rfl (by simpa using h) (by omega) (by omega)

/-! #### FnExactMostInTrack -/
theorem FnExactMostInTrack (l0 : (List (S113))) : (l0.length ≤ 9223372036854775807 ∧ ∀ y2 ∈ l0, I64 y2.f0 ∧ I64 y2.f1) → ∃ k, laws_FnExactMostInTrack.f k l0 = some true := by
  rintro ⟨hl, _⟩
  apply ev_get
  unfold laws_FnExactMostInTrack.f
  rw [szWireS_eq l0 1048576 (by omega) (by omega) hl]
  refine Ev.bind (ev_c rfl) (ev_ite (fun _ => Ev.now _) (fun h => ?_))
  have hl2 := wire_pre h
  have hto := toWireS_ev l0 hl2
  have hlm : (l0.map cvWire).length ≤ 1048576 := by simpa using hl2
  have heq : Ev (fun k => laws_eqWireS.f k (l0.map cvWire) (l0.map cvWire)) true := by simpa using eqWireS_ev (l0.map cvWire) (l0.map cvWire) (by omega)
  obtain ⟨R, _, hRl, _, hs, hi⟩ := mostInTrack_ev (l0.map cvWire) hlm
  have heqR : Ev (fun k => laws_eqIntS.f k R.1 R.1) true := by simpa using eqIntS_ev R.1 R.1 (by omega)
  have hmark := markIntS_ev R.1 1 (by omega) (by omega)
  have hheld := heldIntS_ev R.1.length 1 (by omega) (by omega)
  obtain ⟨t, hmw⟩ := markWireS_ev (l0.map cvWire) hlm
  repeat (first
    | (with_reducible exact Ev.now _)
    | (with_reducible refine Ev.bind hto ?_)
    | (with_reducible refine Ev.bind hs ?_)
    | (with_reducible refine Ev.bind hi ?_)
    | (with_reducible refine Ev.bind heq ?_)
    | (with_reducible refine Ev.bind heqR ?_)
    | (with_reducible refine Ev.bind hmark ?_)
    | (with_reducible refine Ev.bind hheld ?_)
    | (with_reducible refine Ev.bind hmw ?_)
    | (with_reducible refine ev_p rfl ?_)
    | (with_reducible refine ev_p True.intro ?_)
    | (refine ev_n ?h ?_; case h => (first | omega | (simp; done) | (simp; omega)))
    | (with_reducible refine ev_up (g := fun n => laws_FnExactMostInTrack.j0 n _ _ _ _ _ _ _) ?_; simp only [laws_FnExactMostInTrack.j0, bne_self_eq_false])
    | (with_reducible refine ev_up (g := fun n => laws_FnExactMostInTrack.j1 n _ _ _ _ _) ?_; simp only [laws_FnExactMostInTrack.j1, bne_self_eq_false])
    | (with_reducible refine ev_up (g := fun n => laws_FnExactMostInTrack.j2 n _ _ _) ?_; simp only [laws_FnExactMostInTrack.j2, bne_self_eq_false]))

end Go.Proofs.Ytoacnogdjmdicaa.Pure
