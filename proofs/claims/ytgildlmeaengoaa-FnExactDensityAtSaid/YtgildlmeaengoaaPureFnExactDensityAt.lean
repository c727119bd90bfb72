/- The pure part of the law FnExactDensityAt: what the program and the reference compute is the same, for all arguments. Conditions: the numbers are of Go's int, the lengths of slices are. -/
import Derived.Test.YtgildlmeaengoaaPFnExactDensityAtx2
import Derived.Test.YtgildlmeaengoaaKit
set_option linter.unusedVariables false
set_option linter.unusedSimpArgs false
namespace Go.Proofs.Ytgildlmeaengoaa.Pure
open Go.RowKit Go.Proofs.Ytgildlmeaengoaa.PFnExactDensityAt Go.Proofs.YtgildlmeaengoaaW.PrintWords Go.Proofs.YtgildlmeaengoaaW.PrintLast Go.Proofs.Ytgildlmeaengoaa.Open Go.Proofs.Ytgildlmeaengoaa.Kit

/-! #### szWireS -/
theorem szWireS_eq (l : List S56) (a : Int) (ha : 0 ≤ a) (ha2 : a ≤ 1048576) (hl : l.length ≤ 9223372036854775807) : laws_szWireS.f l a = some (if l.length ≤ a then a - l.length else -1) := by
  unfold laws_szWireS.f
  rw [w64 (by omega) (by omega)]
  by_cases h : (l.length : Int) ≤ a
  · rw [if_neg (by omega), if_pos h]
  · rw [if_pos (by omega), if_neg h]

/-! #### wirePre -/
theorem wire_pre {n : Nat} (h : ¬ (if (n : Int) ≤ 1048576 then (1048576 : Int) - n else -1) < 0) : n ≤ 1048576 := by
  by_cases h2 : (n : Int) ≤ 1048576
  · omega
  · rw [if_neg h2] at h
    exact absurd (by decide) h

/-! #### wireT -/
theorem rdLWireA {p r : List S56} {x : S56} {i : Int} (hi : i = p.length) : rd_T56 (p ++ x :: r) i = x := getDA hi
theorem rdWireA {p r : List S54} {x : S54} {i : Int} (hi : i = p.length) : rd_T54 (p ++ x :: r) i = x := getDA hi
instance decWire : DecidableEq S54 := fun a b => decidable_of_decidable_of_iff (p := a.f0 = b.f0 ∧ a.f1 = b.f1) ⟨fun h => by cases a; cases b; simp_all, fun h => by rw [h]; exact ⟨rfl, rfl⟩⟩
/-- A wire of the laws as one of the program. -/
def cvWire (x : S56) : S54 := ⟨x.f0, x.f1⟩

/-! #### toWireS -/
theorem toWireS_l0 (r : List S56) : ∀ (p : List S56) (z : List S54) (i : Int), i = p.length → z.length = r.length → p.length + r.length ≤ 9223372036854775806 →
    Ev (fun k => laws_toWireS.l0 k (p ++ r) (p.map cvWire ++ z) i) ((p ++ r).map cvWire) := by
  induction r with
  | nil =>
    intro p z i hi hz hb
    obtain rfl : z = [] := List.length_eq_zero_iff.1 hz
    apply ev_up
    simp only [laws_toWireS.l0]
    refine ev_n (by simp; omega) ?_
    simpa using Ev.now (p.map cvWire)
  | cons x r ih =>
    intro p z i hi hz hb
    match z, hz with
    | y :: z, hz =>
      simp only [List.length_cons] at hz hb
      apply ev_up
      simp only [laws_toWireS.l0]
      refine ev_p (by simp; omega) (ev_p (by omega) ?_)
      rw [rdLWireA hi]
      refine Ev.bind (ev_c (show laws_toWire.f x.f0 x.f1 = some (x.f0, x.f1) from rfl)) (ev_p (by simp; omega) ?_)
      rw [setA (by simpa using hi), w64 (by omega) (by omega), appA]
      have := ih (p ++ [x]) z (i + 1) (by simp; omega) (by omega) (by simp; omega)
      simpa [cvWire] using this
theorem toWireS_ev (a : List S56) (h : a.length ≤ 1048576) : Ev (fun k => laws_toWireS.f k a) (a.map cvWire) := by
  unfold laws_toWireS.f
  refine ev_p (by omega) (ev_p (by omega) ?_)
  exact toWireS_l0 a [] (List.replicate ((a.length : Int)).toNat z54) 0 rfl (by simp) (by simp; omega)

/-! #### eqWireS -/
theorem eqWire_eq (a b c d : Int) : laws_eqWire.f a b c d = some (decide ((⟨a, b⟩ : S54) = ⟨c, d⟩)) := by
  unfold laws_eqWire.f
  by_cases h1 : a = c
  · by_cases h2 : b = d
    · rw [if_pos h1, if_pos h2, h1, h2, decide_eq_true rfl]
    · rw [if_pos h1, if_neg h2]
      congr 1; symm
      exact decide_eq_false (fun h => h2 (by injection h))
  · rw [if_neg h1]
    congr 1; symm
    exact decide_eq_false (fun h => h1 (by injection h))
theorem eqWireS_l0 (r : List S54) : ∀ (s p q : List S54) (i : Int), i = p.length → p.length = q.length → r.length = s.length → p.length + r.length ≤ 9223372036854775807 →
    Ev (fun k => laws_eqWireS.l0 k (p ++ r) (q ++ s) i) (decide (r = s)) := by
  induction r with
  | nil =>
    intro s p q i hi hpq hrs hb
    obtain rfl : s = [] := List.length_eq_zero_iff.1 hrs.symm
    apply ev_up
    simp only [laws_eqWireS.l0]
    refine ev_n (by simp; omega) ?_
    simpa using Ev.now true
  | cons x r ih =>
    intro s p q i hi hpq hrs hb
    match s, hrs with
    | y :: s, hrs =>
      simp only [List.length_cons] at hrs hb
      apply ev_up
      simp only [laws_eqWireS.l0]
      refine ev_p (by simp; omega) (ev_p (by omega) (ev_p (by simp; omega) ?_))
      rw [rdWireA hi, rdWireA (by omega), eqWire_eq]
      refine Ev.bind (ev_c rfl) ?_
      refine ev_ite (fun hxy => ?_) (fun hxy => ?_)
      · have hxy' : x = y := of_decide_eq_true hxy
        subst hxy'
        rw [w64 (by omega) (by omega), appA, appA (p := q)]
        refine ev_eq (ih s (p ++ [x]) (q ++ [x]) (i + 1) (by simp; omega) (by simp; omega) (by omega) (by simp; omega)) ?_
        simp
      · refine ev_eq (Ev.now false) ?_
        have hxy' : ¬ x = y := fun e => hxy (decide_eq_true e)
        simp [hxy']
theorem eqWireS_ev (a b : List S54) (h : a.length ≤ 9223372036854775807) : Ev (fun k => laws_eqWireS.f k a b) (decide (a = b)) := by
  unfold laws_eqWireS.f
  refine ev_ite (fun hl => ?_) (fun hl => ?_)
  · exact eqWireS_l0 a b [] [] 0 rfl rfl (by omega) (by simpa using h)
  · refine ev_eq (Ev.now false) ?_
    symm
    apply decide_eq_false
    rintro rfl
    exact hl rfl

/-! #### l1In -/
theorem l1In_eq (a b c : Int) : spec_l1In.f a b c = some (decide (b ≤ a ∧ a ≤ c)) := by
  unfold spec_l1In.f
  by_cases h : b ≤ a
  · rw [if_pos h]; simp [h]
  · rw [if_neg h]; simp [h]

/-! #### densityM -/
def atCol (x : Int) (w : S54) : Bool := decide (w.f0 ≤ x ∧ x ≤ w.f1)
def densityM (l : List S54) (x : Int) : Int := (l.countP (atCol x) : Nat)
theorem densityM_le (l : List S54) (x : Int) : 0 ≤ densityM l x ∧ densityM l x ≤ l.length := by
  unfold densityM
  have := List.countP_le_length (p := atCol x) (l := l)
  omega
theorem spec_rtDensity_l0 (l : List S54) (x : Int) (hl : l.length ≤ 1048576) (r : List S54) : ∀ (p : List S54) (n i : Int), i = p.length → l = p ++ r → 0 ≤ n → n ≤ i →
    Ev (fun k => spec_rtDensity.l0 k x n l l.length i) (n + (r.countP (atCol x) : Nat)) := by
  induction r with
  | nil =>
    intro p n i hi e h0 hn
    have hlen : l.length = p.length := by rw [e]; simp
    apply ev_up
    simp only [spec_rtDensity.l0]
    refine ev_n (by omega) (ev_eq (Ev.now _) ?_)
    simp
  | cons w r ih =>
    intro p n i hi e h0 hn
    have hlen : l.length = p.length + r.length + 1 := by rw [e]; simp; omega
    have hx : rd_T54 l i = w := by rw [e]; exact rdWireA hi
    apply ev_up
    simp only [spec_rtDensity.l0]
    refine ev_p (by omega) (ev_p (by omega) (ev_p (by omega) ?_))
    rw [hx, l1In_eq, w64 (n := i + 1) (by omega) (by omega), w64 (n := n + 1) (by omega) (by omega)]
    refine Ev.bind (ev_c rfl) ?_
    refine ev_ite (fun h => ?_) (fun h => ?_)
    · refine ev_eq (ih (p ++ [w]) (n + 1) (i + 1) (by simp; omega) (by rw [e]; simp) (by omega) (by omega)) ?_
      have h' : atCol x w = true := h
      simp [h']
      omega
    · refine ev_eq (ih (p ++ [w]) n (i + 1) (by simp; omega) (by rw [e]; simp) (by omega) (by omega)) ?_
      have h' : atCol x w = false := decide_eq_false (fun hh => h (decide_eq_true hh))
      simp [h']
theorem spec_rtDensity_ev (l : List S54) (x : Int) (hl : l.length ≤ 1048576) : Ev (fun k => spec_rtDensity.f k l x) (densityM l x) := by
  unfold spec_rtDensity.f densityM
  refine ev_eq (spec_rtDensity_l0 l x hl l [] 0 0 rfl rfl (by omega) (by omega)) (by omega)
theorem impl_densityAt_l0 (l : List S54) (x : Int) (hl : l.length ≤ 1048576) (r : List S54) : ∀ (p : List S54) (n i : Int), i = p.length → l = p ++ r → 0 ≤ n → n ≤ i →
    Ev (fun k => impl_densityAt.l0 k x n l l.length i) (n + (r.countP (atCol x) : Nat)) := by
  induction r with
  | nil =>
    intro p n i hi e h0 hn
    have hlen : l.length = p.length := by rw [e]; simp
    apply ev_up
    simp only [impl_densityAt.l0]
    refine ev_n (by omega) (ev_eq (Ev.now _) ?_)
    simp
  | cons w r ih =>
    intro p n i hi e h0 hn
    have hlen : l.length = p.length + r.length + 1 := by rw [e]; simp; omega
    have hx : rd_T54 l i = w := by rw [e]; exact rdWireA hi
    have no : atCol x w = false → Ev (fun k => impl_densityAt.l0 k x n l l.length (i + 1)) (n + ((w :: r).countP (atCol x) : Nat)) := fun h => by
      refine ev_eq (ih (p ++ [w]) n (i + 1) (by simp; omega) (by rw [e]; simp) (by omega) (by omega)) ?_
      simp [h]
    apply ev_up
    simp only [impl_densityAt.l0]
    refine ev_p (by omega) (ev_p (by omega) (ev_p (by omega) ?_))
    rw [hx, w64 (n := i + 1) (by omega) (by omega), w64 (n := n + 1) (by omega) (by omega)]
    refine ev_ite (fun h1 => ev_ite (fun h2 => ?_) (fun h2 => ?_)) (fun h1 => ?_)
    · refine ev_eq (ih (p ++ [w]) (n + 1) (i + 1) (by simp; omega) (by rw [e]; simp) (by omega) (by omega)) ?_
      have h' : atCol x w = true := decide_eq_true ⟨h1, h2⟩
      simp [h']
      omega
    · exact no (decide_eq_false (fun h => h2 h.2))
    · exact no (decide_eq_false (fun h => h1 h.1))
theorem impl_densityAt_ev (l : List S54) (x : Int) (hl : l.length ≤ 1048576) : Ev (fun k => impl_densityAt.f k l x) (densityM l x) := by
  unfold impl_densityAt.f densityM
  refine ev_eq (impl_densityAt_l0 l x hl l [] 0 0 rfl rfl (by omega) (by omega)) (by omega)

/-! #### chanM -/
def goodWire (x : S54) : Bool := decide (0 ≤ x.f0 ∧ x.f0 ≤ x.f1 ∧ x.f1 ≤ 50)
def chanM (l : List S54) : Bool := decide (l.length ≤ 20) && l.all goodWire
theorem spec_rtWire_eq (a b : Int) : spec_rtWire.f a b = some (goodWire ⟨a, b⟩) := by
  unfold spec_rtWire.f
  rw [l1In_eq, Option.bind_some]
  by_cases h : 0 ≤ a ∧ a ≤ b
  · rw [decide_eq_true h, if_pos rfl, l1In_eq, Option.bind_some]
    congr 1
    exact decide_eq_decide.2 ⟨fun hh => ⟨h.1, h.2, hh.2⟩, fun hh => ⟨h.2, hh.2.2⟩⟩
  · rw [decide_eq_false h, if_neg (by decide)]
    congr 1; symm
    exact decide_eq_false (fun hh => h ⟨hh.1, hh.2.1⟩)
theorem impl_isWire_eq (a b : Int) : impl_isWire.f a b = some (goodWire ⟨a, b⟩) := by
  unfold impl_isWire.f
  by_cases h1 : a ≥ 0
  · rw [if_pos h1]
    by_cases h2 : a ≤ b
    · rw [if_pos h2]
      congr 1
      exact decide_eq_decide.2 ⟨fun hh => ⟨h1, h2, hh⟩, fun hh => hh.2.2⟩
    · rw [if_neg h2]
      congr 1; symm
      exact decide_eq_false (fun hh => h2 hh.2.1)
  · rw [if_neg h1]
    congr 1; symm
    exact decide_eq_false (fun hh => h1 hh.1)

/-! #### spec_rtGood -/
theorem spec_rtGood_l0 (l : List S54) (hl : l.length ≤ 9223372036854775807) (r : List S54) : ∀ (p : List S54) (i : Int), i = p.length → l = p ++ r →
    Ev (fun k => spec_rtGood.l0 k l l l.length i) (decide (l.length ≤ 20) && r.all goodWire) := by
  induction r with
  | nil =>
    intro p i hi e
    have hlen : l.length = p.length := by rw [e]; simp
    apply ev_up
    simp only [spec_rtGood.l0]
    refine ev_n (by omega) (ev_eq (Ev.now _) ?_)
    rw [List.all_nil, Bool.and_true]
    exact decide_eq_decide.2 (by omega)
  | cons x r ih =>
    intro p i hi e
    have hlen : l.length = p.length + r.length + 1 := by rw [e]; simp; omega
    have hx : rd_T54 l i = x := by rw [e]; exact rdWireA hi
    have ih' := ih (p ++ [x]) (i + 1) (by simp; omega) (by rw [e]; simp)
    apply ev_up
    simp only [spec_rtGood.l0]
    refine ev_p (by omega) (ev_p (by omega) (ev_p (by omega) ?_))
    rw [hx, spec_rtWire_eq]
    refine Ev.bind (ev_c rfl) ?_
    have ex : (⟨x.f0, x.f1⟩ : S54) = x := rfl
    rw [ex]
    refine ev_ite (fun h => ?_) (fun h => ?_)
    · rw [w64 (by omega) (by omega)]
      refine ev_eq ih' ?_
      rw [List.all_cons, h, Bool.true_and]
    · refine ev_eq (Ev.now _) ?_
      have h' : goodWire x = false := by simpa using h
      rw [List.all_cons, h', Bool.false_and, Bool.and_false]
theorem spec_rtGood_ev (l : List S54) (hl : l.length ≤ 9223372036854775807) : Ev (fun k => spec_rtGood.f k l) (chanM l) := by
  unfold spec_rtGood.f chanM
  exact spec_rtGood_l0 l hl l [] 0 rfl rfl

/-! #### impl_AreChannelWires -/
theorem impl_AreChannelWires_l0 (l : List S54) (hl : l.length ≤ 9223372036854775807) (r : List S54) : ∀ (p : List S54) (i : Int), i = p.length → l = p ++ r →
    Ev (fun k => impl_AreChannelWires.l0 k l l.length i) (r.all goodWire) := by
  induction r with
  | nil =>
    intro p i hi e
    have hlen : l.length = p.length := by rw [e]; simp
    apply ev_up
    simp only [impl_AreChannelWires.l0]
    exact ev_n (by omega) (Ev.now _)
  | cons x r ih =>
    intro p i hi e
    have hlen : l.length = p.length + r.length + 1 := by rw [e]; simp; omega
    have hx : rd_T54 l i = x := by rw [e]; exact rdWireA hi
    have ih' := ih (p ++ [x]) (i + 1) (by simp; omega) (by rw [e]; simp)
    apply ev_up
    simp only [impl_AreChannelWires.l0]
    refine ev_p (by omega) (ev_p (by omega) (ev_p (by omega) ?_))
    rw [hx, impl_isWire_eq]
    refine Ev.bind (ev_c rfl) ?_
    have ex : (⟨x.f0, x.f1⟩ : S54) = x := rfl
    rw [ex]
    refine ev_ite (fun h => ?_) (fun h => ?_)
    · rw [w64 (by omega) (by omega)]
      refine ev_eq ih' ?_
      rw [List.all_cons, h, Bool.true_and]
    · refine ev_eq (Ev.now _) ?_
      have h' : goodWire x = false := by simpa using h
      rw [List.all_cons, h', Bool.false_and]
theorem impl_AreChannelWires_ev (l : List S54) (hl : l.length ≤ 9223372036854775807) : Ev (fun k => impl_AreChannelWires.f k l) (chanM l) := by
  unfold impl_AreChannelWires.f chanM
  refine ev_ite (fun h => ?_) (fun h => ?_)
  · rw [decide_eq_false (by omega), Bool.false_and]
    exact Ev.now _
  · rw [decide_eq_true (by omega), Bool.true_and]
    exact impl_AreChannelWires_l0 l hl l [] 0 rfl rfl

/-! #### densityAt -/
def densityAtM (l : List S54) (x : Int) : Int × Bool := if chanM l = true ∧ 0 ≤ x ∧ x ≤ 50 then (densityM l x, true) else (0, false)
theorem spec_DensityAt_ev (l : List S54) (x : Int) (hl : l.length ≤ 1048576) : Ev (fun k => spec_DensityAt.f k l x) (densityAtM l x) := by
  unfold spec_DensityAt.f densityAtM
  refine Ev.bind (spec_rtGood_ev l (by omega)) (ev_ite (fun h1 => ?_) (fun h1 => ?_))
  · rw [l1In_eq]
    refine Ev.bind (ev_c rfl) (ev_ite (fun h2 => ?_) (fun h2 => ?_))
    · rw [if_pos ⟨h1, of_decide_eq_true h2⟩]
      exact Ev.bind (spec_rtDensity_ev l x hl) (Ev.now _)
    · rw [if_neg (fun h => h2 (decide_eq_true h.2))]
      exact Ev.now _
  · rw [if_neg (fun h => h1 h.1)]
    exact Ev.now _
theorem impl_DensityAt_ev (l : List S54) (x : Int) (hl : l.length ≤ 1048576) : Ev (fun k => impl_DensityAt.f k l x) (densityAtM l x) := by
  unfold impl_DensityAt.f densityAtM
  refine Ev.bind (impl_AreChannelWires_ev l (by omega)) (ev_ite (fun h1 => ?_) (fun h1 => ?_))
  · refine ev_ite (fun h2 => ?_) (fun h2 => ev_ite (fun h3 => ?_) (fun h3 => ?_))
    · rw [if_neg (fun h => by omega)]
      exact Ev.now _
    · rw [if_neg (fun h => by omega)]
      exact Ev.now _
    · rw [if_pos ⟨h1, by omega, by omega⟩]
      exact Ev.bind (impl_densityAt_ev l x hl) (Ev.now _)
  · rw [if_neg (fun h => h1 h.1)]
    exact Ev.now _

/-! #### FnExactDensityAt -/
theorem FnExactDensityAt (l0 : (List (S56))) (a1 : Int) : (l0.length ≤ 9223372036854775807 ∧ ∀ y2 ∈ l0, I64 y2.f0 ∧ I64 y2.f1) → I64 a1 → ∃ k, laws_FnExactDensityAt.f k l0 a1 = some true := by
  rintro ⟨hl, _⟩ _
  apply ev_get
  unfold laws_FnExactDensityAt.f
  rw [szWireS_eq l0 1048576 (by omega) (by omega) hl]
  refine Ev.bind (ev_c rfl) (ev_ite (fun _ => Ev.now _) (fun h => ?_))
  have hl2 := wire_pre h
  have hto := toWireS_ev l0 hl2
  have hlm : (l0.map cvWire).length ≤ 1048576 := by simpa using hl2
  have heq : Ev (fun k => laws_eqWireS.f k (l0.map cvWire) (l0.map cvWire)) true := by simpa using eqWireS_ev (l0.map cvWire) (l0.map cvWire) (by omega)
  have hs := spec_DensityAt_ev (l0.map cvWire) a1 hlm
  have hi := impl_DensityAt_ev (l0.map cvWire) a1 hlm
  repeat (first
    | (with_reducible exact Ev.now _)
    | (with_reducible refine Ev.bind hto ?_)
    | (with_reducible refine Ev.bind hs ?_)
    | (with_reducible refine Ev.bind hi ?_)
    | (with_reducible refine Ev.bind heq ?_)
    | (with_reducible refine ev_p rfl ?_)
    | (with_reducible refine ev_p True.intro ?_)
    | (refine ev_n ?h ?_; case h => (first | omega | (simp; done) | (simp; omega)))
    | (with_reducible refine ev_up (g := fun n => laws_FnExactDensityAt.j0 n _ _ _) ?_; simp only [laws_FnExactDensityAt.j0, bne_self_eq_false]))


end Go.Proofs.Ytgildlmeaengoaa.Pure
