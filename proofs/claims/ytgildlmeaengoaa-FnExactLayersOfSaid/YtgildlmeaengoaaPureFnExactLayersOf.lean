/- The pure part of the law FnExactLayersOf: what the program and the reference compute is the same, for all arguments. Conditions: the numbers are of Go's int, the lengths of slices are. -/
import Derived.Test.YtgildlmeaengoaaPFnExactLayersOfx3
import Derived.Test.YtgildlmeaengoaaKit
set_option linter.unusedVariables false
set_option linter.unusedSimpArgs false
namespace Go.Proofs.Ytgildlmeaengoaa.Pure
open Go.RowKit Go.Proofs.Ytgildlmeaengoaa.PFnExactLayersOf Go.Proofs.YtgildlmeaengoaaW.PrintWords Go.Proofs.YtgildlmeaengoaaW.PrintLast Go.Proofs.Ytgildlmeaengoaa.Open Go.Proofs.Ytgildlmeaengoaa.Kit

/-! #### l1In -/
theorem l1In_eq (a b c : Int) : spec_l1In.f a b c = some (decide (b ≤ a ∧ a ≤ c)) := by
  unfold spec_l1In.f
  by_cases h : b ≤ a
  · rw [if_pos h]; simp [h]
  · rw [if_neg h]; simp [h]

/-! #### l1All -/
def inB (a b : Int) (x : Int) : Bool := decide (a ≤ x ∧ x ≤ b)
theorem l1All_l0 (l : List Int) (a b : Int) (hl : l.length ≤ 9223372036854775807) (r : List Int) : ∀ (p : List Int) (i : Int), i = p.length → l = p ++ r →
    Ev (fun k => spec_l1All.l0 k a b l l.length i) (r.all (inB a b)) := by
  induction r with
  | nil =>
    intro p i hi e
    have hlen : l.length = p.length := by rw [e]; simp
    apply ev_up
    simp only [spec_l1All.l0]
    exact ev_n (by omega) (Ev.now _)
  | cons x r ih =>
    intro p i hi e
    have hlen : l.length = p.length + r.length + 1 := by rw [e]; simp; omega
    have hx : rd l i = x := by rw [e]; exact rdA hi
    have ih' := ih (p ++ [x]) (i + 1) (by simp; omega) (by rw [e]; simp)
    apply ev_up
    simp only [spec_l1All.l0]
    refine ev_p (by omega) (ev_p (by omega) (ev_p (by omega) ?_))
    rw [hx, l1In_eq]
    refine Ev.bind (ev_c rfl) ?_
    refine ev_ite (fun h => ?_) (fun h => ?_)
    · rw [w64 (by omega) (by omega)]
      refine ev_eq ih' ?_
      rw [List.all_cons, show inB a b x = true from h, Bool.true_and]
    · refine ev_eq (Ev.now _) ?_
      rw [List.all_cons, show inB a b x = false from decide_eq_false (fun hh => h (decide_eq_true hh)), Bool.false_and]
theorem l1All_ev (l : List Int) (a b : Int) (hl : l.length ≤ 9223372036854775807) : Ev (fun k => spec_l1All.f k l a b) (l.all (inB a b)) := by
  unfold spec_l1All.f
  exact l1All_l0 l a b hl l [] 0 rfl rfl

/-! #### tracksM -/
def tracksM (l : List Int) : Bool := decide (l.length ≤ 20) && l.all (inB 0 19)
theorem spec_rtTracks_ev (l : List Int) (hl : l.length ≤ 9223372036854775807) : Ev (fun k => spec_rtTracks.f k l) (tracksM l) := by
  unfold spec_rtTracks.f tracksM
  refine ev_ite (fun h => ?_) (fun h => ?_)
  · rw [decide_eq_true (by omega), Bool.true_and]
    exact Ev.bind (l1All_ev l 0 19 hl) (Ev.now _)
  · rw [decide_eq_false (by omega), Bool.false_and]
    exact Ev.now _
theorem tracksM_bounds {l : List Int} (h : tracksM l = true) : l.length ≤ 20 ∧ ∀ x ∈ l, 0 ≤ x ∧ x ≤ 19 := by
  unfold tracksM at h
  rw [Bool.and_eq_true, List.all_eq_true] at h
  exact ⟨of_decide_eq_true h.1, fun x hx => of_decide_eq_true (h.2 x hx)⟩

/-! #### impl_areTracks -/
theorem impl_areTracks_l0 (l : List Int) (hl : l.length ≤ 9223372036854775807) (r : List Int) : ∀ (p : List Int) (i : Int), i = p.length → l = p ++ r →
    Ev (fun k => impl_areTracks.l0 k l l.length i) (r.all (inB 0 19)) := by
  induction r with
  | nil =>
    intro p i hi e
    have hlen : l.length = p.length := by rw [e]; simp
    apply ev_up
    simp only [impl_areTracks.l0]
    exact ev_n (by omega) (Ev.now _)
  | cons x r ih =>
    intro p i hi e
    have hlen : l.length = p.length + r.length + 1 := by rw [e]; simp; omega
    have hx : rd l i = x := by rw [e]; exact rdA hi
    have ih' := ih (p ++ [x]) (i + 1) (by simp; omega) (by rw [e]; simp)
    apply ev_up
    simp only [impl_areTracks.l0]
    refine ev_p (by omega) (ev_p (by omega) (ev_p (by omega) ?_))
    rw [hx]
    refine ev_ite (fun h => ?_) (fun h => ev_ite (fun h2 => ?_) (fun h2 => ?_))
    · refine ev_eq (Ev.now _) ?_
      rw [List.all_cons, show inB 0 19 x = false from decide_eq_false (by omega), Bool.false_and]
    · refine ev_eq (Ev.now _) ?_
      rw [List.all_cons, show inB 0 19 x = false from decide_eq_false (by omega), Bool.false_and]
    · rw [w64 (by omega) (by omega)]
      refine ev_eq ih' ?_
      rw [List.all_cons, show inB 0 19 x = true from decide_eq_true (by omega), Bool.true_and]
theorem impl_areTracks_ev (l : List Int) (hl : l.length ≤ 9223372036854775807) : Ev (fun k => impl_areTracks.f k l) (tracksM l) := by
  unfold impl_areTracks.f tracksM
  refine ev_ite (fun h => ?_) (fun h => ?_)
  · rw [decide_eq_false (by omega), Bool.false_and]
    exact Ev.now _
  · rw [decide_eq_true (by omega), Bool.true_and]
    exact impl_areTracks_l0 l hl l [] 0 rfl rfl

/-! #### greatM -/
/-- The greatest, from g on. -/
def greatM (g : Int) : List Int → Int
  | [] => g
  | x :: r => greatM (if g < x then x else g) r
theorem greatM_bound {l : List Int} : ∀ {g : Int}, -1 ≤ g → g ≤ 1000 → (∀ x ∈ l, 0 ≤ x ∧ x ≤ 1000) → -1 ≤ greatM g l ∧ greatM g l ≤ 1000 := by
  induction l with
  | nil => intro g h1 h2 _; exact ⟨h1, h2⟩
  | cons x r ih =>
    intro g h1 h2 h
    have hx := h x (by simp)
    unfold greatM
    split
    · exact ih (by omega) hx.2 (fun y hy => h y (by simp [hy]))
    · exact ih h1 h2 (fun y hy => h y (by simp [hy]))

/-! #### spec_rtTop -/
theorem l1Most_eq (a b : Int) : spec_l1Most.f a b = some (if a > b then a else b) := by
  unfold spec_l1Most.f
  split <;> rfl
theorem spec_rtTop_l0 (l : List Int) (hl : l.length ≤ 1048576) (hb : ∀ x ∈ l, 0 ≤ x ∧ x ≤ 1000) (r : List Int) : ∀ (p : List Int) (g i : Int), i = p.length → l = p ++ r →
    Ev (fun k => spec_rtTop.l0 k (g + 1) l l.length i) (greatM g r + 1) := by
  induction r with
  | nil =>
    intro p g i hi e
    have hlen : l.length = p.length := by rw [e]; simp
    apply ev_up
    simp only [spec_rtTop.l0]
    exact ev_n (by omega) (Ev.now _)
  | cons x r ih =>
    intro p g i hi e
    have hlen : l.length = p.length + r.length + 1 := by rw [e]; simp; omega
    have hx : rd l i = x := by rw [e]; exact rdA hi
    have hxb := hb x (by rw [e]; simp)
    apply ev_up
    simp only [spec_rtTop.l0]
    refine ev_p (by omega) (ev_p (by omega) (ev_p (by omega) ?_))
    rw [hx, l1Most_eq, w64 (n := x + 1) (by omega) (by omega), w64 (n := i + 1) (by omega) (by omega)]
    refine Ev.bind (ev_c rfl) ?_
    have e2 : (if g + 1 > x + 1 then g + 1 else x + 1) = (if g < x then x else g) + 1 := by
      by_cases h1 : g < x
      · rw [if_neg (by omega), if_pos h1]
      · by_cases h2 : g = x
        · rw [if_neg (by omega), if_neg h1, h2]
        · rw [if_pos (by omega), if_neg h1]
    rw [e2]
    exact ih (p ++ [x]) _ (i + 1) (by simp; omega) (by rw [e]; simp)
theorem spec_rtTop_ev (l : List Int) (hl : l.length ≤ 1048576) (hb : ∀ x ∈ l, 0 ≤ x ∧ x ≤ 1000) : Ev (fun k => spec_rtTop.f k l) (greatM (-1) l + 1) := by
  unfold spec_rtTop.f
  exact spec_rtTop_l0 l hl hb l [] (-1) 0 rfl rfl

/-! #### impl_greatest -/
theorem impl_greatest_l0 (l : List Int) (hl : l.length ≤ 1048576) (r : List Int) : ∀ (p : List Int) (g i : Int), i = p.length → l = p ++ r →
    Ev (fun k => impl_greatest.l0 k g l l.length i) (greatM g r) := by
  induction r with
  | nil =>
    intro p g i hi e
    have hlen : l.length = p.length := by rw [e]; simp
    apply ev_up
    simp only [impl_greatest.l0]
    exact ev_n (by omega) (Ev.now _)
  | cons x r ih =>
    intro p g i hi e
    have hlen : l.length = p.length + r.length + 1 := by rw [e]; simp; omega
    have hx : rd l i = x := by rw [e]; exact rdA hi
    apply ev_up
    simp only [impl_greatest.l0]
    refine ev_p (by omega) (ev_p (by omega) (ev_p (by omega) ?_))
    rw [hx, w64 (n := i + 1) (by omega) (by omega)]
    exact ih (p ++ [x]) _ (i + 1) (by simp; omega) (by rw [e]; simp)
theorem impl_greatest_ev (l : List Int) (hl : l.length ≤ 1048576) : Ev (fun k => impl_greatest.f k l) (greatM (-1) l) := by
  unfold impl_greatest.f
  exact impl_greatest_l0 l hl l [] (-1) 0 rfl rfl

/-! #### layersOf -/
def layersM (l : List Int) (h : Int) : List Int × Int × Bool := if tracksM l = true ∧ 1 ≤ h ∧ h ≤ 20 then (l.map (· / h), greatM (-1) (l.map (· / h)) + 1, true) else ([], 0, false)
theorem layers_bounds {l : List Int} {h : Int} (ht : ∀ x ∈ l, 0 ≤ x ∧ x ≤ 19) (h1 : 1 ≤ h) : ∀ y ∈ l.map (· / h), 0 ≤ y ∧ y ≤ 1000 := by
  intro y hy
  obtain ⟨x, hx, rfl⟩ := List.mem_map.1 hy
  have := ht x hx
  constructor
  · exact Int.ediv_nonneg this.1 (by omega)
  · have := Int.ediv_le_self h this.1
    omega
theorem layersM_length (l : List Int) (h : Int) : (layersM l h).1.length ≤ 20 := by
  unfold layersM
  split
  · rename_i hh
    simpa using (tracksM_bounds hh.1).1
  · simp
theorem spec_LayersOf_l0 (l : List Int) (h : Int) (hh : 1 ≤ h) (hl : l.length ≤ 20) (ht : ∀ x ∈ l, 0 ≤ x ∧ x ≤ 19) (r : List Int) : ∀ (p : List Int) (i : Int), i = p.length → l = p ++ r →
    Ev (fun k => spec_LayersOf.l0 k h (p.map (· / h)) l l.length i) (l.map (· / h), greatM (-1) (l.map (· / h)) + 1, true) := by
  induction r with
  | nil =>
    intro p i hi e
    have hlen : l.length = p.length := by rw [e]; simp
    have e' : p = l := by rw [e]; simp
    apply ev_up
    simp only [spec_LayersOf.l0]
    rw [e']
    refine ev_n (by omega) (Ev.bind (spec_rtTop_ev _ (by simp; omega) (layers_bounds ht hh)) (Ev.now _))
  | cons x r ih =>
    intro p i hi e
    have hlen : l.length = p.length + r.length + 1 := by rw [e]; simp; omega
    have hx : rd l i = x := by rw [e]; exact rdA hi
    have hxb := ht x (by rw [e]; simp)
    apply ev_up
    simp only [spec_LayersOf.l0]
    refine ev_p (by omega) (ev_p (by omega) (ev_p (by omega) (ev_n (by omega) (ev_p (by simp; omega) ?_))))
    have hd : wrap64 (Int.tdiv x h) = x / h := by
      rw [Int.tdiv_eq_ediv_of_nonneg hxb.1]
      have h1 := Int.ediv_le_self h hxb.1
      have h2 := Int.ediv_nonneg hxb.1 (show 0 ≤ h by omega)
      exact w64 (by omega) (by omega)
    rw [hx, hd, w64 (n := i + 1) (by omega) (by omega), show p.map (· / h) ++ [x / h] = (p ++ [x]).map (· / h) by simp]
    exact ih (p ++ [x]) (i + 1) (by simp; omega) (by rw [e]; simp)
theorem impl_LayersOf_l0 (l : List Int) (h : Int) (hh : 1 ≤ h) (hl : l.length ≤ 20) (ht : ∀ x ∈ l, 0 ≤ x ∧ x ≤ 19) (r : List Int) : ∀ (p : List Int) (i : Int), i = p.length → l = p ++ r →
    Ev (fun k => impl_LayersOf.l0 k h (p.map (· / h)) l l.length i) (l.map (· / h), greatM (-1) (l.map (· / h)) + 1, true) := by
  induction r with
  | nil =>
    intro p i hi e
    have hlen : l.length = p.length := by rw [e]; simp
    have e' : p = l := by rw [e]; simp
    apply ev_up
    simp only [impl_LayersOf.l0]
    rw [e']
    have hb := greatM_bound (l := l.map (· / h)) (g := -1) (by omega) (by omega) (layers_bounds ht hh)
    refine ev_n (by omega) (Ev.bind (impl_greatest_ev _ (by simp; omega)) ?_)
    rw [w64 (by omega) (by omega)]
    exact Ev.now _
  | cons x r ih =>
    intro p i hi e
    have hlen : l.length = p.length + r.length + 1 := by rw [e]; simp; omega
    have hx : rd l i = x := by rw [e]; exact rdA hi
    have hxb := ht x (by rw [e]; simp)
    apply ev_up
    simp only [impl_LayersOf.l0]
    refine ev_p (by omega) (ev_p (by omega) (ev_p (by omega) (ev_n (by omega) (ev_p (by simp; omega) ?_))))
    have hd : wrap64 (Int.tdiv x h) = x / h := by
      rw [Int.tdiv_eq_ediv_of_nonneg hxb.1]
      have h1 := Int.ediv_le_self h hxb.1
      have h2 := Int.ediv_nonneg hxb.1 (show 0 ≤ h by omega)
      exact w64 (by omega) (by omega)
    rw [hx, hd, w64 (n := i + 1) (by omega) (by omega), show p.map (· / h) ++ [x / h] = (p ++ [x]).map (· / h) by simp]
    exact ih (p ++ [x]) (i + 1) (by simp; omega) (by rw [e]; simp)
theorem spec_LayersOf_ev (l : List Int) (h : Int) (hl : l.length ≤ 9223372036854775807) : Ev (fun k => spec_LayersOf.f k l h) (layersM l h) := by
  unfold spec_LayersOf.f layersM
  refine Ev.bind (spec_rtTracks_ev l hl) (ev_ite (fun h1 => ?_) (fun h1 => ?_))
  · rw [l1In_eq]
    refine Ev.bind (ev_c rfl) (ev_up ?_)
    simp only [spec_LayersOf.j0]
    obtain ⟨hb, ht⟩ := tracksM_bounds h1
    by_cases h2 : 1 ≤ h ∧ h ≤ 20
    · rw [if_pos ⟨h1, h2⟩]
      refine ev_n (by simp; omega) ?_
      exact spec_LayersOf_l0 l h h2.1 hb ht l [] 0 rfl rfl
    · rw [if_neg (fun hh => h2 hh.2)]
      exact ev_p (by rw [decide_eq_false h2]; rfl) (Ev.now _)
  · rw [if_neg (fun hh => h1 hh.1)]
    refine ev_up ?_
    simp only [spec_LayersOf.j0]
    exact ev_p (by trivial) (Ev.now _)
theorem impl_LayersOf_ev (l : List Int) (h : Int) (hl : l.length ≤ 9223372036854775807) : Ev (fun k => impl_LayersOf.f k l h) (layersM l h) := by
  unfold impl_LayersOf.f layersM
  refine Ev.bind (impl_areTracks_ev l hl) (ev_ite (fun h1 => ?_) (fun h1 => ?_))
  · obtain ⟨hb, ht⟩ := tracksM_bounds h1
    refine ev_ite (fun h2 => ?_) (fun h2 => ?_)
    · rw [if_neg (by omega)]
      refine ev_up ?_
      simp only [impl_LayersOf.j0]
      exact ev_p (by trivial) (Ev.now _)
    · refine ev_up ?_
      simp only [impl_LayersOf.j0]
      refine ev_ite (fun h3 => ?_) (fun h3 => ?_)
      · have h3' := of_decide_eq_true h3
        rw [if_neg (by omega)]
        exact Ev.now _
      · have h3' : ¬ h > 20 := fun hh => h3 (decide_eq_true hh)
        rw [if_pos ⟨h1, by omega, by omega⟩]
        exact impl_LayersOf_l0 l h (by omega) hb ht l [] 0 rfl rfl
  · rw [if_neg (fun hh => h1 hh.1)]
    refine ev_up ?_
    simp only [impl_LayersOf.j0]
    exact ev_p (by trivial) (Ev.now _)

/-! #### toIntS -/
theorem toIntS_l0 (r : List Int) : ∀ (p z : List Int) (i : Int), i = p.length → z.length = r.length → p.length + r.length ≤ 9223372036854775806 →
    Ev (fun k => laws_toIntS.l0 k (p ++ r) (p ++ z) i) (p ++ r) := by
  induction r with
  | nil =>
    intro p z i hi hz hb
    obtain rfl : z = [] := List.length_eq_zero_iff.1 hz
    apply ev_up
    simp only [laws_toIntS.l0]
    refine ev_n (by simp; omega) ?_
    exact Ev.now _
  | cons x r ih =>
    intro p z i hi hz hb
    match z, hz with
    | y :: z, hz =>
      simp only [List.length_cons] at hz hb
      apply ev_up
      simp only [laws_toIntS.l0]
      refine ev_p (by simp; omega) (ev_p (by omega) (ev_p (by simp; omega) ?_))
      rw [rdA hi, setA hi, w64 (by omega) (by omega), appA]
      exact ih (p ++ [x]) z (i + 1) (by simp; omega) (by omega) (by simp; omega)
theorem toIntS_ev (a : List Int) (h : a.length ≤ 35184372088832) : Ev (fun k => laws_toIntS.f k a) a := by
  unfold laws_toIntS.f
  refine ev_p (by omega) (ev_p (by omega) ?_)
  exact toIntS_l0 a [] (List.replicate ((a.length : Int)).toNat 0) 0 rfl (by simp) (by simp; omega)
/-! #### eqIntS -/
theorem eqIntS_l0 (r : List Int) : ∀ (s p q : List Int) (i : Int), i = p.length → p.length = q.length → r.length = s.length → p.length + r.length ≤ 9223372036854775807 →
    Ev (fun k => laws_eqIntS.l0 k (p ++ r) (q ++ s) i) (decide (r = s)) := by
  induction r with
  | nil =>
    intro s p q i hi hpq hrs hb
    obtain rfl : s = [] := List.length_eq_zero_iff.1 hrs.symm
    apply ev_up
    simp only [laws_eqIntS.l0]
    refine ev_n (by simp; omega) ?_
    simpa using Ev.now true
  | cons x r ih =>
    intro s p q i hi hpq hrs hb
    match s, hrs with
    | y :: s, hrs =>
      simp only [List.length_cons] at hrs hb
      apply ev_up
      simp only [laws_eqIntS.l0]
      refine ev_p (by simp; omega) (ev_p (by omega) (ev_p (by simp; omega) ?_))
      rw [rdA hi, rdA (by omega)]
      refine ev_ite (fun hxy => ?_) (fun hxy => ?_)
      · subst hxy
        rw [w64 (by omega) (by omega), appA, appA (p := q)]
        refine ev_eq (ih s (p ++ [x]) (q ++ [x]) (i + 1) (by simp; omega) (by simp; omega) (by omega) (by simp; omega)) ?_
        simp
      · refine ev_eq (Ev.now false) ?_
        simp [hxy]
theorem eqIntS_ev (a b : List Int) (h : a.length ≤ 9223372036854775807) : Ev (fun k => laws_eqIntS.f k a b) (decide (a = b)) := by
  unfold laws_eqIntS.f
  refine ev_ite (fun hl => ?_) (fun hl => ?_)
  · exact eqIntS_l0 a b [] [] 0 rfl rfl (by omega) (by simpa using h)
  · refine ev_eq (Ev.now false) ?_
    symm
    apply decide_eq_false
    rintro rfl
    exact hl rfl

/-! #### markIntS -/
theorem markIntS_l0 (r : List Int) : ∀ (p : List Int) (s i : Int), i = p.length → p.length + r.length ≤ 9223372036854775807 → 0 ≤ s → s + r.length ≤ 9223372036854775807 →
    Ev (fun k => laws_markIntS.l0 k (p ++ r) s i) (s + r.length, p ++ seqFrom s r.length) := by
  induction r with
  | nil =>
    intro p s i hi hb h0 hs
    apply ev_up
    simp only [laws_markIntS.l0]
    refine ev_n (by simp; omega) ?_
    simpa [seqFrom] using Ev.now (s, p)
  | cons x r ih =>
    intro p s i hi hb h0 hs
    simp only [List.length_cons, Int.natCast_add] at hb hs
    apply ev_up
    simp only [laws_markIntS.l0]
    refine ev_p (by simp; omega) (ev_p (by omega) ?_)
    rw [setA hi, w64 (by omega) (by omega), w64 (by omega) (by omega)]
    refine ev_eq (ih (p ++ [s]) (s + 1) (i + 1) (by simp; omega) (by simp; omega) (by omega) (by omega)) ?_
    simp [seqFrom]
    omega
theorem markIntS_ev (a : List Int) (s : Int) (h0 : 0 ≤ s) (h : a.length + s ≤ 9223372036854775807) : Ev (fun k => laws_markIntS.f k a s) (s + a.length, seqFrom s a.length) := by
  unfold laws_markIntS.f
  exact markIntS_l0 a [] s 0 rfl (by simp; omega) h0 (by omega)

/-! #### heldIntS -/
theorem heldIntS_l0 (n : Nat) : ∀ (p : List Int) (s i : Int), i = p.length → p.length + n ≤ 9223372036854775807 → 0 ≤ s → s + n ≤ 9223372036854775807 →
    Ev (fun k => laws_heldIntS.l0 k (p ++ seqFrom s n) s i) (s + n) := by
  induction n with
  | zero =>
    intro p s i hi hb h0 hs
    apply ev_up
    simp only [laws_heldIntS.l0]
    refine ev_n (by simp [seqFrom]; omega) ?_
    simpa [seqFrom] using Ev.now s
  | succ n ih =>
    intro p s i hi hb h0 hs
    apply ev_up
    simp only [laws_heldIntS.l0]
    have hl := seqFrom_length s (n + 1)
    refine ev_p (by simp [hl]; omega) (ev_p (by omega) ?_)
    refine ev_p (by simp only [seqFrom]; exact rdA hi) ?_
    simp only [seqFrom]
    rw [appA, w64 (by omega) (by omega), w64 (by omega) (by omega)]
    refine ev_eq (ih (p ++ [s]) (s + 1) (i + 1) (by simp; omega) (by simp; omega) (by omega) (by omega)) ?_
    omega
theorem heldIntS_ev (n : Nat) (s : Int) (h0 : 0 ≤ s) (h : n + s ≤ 9223372036854775807) : Ev (fun k => laws_heldIntS.f k (seqFrom s n) s) (s + n) := by
  unfold laws_heldIntS.f
  exact heldIntS_l0 n [] s 0 rfl (by simp; omega) h0 (by omega)

/-! #### FnExactLayersOf -/
theorem FnExactLayersOf (l0 : List Int) (a1 : Int) : (l0.length ≤ 9223372036854775807 ∧ ∀ y1 ∈ l0, I64 y1) → I64 a1 → ∃ k, laws_FnExactLayersOf.f k l0 a1 = some true := by
  rintro ⟨hm, _⟩ _
  apply ev_get
  unfold laws_FnExactLayersOf.f
  refine ev_ite (fun _ => Ev.now _) (fun hlen => ?_)
  have hl2 : l0.length ≤ 1048576 := by omega
  have hto := toIntS_ev l0 (by omega)
  have heq0 : Ev (fun k => laws_eqIntS.f k l0 l0) true := by simpa using eqIntS_ev l0 l0 (by omega)
  have hs := spec_LayersOf_ev l0 a1 (by omega)
  have hi := impl_LayersOf_ev l0 a1 (by omega)
  have hl := layersM_length l0 a1
  generalize layersM l0 a1 = R at hl hs hi
  have heq : Ev (fun k => laws_eqIntS.f k R.1 R.1) true := by simpa using eqIntS_ev R.1 R.1 (by omega)
  have hmark := markIntS_ev R.1 1 (by omega) (by omega)
  have hheld := heldIntS_ev R.1.length 1 (by omega) (by omega)
  have hmark0 := markIntS_ev l0 1 (by omega) (by omega)
  repeat (first
    | (with_reducible exact Ev.now _)
    | (with_reducible refine Ev.bind hto ?_)
    | (with_reducible refine Ev.bind hs ?_)
    | (with_reducible refine Ev.bind hi ?_)
    | (with_reducible refine Ev.bind heq ?_)
    | (with_reducible refine Ev.bind heq0 ?_)
    | (with_reducible refine Ev.bind hmark ?_)
    | (with_reducible refine Ev.bind hmark0 ?_)
    | (with_reducible refine Ev.bind hheld ?_)
    | (with_reducible refine ev_p rfl ?_)
    | (with_reducible refine ev_p True.intro ?_)
    | (refine ev_n ?h ?_; case h => (first | omega | (simp; done) | (simp; omega)))
    | (with_reducible refine ev_up (g := fun n => laws_FnExactLayersOf.j0 n _ _ _ _ _ _ _ _ _ _) ?_; simp only [laws_FnExactLayersOf.j0, bne_self_eq_false])
    | (with_reducible refine ev_up (g := fun n => laws_FnExactLayersOf.j1 n _ _ _ _ _ _ _) ?_; simp only [laws_FnExactLayersOf.j1, bne_self_eq_false])
    | (with_reducible refine ev_up (g := fun n => laws_FnExactLayersOf.j2 n _ _ _) ?_; simp only [laws_FnExactLayersOf.j2, bne_self_eq_false]))

end Go.Proofs.Ytgildlmeaengoaa.Pure
