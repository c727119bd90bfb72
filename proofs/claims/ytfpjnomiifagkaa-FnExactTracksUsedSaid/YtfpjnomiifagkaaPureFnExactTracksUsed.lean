/- The pure part of the law FnExactTracksUsed: what the program and the reference compute is the same, for all arguments. Conditions: the numbers are of Go's int, the lengths of slices are. -/
import Derived.Test.YtfpjnomiifagkaaQFnExactTracksUsedx2
import Derived.Test.YtfpjnomiifagkaaKit
set_option linter.unusedVariables false
set_option linter.unusedSimpArgs false
namespace Go.Proofs.Ytfpjnomiifagkaa.Pure
open Go.RowKit Go.Proofs.Ytfpjnomiifagkaa.QFnExactTracksUsed Go.Proofs.YtfpjnomiifagkaaW.PrintWords Go.Proofs.YtfpjnomiifagkaaW.PrintLast Go.Proofs.Ytfpjnomiifagkaa.Open Go.Proofs.Ytfpjnomiifagkaa.Kit

/-! #### l1In -/
theorem l1In_eq (a b c : Int) : spec_l1In.f a b c = some (decide (b ≤ a ∧ a ≤ c)) := by
  unfold spec_l1In.f
  by_cases h : b ≤ a
  · rw [if_pos h]; simp [h]
  · rw [if_neg h]; simp [h]

/-! #### l1All -/
def inB (a b : Int) (x : Int) : Bool := decide (a ≤ x ∧ x ≤ b)
theorem l1All_l0 (l : List Int) (a b : Int) (hl : l.length ≤ 9223372036854775807) (r : List Int) : ∀ (p : List Int) (i : Int), i = p.length → l = p ++ r →
    Ev (fun k => spec_l1All.l0 k a b l l.length i) (r.all (inB a b)) := by
  induction r with
  | nil =>
    intro p i hi e
    have hlen : l.length = p.length := by rw [e]; simp
    apply ev_up
    simp only [spec_l1All.l0]
    exact ev_n (by omega) (Ev.now _)
  | cons x r ih =>
    intro p i hi e
    have hlen : l.length = p.length + r.length + 1 := by rw [e]; simp; omega
    have hx : rd l i = x := by rw [e]; exact rdA hi
    have ih' := ih (p ++ [x]) (i + 1) (by simp; omega) (by rw [e]; simp)
    apply ev_up
    simp only [spec_l1All.l0]
    refine ev_p (by omega) (ev_p (by omega) (ev_p (by omega) ?_))
    rw [hx, l1In_eq]
    refine Ev.bind (ev_c rfl) ?_
    refine ev_ite (fun h => ?_) (fun h => ?_)
    · rw [w64 (by omega) (by omega)]
      refine ev_eq ih' ?_
      rw [List.all_cons, show inB a b x = true from h, Bool.true_and]
    · refine ev_eq (Ev.now _) ?_
      rw [List.all_cons, show inB a b x = false from decide_eq_false (fun hh => h (decide_eq_true hh)), Bool.false_and]
theorem l1All_ev (l : List Int) (a b : Int) (hl : l.length ≤ 9223372036854775807) : Ev (fun k => spec_l1All.f k l a b) (l.all (inB a b)) := by
  unfold spec_l1All.f
  exact l1All_l0 l a b hl l [] 0 rfl rfl

/-! #### tracksM -/
def tracksM (l : List Int) : Bool := decide (l.length ≤ 20) && l.all (inB 0 19)
theorem spec_rtTracks_ev (l : List Int) (hl : l.length ≤ 9223372036854775807) : Ev (fun k => spec_rtTracks.f k l) (tracksM l) := by
  unfold spec_rtTracks.f tracksM
  refine ev_ite (fun h => ?_) (fun h => ?_)
  · rw [decide_eq_true (by omega), Bool.true_and]
    exact Ev.bind (l1All_ev l 0 19 hl) (Ev.now _)
  · rw [decide_eq_false (by omega), Bool.false_and]
    exact Ev.now _
theorem tracksM_bounds {l : List Int} (h : tracksM l = true) : l.length ≤ 20 ∧ ∀ x ∈ l, 0 ≤ x ∧ x ≤ 19 := by
  unfold tracksM at h
  rw [Bool.and_eq_true, List.all_eq_true] at h
  exact ⟨of_decide_eq_true h.1, fun x hx => of_decide_eq_true (h.2 x hx)⟩

/-! #### impl_areTracks -/
theorem impl_areTracks_l0 (l : List Int) (hl : l.length ≤ 9223372036854775807) (r : List Int) : ∀ (p : List Int) (i : Int), i = p.length → l = p ++ r →
    Ev (fun k => impl_areTracks.l0 k l l.length i) (r.all (inB 0 19)) := by
  induction r with
  | nil =>
    intro p i hi e
    have hlen : l.length = p.length := by rw [e]; simp
    apply ev_up
    simp only [impl_areTracks.l0]
    exact ev_n (by omega) (Ev.now _)
  | cons x r ih =>
    intro p i hi e
    have hlen : l.length = p.length + r.length + 1 := by rw [e]; simp; omega
    have hx : rd l i = x := by rw [e]; exact rdA hi
    have ih' := ih (p ++ [x]) (i + 1) (by simp; omega) (by rw [e]; simp)
    apply ev_up
    simp only [impl_areTracks.l0]
    refine ev_p (by omega) (ev_p (by omega) (ev_p (by omega) ?_))
    rw [hx]
    refine ev_ite (fun h => ?_) (fun h => ev_ite (fun h2 => ?_) (fun h2 => ?_))
    · refine ev_eq (Ev.now _) ?_
      rw [List.all_cons, show inB 0 19 x = false from decide_eq_false (by omega), Bool.false_and]
    · refine ev_eq (Ev.now _) ?_
      rw [List.all_cons, show inB 0 19 x = false from decide_eq_false (by omega), Bool.false_and]
    · rw [w64 (by omega) (by omega)]
      refine ev_eq ih' ?_
      rw [List.all_cons, show inB 0 19 x = true from decide_eq_true (by omega), Bool.true_and]
theorem impl_areTracks_ev (l : List Int) (hl : l.length ≤ 9223372036854775807) : Ev (fun k => impl_areTracks.f k l) (tracksM l) := by
  unfold impl_areTracks.f tracksM
  refine ev_ite (fun h => ?_) (fun h => ?_)
  · rw [decide_eq_false (by omega), Bool.false_and]
    exact Ev.now _
  · rw [decide_eq_true (by omega), Bool.true_and]
    exact impl_areTracks_l0 l hl l [] 0 rfl rfl

/-! #### putM -/
/-- A number put into an increasing list. -/
def putM : List Int → Int → List Int
  | [], x => [x]
  | y :: r, x => if y < x then y :: putM r x else if y = x then y :: r else x :: y :: r
theorem putM_mem (l : List Int) (x z : Int) : z ∈ putM l x ↔ z ∈ l ∨ z = x := by
  induction l with
  | nil => simp [putM]
  | cons y r ih =>
    unfold putM
    by_cases h1 : y < x
    · rw [if_pos h1]
      simp only [List.mem_cons, ih, or_assoc]
    · rw [if_neg h1]
      by_cases h2 : y = x
      · rw [if_pos h2]
        subst h2
        constructor
        · intro h; exact .inl h
        · rintro (h | h)
          · exact h
          · simp [h]
      · rw [if_neg h2]
        simp only [List.mem_cons]
        exact ⟨fun h => h.symm, fun h => h.symm⟩
theorem putM_sorted (l : List Int) (x : Int) (h : l.Pairwise (· < ·)) : (putM l x).Pairwise (· < ·) := by
  induction l with
  | nil => simp [putM]
  | cons y r ih =>
    rw [List.pairwise_cons] at h
    unfold putM
    by_cases h1 : y < x
    · rw [if_pos h1, List.pairwise_cons]
      refine ⟨fun z hz => ?_, ih h.2⟩
      rcases (putM_mem r x z).1 hz with hz | hz
      · exact h.1 z hz
      · omega
    · rw [if_neg h1]
      by_cases h2 : y = x
      · rw [if_pos h2, List.pairwise_cons]; exact h
      · rw [if_neg h2, List.pairwise_cons, List.pairwise_cons]
        refine ⟨fun z hz => ?_, h⟩
        rcases List.mem_cons.1 hz with hz | hz
        · omega
        · have := h.1 z hz; omega
theorem putM_length (l : List Int) (x : Int) (h : l.Pairwise (· < ·)) : (putM l x).length = if x ∈ l then l.length else l.length + 1 := by
  induction l with
  | nil => simp [putM]
  | cons y r ih =>
    rw [List.pairwise_cons] at h
    unfold putM
    by_cases h1 : y < x
    · rw [if_pos h1, List.length_cons, ih h.2, List.length_cons]
      have : (x ∈ y :: r) ↔ x ∈ r := by
        rw [List.mem_cons]
        exact ⟨fun hh => hh.resolve_left (by omega), .inr⟩
      by_cases h3 : x ∈ r
      · rw [if_pos h3, if_pos (this.2 h3)]
      · rw [if_neg h3, if_neg (fun hh => h3 (this.1 hh))]
    · rw [if_neg h1]
      by_cases h2 : y = x
      · rw [if_pos h2, if_pos (by simp [h2])]
      · rw [if_neg h2, if_neg]
        · simp
        · intro hh
          rcases List.mem_cons.1 hh with hh | hh
          · omega
          · have := h.1 x hh; omega
theorem spec_l1Put_l0 (l : List Int) (x : Int) (hl : l.length ≤ 1048576) (r : List Int) : ∀ (p : List Int) (i : Int), i = p.length → l = p ++ r →
    Ev (fun k => spec_l1Put.l0 k l x i) (p ++ putM r x) := by
  induction r with
  | nil =>
    intro p i hi e
    have hlen : l.length = p.length := by rw [e]; simp
    apply ev_up
    simp only [spec_l1Put.l0]
    refine ev_n (by omega) ?_
    simp only [Option.bind_some]
    refine ev_p (by omega) (ev_p (by omega) ?_)
    have ht : l.take i.toNat = p := by rw [e]; simp [hi]
    have hd : l.drop i.toNat = [] := by rw [e]; simp [hi]
    rw [ht, hd]
    refine ev_p (by simp; omega) (ev_p (by simp; omega) (ev_p (by simp; omega) ?_))
    refine ev_eq (Ev.now _) ?_
    simp [putM]
  | cons y r ih =>
    intro p i hi e
    have hlen : l.length = p.length + r.length + 1 := by rw [e]; simp; omega
    have hx : rd l i = y := by rw [e]; exact rdA hi
    have ih' := ih (p ++ [y]) (i + 1) (by simp; omega) (by rw [e]; simp)
    have ht : l.take i.toNat = p := by rw [e]; simp [hi]
    have hd : l.drop i.toNat = y :: r := by rw [e]; simp [hi]
    apply ev_up
    simp only [spec_l1Put.l0]
    refine ev_p (by omega) (ev_p (by omega) ?_)
    rw [hx]
    unfold putM
    refine ev_ite (fun h => ?_) (fun h => ev_ite (fun h2 => ?_) (fun h2 => ?_))
    · rw [if_pos h, w64 (by omega) (by omega)]
      refine ev_eq ih' ?_
      simp
    · rw [if_neg h, if_pos h2]
      refine ev_eq (Ev.now _) ?_
      exact e
    · rw [if_neg h, if_neg h2]
      simp only [Option.bind_some]
      rw [ht, hd]
      refine ev_p (by omega) (ev_p (by simp; omega) (ev_p (by simp; omega) (ev_p (by simp; omega) ?_)))
      refine ev_eq (Ev.now _) ?_
      simp
theorem spec_l1Put_ev (l : List Int) (x : Int) (hl : l.length ≤ 1048576) : Ev (fun k => spec_l1Put.f k l x) (putM l x) := by
  unfold spec_l1Put.f
  exact spec_l1Put_l0 l x hl l [] 0 rfl rfl

/-! #### tracksUsed -/
def usedS (l : List Int) : List Int := l.foldl putM []
theorem usedS_len (l : List Int) : ∀ a : List Int, (l.foldl putM a).length ≤ a.length + l.length := by
  induction l with
  | nil => intro a; simp
  | cons x r ih =>
    intro a
    have h1 := ih (putM a x)
    have h2 : (putM a x).length ≤ a.length + 1 := by
      clear h1 ih
      induction a with
      | nil => simp [putM]
      | cons y b ih =>
        unfold putM
        split
        · simp; omega
        · split <;> simp
    simp only [List.foldl_cons, List.length_cons]
    omega
theorem spec_TracksUsed_l0 (l : List Int) (hl : l.length ≤ 20) (r : List Int) : ∀ (p : List Int) (a : List Int) (i : Int), i = p.length → l = p ++ r → a.length ≤ p.length →
    Ev (fun k => spec_TracksUsed.l0 k a l l.length i) (((r.foldl putM a).length : Int), true) := by
  induction r with
  | nil =>
    intro p a i hi e ha
    have hlen : l.length = p.length := by rw [e]; simp
    apply ev_up
    simp only [spec_TracksUsed.l0]
    refine ev_n (by omega) ?_
    exact Ev.now _
  | cons y r ih =>
    intro p a i hi e ha
    have hlen : l.length = p.length + r.length + 1 := by rw [e]; simp; omega
    have hx : rd l i = y := by rw [e]; exact rdA hi
    have h2 := usedS_len [y] a
    have ih' := ih (p ++ [y]) (putM a y) (i + 1) (by simp; omega) (by rw [e]; simp) (by simp at h2 ⊢; omega)
    apply ev_up
    simp only [spec_TracksUsed.l0]
    refine ev_p (by omega) (ev_p (by omega) (ev_p (by omega) ?_))
    rw [hx, w64 (by omega) (by omega)]
    exact Ev.bind (spec_l1Put_ev a y (by omega)) ih'
def tracksUsedM (l : List Int) : Int × Bool := if tracksM l = true then (((usedS l).length : Int), true) else (0, false)
theorem spec_TracksUsed_ev (l : List Int) (hl : l.length ≤ 9223372036854775807) : Ev (fun k => spec_TracksUsed.f k l) (tracksUsedM l) := by
  unfold spec_TracksUsed.f tracksUsedM
  refine Ev.bind (spec_rtTracks_ev l hl) ?_
  refine ev_ite (fun h => ?_) (fun h => ?_)
  · rw [if_pos h]
    exact spec_TracksUsed_l0 l (tracksM_bounds h).1 l [] [] 0 rfl rfl (by simp)
  · rw [if_neg h]
    exact Ev.now _
theorem anyKey (y : Int) (a : List Int) : (a.map (Lit.int .i64)).any (fun z => z.sameKey (.int .i64 y)) = decide (y ∈ a) := by
  induction a with
  | nil => simp
  | cons x r ih =>
    rw [List.map_cons, List.any_cons, ih]
    by_cases h : x = y
    · simp [Lit.sameKey, h]
    · have h' : ¬ y = x := fun e => h e.symm
      simp [Lit.sameKey, h, h']
theorem used_same (l : List Int) : ∀ a b : List Int, a.Pairwise (· < ·) → a.length = b.length → (∀ x, x ∈ a ↔ x ∈ b) →
    (l.foldl putM a).length = ((l.map (Lit.int .i64)).foldl Go.Maps.addKey (b.map (Lit.int .i64))).length := by
  induction l with
  | nil => intro a b _ h _; simpa using h
  | cons x r ih =>
    intro a b hs h hm
    rw [List.foldl_cons, List.map_cons, List.foldl_cons]
    have e : Go.Maps.addKey (b.map (Lit.int .i64)) (.int .i64 x) = (if x ∈ b then b else b ++ [x]).map (Lit.int .i64) := by
      unfold Go.Maps.addKey
      rw [anyKey]
      by_cases hx : x ∈ b <;> simp [hx]
    rw [e]
    refine ih _ _ (putM_sorted a x hs) ?_ ?_
    · rw [putM_length a x hs]
      by_cases hx : x ∈ b
      · rw [if_pos hx, if_pos ((hm x).2 hx), h]
      · rw [if_neg hx, if_neg (fun hh => hx ((hm x).1 hh)), h]; simp
    · intro z
      rw [putM_mem, hm]
      by_cases hx : x ∈ b
      · rw [if_pos hx]
        exact ⟨fun hh => hh.elim id (fun e => e ▸ hx), .inl⟩
      · rw [if_neg hx]; simp
theorem impl_TracksUsed_ev (l : List Int) (hl : l.length ≤ 9223372036854775807) : Ev (fun k => impl_TracksUsed.f k l) (tracksUsedM l) := by
  unfold impl_TracksUsed.f tracksUsedM
  refine Ev.bind (impl_areTracks_ev l hl) ?_
  refine ev_ite (fun h => ?_) (fun h => ?_)
  · rw [if_pos h]
    refine ev_p ?_ (ev_eq (Ev.now _) ?_)
    · unfold impl_TracksUsed.ok
      rw [List.all_eq_true]
      intro x hx
      have := (tracksM_bounds h).2 x hx
      simp; omega
    · have := used_same l [] [] List.Pairwise.nil rfl (fun _ => Iff.rfl)
      unfold usedS impl_TracksUsed.n
      rw [this]; rfl
  · rw [if_neg h]
    exact Ev.now _

/-! #### toIntS -/
theorem toIntS_l0 (r : List Int) : ∀ (p z : List Int) (i : Int), i = p.length → z.length = r.length → p.length + r.length ≤ 9223372036854775806 →
    Ev (fun k => laws_toIntS.l0 k (p ++ r) (p ++ z) i) (p ++ r) := by
  induction r with
  | nil =>
    intro p z i hi hz hb
    obtain rfl : z = [] := List.length_eq_zero_iff.1 hz
    apply ev_up
    simp only [laws_toIntS.l0]
    refine ev_n (by simp; omega) ?_
    exact Ev.now _
  | cons x r ih =>
    intro p z i hi hz hb
    match z, hz with
    | y :: z, hz =>
      simp only [List.length_cons] at hz hb
      apply ev_up
      simp only [laws_toIntS.l0]
      refine ev_p (by simp; omega) (ev_p (by omega) (ev_p (by simp; omega) ?_))
      rw [rdA hi, setA hi, w64 (by omega) (by omega), appA]
      exact ih (p ++ [x]) z (i + 1) (by simp; omega) (by omega) (by simp; omega)
theorem toIntS_ev (a : List Int) (h : a.length ≤ 35184372088832) : Ev (fun k => laws_toIntS.f k a) a := by
  unfold laws_toIntS.f
  refine ev_p (by omega) (ev_p (by omega) ?_)
  exact toIntS_l0 a [] (List.replicate ((a.length : Int)).toNat 0) 0 rfl (by simp) (by simp; omega)
/-! #### eqIntS -/
theorem eqIntS_l0 (r : List Int) : ∀ (s p q : List Int) (i : Int), i = p.length → p.length = q.length → r.length = s.length → p.length + r.length ≤ 9223372036854775807 →
    Ev (fun k => laws_eqIntS.l0 k (p ++ r) (q ++ s) i) (decide (r = s)) := by
  induction r with
  | nil =>
    intro s p q i hi hpq hrs hb
    obtain rfl : s = [] := List.length_eq_zero_iff.1 hrs.symm
    apply ev_up
    simp only [laws_eqIntS.l0]
    refine ev_n (by simp; omega) ?_
    simpa using Ev.now true
  | cons x r ih =>
    intro s p q i hi hpq hrs hb
    match s, hrs with
    | y :: s, hrs =>
      simp only [List.length_cons] at hrs hb
      apply ev_up
      simp only [laws_eqIntS.l0]
      refine ev_p (by simp; omega) (ev_p (by omega) (ev_p (by simp; omega) ?_))
      rw [rdA hi, rdA (by omega)]
      refine ev_ite (fun hxy => ?_) (fun hxy => ?_)
      · subst hxy
        rw [w64 (by omega) (by omega), appA, appA (p := q)]
        refine ev_eq (ih s (p ++ [x]) (q ++ [x]) (i + 1) (by simp; omega) (by simp; omega) (by omega) (by simp; omega)) ?_
        simp
      · refine ev_eq (Ev.now false) ?_
        simp [hxy]
theorem eqIntS_ev (a b : List Int) (h : a.length ≤ 9223372036854775807) : Ev (fun k => laws_eqIntS.f k a b) (decide (a = b)) := by
  unfold laws_eqIntS.f
  refine ev_ite (fun hl => ?_) (fun hl => ?_)
  · exact eqIntS_l0 a b [] [] 0 rfl rfl (by omega) (by simpa using h)
  · refine ev_eq (Ev.now false) ?_
    symm
    apply decide_eq_false
    rintro rfl
    exact hl rfl

/-! #### FnExactTracksUsed -/
theorem FnExactTracksUsed (l0 : List Int) : (l0.length ≤ 9223372036854775807 ∧ ∀ y1 ∈ l0, I64 y1) → ∃ k, laws_FnExactTracksUsed.f k l0 = some true := by
  rintro ⟨hm, _⟩
  apply ev_get
  unfold laws_FnExactTracksUsed.f
  refine ev_ite (fun _ => Ev.now _) (fun hlen => ?_)
  have hl2 : l0.length ≤ 1048576 := by omega
  have hto := toIntS_ev l0 (by omega)
  have heq0 : Ev (fun k => laws_eqIntS.f k l0 l0) true := by simpa using eqIntS_ev l0 l0 (by omega)
  have hs := spec_TracksUsed_ev l0 (by omega)
  have hi := impl_TracksUsed_ev l0 (by omega)
  generalize tracksUsedM l0 = R at hs hi
  repeat (first
    | (with_reducible exact Ev.now _)
    | (with_reducible refine Ev.bind hto ?_)
    | (with_reducible refine Ev.bind hs ?_)
    | (with_reducible refine Ev.bind hi ?_)
    | (with_reducible refine Ev.bind heq0 ?_)
    | (with_reducible refine ev_p rfl ?_)
    | (with_reducible refine ev_p True.intro ?_)
    | (refine ev_n ?h ?_; case h => (first | omega | (simp; done) | (simp; omega)))
    | (with_reducible refine ev_up (g := fun n => laws_FnExactTracksUsed.j0 n _ _ _) ?_; simp only [laws_FnExactTracksUsed.j0, bne_self_eq_false]))

end Go.Proofs.Ytfpjnomiifagkaa.Pure
