/- The pure part of the law FnExactFewestCrossings: what the program and the reference compute is the same, for all arguments. Conditions: the numbers are of Go's int, the lengths of slices are. -/
import Derived.Test.YteefbjkhheghkaaWalkFnExactFewestCrossings
import Derived.Test.YteefbjkhheghkaaKit
set_option linter.unusedVariables false
set_option linter.unusedSimpArgs false
namespace Go.Proofs.Yteefbjkhheghkaa.Pure
open Go.RowKit Go.Proofs.Yteefbjkhheghkaa.QFnExactFewestCrossings Go.Proofs.YteefbjkhheghkaaW.PrintWords Go.Proofs.YteefbjkhheghkaaW.PrintLast Go.Proofs.Yteefbjkhheghkaa.Open Go.Proofs.Yteefbjkhheghkaa.Kit

/-! #### szIntS -/
theorem szIntS_eq (l : List Int) (a : Int) (ha : 0 ≤ a) (ha2 : a ≤ 1048576) (hl : l.length ≤ 9223372036854775807) : laws_szIntS.f l a = some (if l.length ≤ a then a - l.length else -1) := by
  unfold laws_szIntS.f
  rw [w64 (by omega) (by omega)]
  by_cases h : (l.length : Int) ≤ a
  · rw [if_neg (by omega), if_pos h]
  · rw [if_pos (by omega), if_neg h]

/-! #### rdII -/
theorem rdIIA {p r : List (List Int)} {x : List Int} {i : Int} (hi : i = p.length) : rd_L1 (p ++ x :: r) i = x := getDA hi

/-! #### szIntSS -/
theorem szIntSS_l0 (r : List (List Int)) : ∀ (p : List (List Int)) (a i : Int), i = p.length → p.length + r.length ≤ 9223372036854775807 → 0 ≤ a → a ≤ 1048576 → (∀ y ∈ r, y.length ≤ 9223372036854775807) →
    ∃ t, Ev (fun k => laws_szIntSS.l0 k (p ++ r) a i) t ∧ (0 ≤ t → t ≤ a ∧ ∀ y ∈ r, y.length ≤ 1048576) := by
  induction r with
  | nil =>
    intro p a i hi hb h0 h1 hy
    refine ⟨a, ?_, fun _ => ⟨Int.le_refl _, fun y hy => by simp at hy⟩⟩
    apply ev_up
    simp only [laws_szIntSS.l0]
    exact ev_n (by simp; omega) (Ev.now _)
  | cons x r ih =>
    intro p a i hi hb h0 h1 hy
    simp only [List.length_cons] at hb
    have hx := hy x (by simp)
    by_cases hc : (x.length : Int) ≤ a
    · obtain ⟨t, ht, hq⟩ := ih (p ++ [x]) (a - x.length) (i + 1) (by simp; omega) (by simp; omega) (by omega) (by omega) (fun y h => hy y (by simp [h]))
      refine ⟨t, ?_, fun h => ⟨by have := (hq h).1; omega, ?_⟩⟩
      · apply ev_up
        simp only [laws_szIntSS.l0]
        refine ev_p (by simp; omega) (ev_p (by omega) ?_)
        rw [rdIIA hi, szIntS_eq x a h0 h1 hx, if_pos hc]
        refine Ev.bind (ev_c rfl) (ev_n (by omega) ?_)
        rw [w64 (by omega) (by omega), appA]
        exact ht
      · intro y hy'
        simp only [List.mem_cons] at hy'
        rcases hy' with rfl | hy'
        · omega
        · exact (hq h).2 y hy'
    · refine ⟨-1, ?_, fun h => absurd h (by decide)⟩
      apply ev_up
      simp only [laws_szIntSS.l0]
      refine ev_p (by simp; omega) (ev_p (by omega) ?_)
      rw [rdIIA hi, szIntS_eq x a h0 h1 hx, if_neg hc]
      exact Ev.bind (ev_c rfl) (ev_p (by decide) (Ev.now _))
theorem szIntSS_ev (l : List (List Int)) (a : Int) (h0 : 0 ≤ a) (h1 : a ≤ 1048576) (hl : l.length ≤ 9223372036854775807) (hy : ∀ y ∈ l, y.length ≤ 9223372036854775807) :
    ∃ t, Ev (fun k => laws_szIntSS.f k l a) t ∧ (0 ≤ t → t ≤ a ∧ l.length ≤ 1048576 ∧ ∀ y ∈ l, y.length ≤ 1048576) := by
  unfold laws_szIntSS.f
  rw [w64 (by omega) (by omega)]
  by_cases h : (l.length : Int) ≤ a
  · obtain ⟨t, ht, hq⟩ := szIntSS_l0 l [] (a - l.length) 0 rfl (by simpa using hl) (by omega) (by omega) hy
    exact ⟨t, ev_n (by omega) ht, fun h2 => ⟨by have := (hq h2).1; omega, by omega, (hq h2).2⟩⟩
  · exact ⟨-1, ev_p (by omega) (Ev.now _), fun h => absurd h (by decide)⟩

/-! #### toIntS -/
theorem toIntS_l0 (r : List Int) : ∀ (p z : List Int) (i : Int), i = p.length → z.length = r.length → p.length + r.length ≤ 9223372036854775806 →
    Ev (fun k => laws_toIntS.l0 k (p ++ r) (p ++ z) i) (p ++ r) := by
  induction r with
  | nil =>
    intro p z i hi hz hb
    obtain rfl : z = [] := List.length_eq_zero_iff.1 hz
    apply ev_up
    simp only [laws_toIntS.l0]
    refine ev_n (by simp; omega) ?_
    exact Ev.now _
  | cons x r ih =>
    intro p z i hi hz hb
    match z, hz with
    | y :: z, hz =>
      simp only [List.length_cons] at hz hb
      apply ev_up
      simp only [laws_toIntS.l0]
      refine ev_p (by simp; omega) (ev_p (by omega) (ev_p (by simp; omega) ?_))
      rw [rdA hi, setA hi, w64 (by omega) (by omega), appA]
      exact ih (p ++ [x]) z (i + 1) (by simp; omega) (by omega) (by simp; omega)
theorem toIntS_ev (a : List Int) (h : a.length ≤ 35184372088832) : Ev (fun k => laws_toIntS.f k a) a := by
  unfold laws_toIntS.f
  refine ev_p (by omega) (ev_p (by omega) ?_)
  exact toIntS_l0 a [] (List.replicate ((a.length : Int)).toNat 0) 0 rfl (by simp) (by simp; omega)
/-! #### toIntSS -/
theorem toIntSS_l0 (r : List (List Int)) : ∀ (p z : List (List Int)) (i : Int), i = p.length → z.length = r.length → p.length + r.length ≤ 9223372036854775806 → (∀ y ∈ r, y.length ≤ 1048576) →
    Ev (fun k => laws_toIntSS.l0 k (p ++ r) (p ++ z) i) (p ++ r) := by
  induction r with
  | nil =>
    intro p z i hi hz hb hy
    obtain rfl : z = [] := List.length_eq_zero_iff.1 hz
    apply ev_up
    simp only [laws_toIntSS.l0]
    exact ev_n (by simp; omega) (Ev.now _)
  | cons x r ih =>
    intro p z i hi hz hb hy
    match z, hz with
    | y :: z, hz =>
      simp only [List.length_cons] at hz hb
      have hx := hy x (by simp)
      apply ev_up
      simp only [laws_toIntSS.l0]
      refine ev_p (by simp; omega) (ev_p (by omega) ?_)
      rw [rdIIA hi]
      refine Ev.bind (toIntS_ev x (by omega)) (ev_p (by simp; omega) ?_)
      rw [setA hi, w64 (by omega) (by omega), appA]
      exact ih (p ++ [x]) z (i + 1) (by simp; omega) (by omega) (by simp; omega) (fun y h => hy y (by simp [h]))
theorem toIntSS_ev (l : List (List Int)) (h : l.length ≤ 1048576) (hy : ∀ y ∈ l, y.length ≤ 1048576) : Ev (fun k => laws_toIntSS.f k l) l := by
  unfold laws_toIntSS.f
  refine ev_p (by omega) (ev_p (by omega) ?_)
  exact toIntSS_l0 l [] (List.replicate ((l.length : Int)).toNat []) 0 rfl (by simp) (by simp; omega) hy

/-! #### eqIntS -/
theorem eqIntS_l0 (r : List Int) : ∀ (s p q : List Int) (i : Int), i = p.length → p.length = q.length → r.length = s.length → p.length + r.length ≤ 9223372036854775807 →
    Ev (fun k => laws_eqIntS.l0 k (p ++ r) (q ++ s) i) (decide (r = s)) := by
  induction r with
  | nil =>
    intro s p q i hi hpq hrs hb
    obtain rfl : s = [] := List.length_eq_zero_iff.1 hrs.symm
    apply ev_up
    simp only [laws_eqIntS.l0]
    refine ev_n (by simp; omega) ?_
    simpa using Ev.now true
  | cons x r ih =>
    intro s p q i hi hpq hrs hb
    match s, hrs with
    | y :: s, hrs =>
      simp only [List.length_cons] at hrs hb
      apply ev_up
      simp only [laws_eqIntS.l0]
      refine ev_p (by simp; omega) (ev_p (by omega) (ev_p (by simp; omega) ?_))
      rw [rdA hi, rdA (by omega)]
      refine ev_ite (fun hxy => ?_) (fun hxy => ?_)
      · subst hxy
        rw [w64 (by omega) (by omega), appA, appA (p := q)]
        refine ev_eq (ih s (p ++ [x]) (q ++ [x]) (i + 1) (by simp; omega) (by simp; omega) (by omega) (by simp; omega)) ?_
        simp
      · refine ev_eq (Ev.now false) ?_
        simp [hxy]
theorem eqIntS_ev (a b : List Int) (h : a.length ≤ 9223372036854775807) : Ev (fun k => laws_eqIntS.f k a b) (decide (a = b)) := by
  unfold laws_eqIntS.f
  refine ev_ite (fun hl => ?_) (fun hl => ?_)
  · exact eqIntS_l0 a b [] [] 0 rfl rfl (by omega) (by simpa using h)
  · refine ev_eq (Ev.now false) ?_
    symm
    apply decide_eq_false
    rintro rfl
    exact hl rfl

/-! #### eqIntSS -/
theorem eqIntSS_l0 (r : List (List Int)) : ∀ (s p q : List (List Int)) (i : Int), i = p.length → p.length = q.length → r.length = s.length → p.length + r.length ≤ 9223372036854775807 → (∀ y ∈ r, y.length ≤ 9223372036854775807) →
    Ev (fun k => laws_eqIntSS.l0 k (p ++ r) (q ++ s) i) (decide (r = s)) := by
  induction r with
  | nil =>
    intro s p q i hi hpq hrs hb hy
    obtain rfl : s = [] := List.length_eq_zero_iff.1 hrs.symm
    apply ev_up
    simp only [laws_eqIntSS.l0]
    refine ev_n (by simp; omega) ?_
    simpa using Ev.now true
  | cons x r ih =>
    intro s p q i hi hpq hrs hb hy
    match s, hrs with
    | y :: s, hrs =>
      simp only [List.length_cons] at hrs hb
      apply ev_up
      simp only [laws_eqIntSS.l0]
      refine ev_p (by simp; omega) (ev_p (by omega) (ev_p (by simp; omega) ?_))
      rw [rdIIA hi, rdIIA (by omega)]
      refine Ev.bind (eqIntS_ev x y (hy x (by simp))) ?_
      refine ev_ite (fun hxy => ?_) (fun hxy => ?_)
      · obtain rfl := of_decide_eq_true hxy
        rw [w64 (by omega) (by omega), appA, appA (p := q)]
        refine ev_eq (ih s (p ++ [x]) (q ++ [x]) (i + 1) (by simp; omega) (by simp; omega) (by omega) (by simp; omega) (fun y h => hy y (by simp [h]))) ?_
        simp
      · refine ev_eq (Ev.now false) ?_
        have hxy' : ¬ x = y := fun e => hxy (decide_eq_true e)
        simp [hxy']
theorem eqIntSS_ev (a b : List (List Int)) (h : a.length ≤ 9223372036854775807) (hy : ∀ y ∈ a, y.length ≤ 9223372036854775807) : Ev (fun k => laws_eqIntSS.f k a b) (decide (a = b)) := by
  unfold laws_eqIntSS.f
  refine ev_ite (fun hl => ?_) (fun hl => ?_)
  · exact eqIntSS_l0 a b [] [] 0 rfl rfl (by omega) (by simpa using h) hy
  · refine ev_eq (Ev.now false) ?_
    symm
    apply decide_eq_false
    rintro rfl
    exact hl rfl

/-! #### levelWiresM -/
/-- A wire for m points. -/
def goodW (m : Int) : List Int → Bool
  | [a, b] => decide (0 ≤ a ∧ a ≤ 29 ∧ 0 ≤ b ∧ b < m)
  | _ => false
def levelWiresM (l : List (List Int)) (m : Int) : Bool := decide (1 ≤ m ∧ m ≤ 7 ∧ l.length ≤ 30) && l.all (goodW m)
theorem goodW_len {m : Int} {w : List Int} (h : w.length ≠ 2) : goodW m w = false := by
  match w, h with
  | [], _ => rfl
  | [_], _ => rfl
  | [_, _], h => simp at h
  | _ :: _ :: _ :: _, _ => rfl
theorem two_of {w : List Int} (h : w.length = 2) : ∃ a b, w = [a, b] := by
  match w, h with
  | [a, b], _ => exact ⟨a, b, rfl⟩

/-! #### crossM -/
def cross (x y : List Int) : Bool := decide ((rd x 0 - rd y 0) * (rd x 1 - rd y 1) < 0)
def isW (m : Int) (w : List Int) : Prop := ∃ a b, w = [a, b] ∧ 0 ≤ a ∧ a ≤ 29 ∧ 0 ≤ b ∧ b < m
theorem isW_of {m : Int} {w : List Int} (h : goodW m w = true) : isW m w := by
  match w, h with
  | [a, b], h =>
    have := of_decide_eq_true (show decide (0 ≤ a ∧ a ≤ 29 ∧ 0 ≤ b ∧ b < m) = true from h)
    exact ⟨a, b, rfl, this⟩
  | [], h => simp [goodW] at h
  | [_], h => simp [goodW] at h
  | _ :: _ :: _ :: _, h => simp [goodW] at h
theorem levelWiresM_of {l : List (List Int)} {m : Int} (h : levelWiresM l m = true) : 1 ≤ m ∧ m ≤ 7 ∧ l.length ≤ 30 ∧ ∀ w ∈ l, isW m w := by
  unfold levelWiresM at h
  rw [Bool.and_eq_true, List.all_eq_true] at h
  have := of_decide_eq_true h.1
  exact ⟨this.1, this.2.1, this.2.2, fun w hw => isW_of (h.2 w hw)⟩
theorem mul_small {a b : Int} (h1 : -30 ≤ a) (h2 : a ≤ 30) (h3 : -30 ≤ b) (h4 : b ≤ 30) : -900 ≤ a * b ∧ a * b ≤ 900 := by
  have e : ∀ x y : Int, 0 ≤ x → 0 ≤ y → 0 ≤ x * y := fun x y hx hy => Int.mul_nonneg hx hy
  have p1 := e (30 - a) (30 - b) (by omega) (by omega)
  have p2 := e (30 + a) (30 + b) (by omega) (by omega)
  have p3 := e (30 - a) (30 + b) (by omega) (by omega)
  have p4 := e (30 + a) (30 - b) (by omega) (by omega)
  simp only [Int.sub_mul, Int.mul_sub, Int.add_mul, Int.mul_add] at p1 p2 p3 p4
  generalize a * b = c at *
  omega
/-- How many of the pairs with one before cross. -/
def cntM : List (List Int) → List (List Int) → Nat
  | _, [] => 0
  | p, x :: r => p.countP (cross x) + cntM (p ++ [x]) r

/-! #### tabM -/
def hit (a b : List Int) (i k : Nat) : Bool := decide (rd a 1 = i ∧ rd b 1 = k ∧ rd a 1 ≠ rd b 1 ∧ rd a 0 > rd b 0)
def mkRow (m : Nat) (f : Nat → Nat) : List Int := (List.range m).map (fun k => ((f k : Nat) : Int))
def mkT (m : Nat) (T : Nat → Nat → Nat) : List (List Int) := (List.range m).map (fun i => mkRow m (T i))
theorem mkRow_length (m : Nat) (f : Nat → Nat) : (mkRow m f).length = m := by simp [mkRow]
theorem mkT_length (m : Nat) (T : Nat → Nat → Nat) : (mkT m T).length = m := by simp [mkT]
theorem mkRow_rd {m : Nat} {f : Nat → Nat} {k : Nat} (h : k < m) : rd (mkRow m f) (k : Int) = (f k : Nat) := by
  rw [rdN (by rw [mkRow_length]; exact h)]
  simp [mkRow]
theorem mkT_rd {m : Nat} {T : Nat → Nat → Nat} {i : Nat} (h : i < m) : rd_L1 (mkT m T) (i : Int) = mkRow m (T i) := by
  have e : rd_L1 (mkT m T) (i : Int) = (mkT m T)[i]'(by rw [mkT_length]; exact h) := getDN (by rw [mkT_length]; exact h)
  rw [e]
  simp [mkT]
theorem mkRow_set {m : Nat} {f : Nat → Nat} {k v : Nat} (h : k < m) : (mkRow m f).set k (v : Int) = mkRow m (fun j => if j = k then v else f j) := by
  apply List.ext_getElem
  · simp [mkRow]
  · intro n h1 h2
    rw [List.getElem_set]
    simp only [mkRow, List.getElem_map, List.getElem_range]
    by_cases e : n = k
    · rw [if_pos e.symm, if_pos e]
    · rw [if_neg (fun h => e h.symm), if_neg e]
theorem mkT_set {m : Nat} {T : Nat → Nat → Nat} {i : Nat} {g : Nat → Nat} (h : i < m) : (mkT m T).set i (mkRow m g) = mkT m (fun j => if j = i then g else T j) := by
  apply List.ext_getElem
  · simp [mkT]
  · intro n h1 h2
    rw [List.getElem_set]
    simp only [mkT, List.getElem_map, List.getElem_range]
    by_cases e : n = i
    · rw [if_pos e.symm, if_pos e]
    · rw [if_neg (fun h => e h.symm), if_neg e]
theorem mkT_congr {m : Nat} {T U : Nat → Nat → Nat} (h : ∀ i k, i < m → k < m → T i k = U i k) : mkT m T = mkT m U := by
  unfold mkT mkRow
  apply List.map_congr_left
  intro i hi
  apply List.map_congr_left
  intro k hk
  rw [h i k (by simpa using hi) (by simpa using hk)]
theorem mkRow_congr {m : Nat} {f g : Nat → Nat} (h : ∀ k, k < m → f k = g k) : mkRow m f = mkRow m g := by
  unfold mkRow
  apply List.map_congr_left
  intro k hk
  rw [h k (by simpa using hk)]
/-- How many pairs of a wire of i and one of k cross if i is to the left: by the wires of p, with those of l. -/
def tabP (l p : List (List Int)) (i k : Nat) : Nat := (p.map (fun a => l.countP (fun b => hit a b i k))).sum
def tabM (l : List (List Int)) (m : Nat) : List (List Int) := mkT m (tabP l l)
theorem tabP_le (l p : List (List Int)) (i k : Nat) : tabP l p i k ≤ p.length * l.length := by
  induction p with
  | nil => simp [tabP]
  | cons a p ih =>
    have h1 := List.countP_le_length (p := fun b => hit a b i k) (l := l)
    have h2 : tabP l (a :: p) i k = l.countP (fun b => hit a b i k) + tabP l p i k := rfl
    rw [h2, List.length_cons, Nat.add_mul, Nat.one_mul]
    omega
theorem tabP_snoc (l p : List (List Int)) (a : List Int) (i k : Nat) : tabP l (p ++ [a]) i k = tabP l p i k + l.countP (fun b => hit a b i k) := by
  simp [tabP]

/-! #### pmM -/
theorem pm_elem (n : Nat) : ∀ (d : Nat) (l o : List Int), o ∈ Sep.pm n d l → o.length = l.length + d := by
  intro d
  induction d with
  | zero =>
    intro l o h
    simp [Sep.pm] at h
    rw [h]
    rfl
  | succ d ih =>
    intro l o h
    rw [Sep.pm, List.mem_flatMap] at h
    obtain ⟨i, _, h⟩ := h
    split at h
    · cases h
    · rw [ih _ _ h]
      simp
      omega
theorem pm_small {n : Nat} (hn : n ≤ 8) : (Sep.pm n n []).length ≤ 1000000000 := by
  refine Nat.le_trans (Sep.pm_length hn n []) ?_
  have h := Nat.pow_le_pow_right (show 0 < 8 by decide) hn
  simp only [Nat.reducePow] at h
  omega
theorem fcPick_mem (T : List (List Int)) (m : Nat) (os : List (List Int)) : ∀ (l : List (List Int)) (st : List Int × Int), (∀ o ∈ l, o ∈ os) → (st.1 = [] ∨ st.1 ∈ os) → ((l.foldl (Sep.fcPick T m) st).1 = [] ∨ (l.foldl (Sep.fcPick T m) st).1 ∈ os) := by
  intro l
  induction l with
  | nil => intro st _ h; exact h
  | cons o l ih =>
    intro st hl h
    rw [List.foldl_cons]
    refine ih _ (fun y hy => hl y (List.mem_cons_of_mem _ hy)) ?_
    unfold Sep.fcPick
    split
    · exact Or.inr (hl o List.mem_cons_self)
    · exact h
theorem fcAt_mem (T : List (List Int)) (m : Nat) (os : List (List Int)) (j : Nat) : (Sep.fcAt T m os j).1 = [] ∨ (Sep.fcAt T m os j).1 ∈ os :=
  fcPick_mem T m os _ _ (fun o ho => List.mem_of_mem_take ho) (Or.inl rfl)
theorem fcOk_mk (n : Nat) (h7 : n ≤ 7) (T : Nat → Nat → Nat) : Sep.fcOk (mkT n T) n (Sep.pm n n []) = true := by
  unfold Sep.fcOk
  simp only [Bool.and_eq_true, decide_eq_true_eq, List.all_eq_true]
  refine ⟨⟨⟨⟨?_, ?_⟩, ?_⟩, pm_small (by omega)⟩, by omega⟩
  · rw [mkT_length]; exact Nat.le_refl _
  · intro r hr
    unfold mkT at hr
    obtain ⟨i, _, rfl⟩ := List.mem_map.1 hr
    rw [mkRow_length]
    exact Nat.le_refl _
  · intro o ho
    rw [pm_elem n n [] o ho]
    simp

/-! #### l1In -/
theorem l1In_eq (a b c : Int) : spec_l1In.f a b c = some (decide (b ≤ a ∧ a ≤ c)) := by
  unfold spec_l1In.f
  by_cases h : b ≤ a
  · rw [if_pos h]; simp [h]
  · rw [if_neg h]; simp [h]

/-! #### spec_plWires -/
theorem spec_plWires_l0 (l : List (List Int)) (m : Int) (hm : I64 m) (hl : l.length ≤ 9223372036854775807) (r : List (List Int)) : ∀ (p : List (List Int)) (i : Int), i = p.length → l = p ++ r →
    Ev (fun k => spec_plWires.l0 k l m l l.length i) (decide (1 ≤ m ∧ m ≤ 7 ∧ l.length ≤ 30) && r.all (goodW m)) := by
  unfold I64 at hm
  induction r with
  | nil =>
    intro p i hi e
    have hlen : l.length = p.length := by rw [e]; simp
    apply ev_up
    simp only [spec_plWires.l0]
    refine ev_n (by omega) ?_
    refine ev_ite (fun h => ?_) (fun h => ?_)
    · rw [l1In_eq]
      refine Ev.bind (ev_c rfl) ?_
      refine ev_eq (Ev.now _) ?_
      rw [List.all_nil, Bool.and_true]
      exact decide_eq_decide.2 ⟨fun hh => ⟨hh.1, hh.2, by omega⟩, fun hh => ⟨hh.1, hh.2.1⟩⟩
    · refine ev_eq (Ev.now _) ?_
      rw [List.all_nil, Bool.and_true]
      exact (decide_eq_false (fun hh => h (by omega))).symm
  | cons x r ih =>
    intro p i hi e
    have hlen : l.length = p.length + r.length + 1 := by rw [e]; simp; omega
    have hx : rd_L1 l i = x := by rw [e]; exact rdIIA hi
    have ih' := ih (p ++ [x]) (i + 1) (by simp; omega) (by rw [e]; simp)
    apply ev_up
    simp only [spec_plWires.l0]
    refine ev_p (by omega) (ev_p (by omega) (ev_p (by omega) ?_))
    rw [hx]
    refine ev_ite (fun h2 => ?_) (fun h2 => ?_)
    · obtain ⟨a, b, rfl⟩ := two_of (w := x) (by omega)
      refine ev_p (by simp) ?_
      rw [l1In_eq]
      refine Ev.bind (ev_c rfl) ?_
      have e0 : rd [a, b] 0 = a := rfl
      have e1 : rd [a, b] 1 = b := rfl
      rw [e0, e1]
      refine ev_ite (fun ha => ?_) (fun ha => ?_)
      · have ha' := of_decide_eq_true ha
        refine ev_p (by simp) ?_
        rw [l1In_eq]
        refine Ev.bind (ev_c rfl) ?_
        refine ev_ite (fun hb => ?_) (fun hb => ?_)
        · have hb' := of_decide_eq_true hb
          rw [w64 (by omega) (by omega)]
          refine ev_eq ih' ?_
          by_cases h1 : 1 ≤ m
          · rw [w64 (by omega) (by omega)] at hb'
            have : goodW m [a, b] = true := by simp [goodW]; omega
            simp [this]
          · have : decide (1 ≤ m ∧ m ≤ 7 ∧ l.length ≤ 30) = false := decide_eq_false (fun h => h1 h.1)
            simp [this]
        · refine ev_eq (Ev.now _) ?_
          by_cases h1 : 1 ≤ m
          · rw [w64 (by omega) (by omega)] at hb
            have : goodW m [a, b] = false := by
              simp only [goodW]
              exact decide_eq_false (fun h => hb (decide_eq_true (by omega)))
            simp [this]
          · have : decide (1 ≤ m ∧ m ≤ 7 ∧ l.length ≤ 30) = false := decide_eq_false (fun h => h1 h.1)
            simp [this]
      · refine ev_eq (Ev.now _) ?_
        have : goodW m [a, b] = false := by
          simp only [goodW]
          exact decide_eq_false (fun h => ha (decide_eq_true (by omega)))
        simp [this]
    · refine ev_eq (Ev.now _) ?_
      have : goodW m x = false := goodW_len (by omega)
      simp [this]
theorem spec_plWires_ev (l : List (List Int)) (m : Int) (hm : I64 m) (hl : l.length ≤ 9223372036854775807) : Ev (fun k => spec_plWires.f k l m) (levelWiresM l m) := by
  unfold spec_plWires.f levelWiresM
  exact spec_plWires_l0 l m hm hl l [] 0 rfl rfl

/-! #### spec_plTable -/
theorem spec_plTable_l2 (m : Nat) (hm : m ≤ 7) (l : List (List Int)) (hl : l.length ≤ 30) (i : Nat) (hi : i < m) (acc : List (List Int)) (a : List Int) (ha : isW m a) (xs : List (List Int)) (e j : Int) (res : List (List Int)) (r : List (List Int)) : ∀ (q : List (List Int)) (f : Nat → Nat) (n : Int), n = q.length → l = q ++ r → (∀ w ∈ r, isW m w) → (∀ k, f k + r.length ≤ 100000) →
    Ev (fun k => spec_plTable.l1 k l m acc i (mkRow m (fun k => f k + r.countP (fun b => hit a b i k))) xs e (wrap64 (j + 1))) res → Ev (fun k => spec_plTable.l2 k l m acc i (mkRow m f) a xs e j l l.length n) res := by
  induction r with
  | nil =>
    intro q f n hn el hw hT hk
    have hlen : l.length = q.length := by rw [el]; simp
    apply ev_up
    simp only [spec_plTable.l2]
    refine ev_n (by omega) ?_
    simpa using hk
  | cons b r ih =>
    intro q f n hn el hw hT hk
    have hlen : l.length = q.length + r.length + 1 := by rw [el]; simp; omega
    have hr : rd_L1 l n = b := by rw [el]; exact rdIIA hn
    simp only [List.length_cons] at hT
    obtain ⟨a0, a1, rfl, ha0, ha1, ha2, ha3⟩ := ha
    obtain ⟨b0, b1, rfl, hb0, hb1, hb2, hb3⟩ := hw b (by simp)
    obtain ⟨na, rfl⟩ := nat_of ha2
    obtain ⟨nb, rfl⟩ := nat_of hb2
    have ea0 : rd [a0, (na : Int)] 0 = a0 := rfl
    have ea1 : rd [a0, (na : Int)] 1 = na := rfl
    have eb0 : rd [b0, (nb : Int)] 0 = b0 := rfl
    have eb1 : rd [b0, (nb : Int)] 1 = nb := rfl
    have skip : (∀ k, hit [a0, (na : Int)] [b0, (nb : Int)] i k = false) → Ev (fun k => spec_plTable.l2 k l m acc i (mkRow m f) [a0, (na : Int)] xs e j l l.length (n + 1)) res := fun hf => by
      refine ih (q ++ [[b0, (nb : Int)]]) f (n + 1) (by simp; omega) (by rw [el]; simp) (fun w h => hw w (by simp [h])) (fun k => by have := hT k; omega) ?_
      simpa [hf] using hk
    apply ev_up
    simp only [spec_plTable.l2]
    refine ev_p (by omega) (ev_p (by omega) (ev_p (by omega) (ev_p (by simp) ?_)))
    rw [hr, ea0, ea1, eb0, eb1, w64 (n := n + 1) (by omega) (by omega)]
    refine ev_ite (fun h0 => ev_p (by simp) (ev_ite (fun h1 => ?_) (fun h1 => ?_))) (fun h0 => ?_)
    · exact skip (fun k => decide_eq_false (fun hh => hh.2.2.1 (by rw [ea1, eb1]; omega)))
    · refine ev_p (by simp) (ev_p (by simp) (ev_ite (fun h2 => ?_) (fun h2 => ?_)))
      · have hnb : nb < m := by omega
        refine ev_p (by omega) (ev_p (by rw [mkRow_length]; omega) ?_)
        rw [mkRow_rd hnb, wN (n := ((f nb : Nat) : Int) + 1) (m := f nb + 1) (by omega) (by have := hT nb; omega), Int.toNat_natCast, mkRow_set hnb]
        refine ih (q ++ [[b0, (nb : Int)]]) _ (n + 1) (by simp; omega) (by rw [el]; simp) (fun w h => hw w (by simp [h])) (fun k => ?_) ?_
        · have h3 := hT k
          have h4 := hT nb
          by_cases ek : k = nb
          · simp only [if_pos ek]; omega
          · simp only [if_neg ek]; omega
        · have : mkRow m (fun k => (if k = nb then f nb + 1 else f k) + r.countP (fun b => hit [a0, (na : Int)] b i k)) = mkRow m (fun k => f k + ([b0, (nb : Int)] :: r).countP (fun b => hit [a0, (na : Int)] b i k)) := by
            apply mkRow_congr
            intro k _
            rw [List.countP_cons]
            have eh : hit [a0, (na : Int)] [b0, (nb : Int)] i k = decide (k = nb) := by
              unfold hit
              rw [ea0, ea1, eb0, eb1]
              exact decide_eq_decide.2 ⟨fun h => by omega, fun h => ⟨by omega, by omega, by omega, h2⟩⟩
            rw [eh]
            by_cases ek : k = nb
            · simp [ek]; omega
            · simp [ek]
          rw [this]
          exact hk
      · exact skip (fun k => decide_eq_false (fun hh => h2 (by have := hh.2.2.2; rw [ea0, eb0] at this; exact this)))
    · exact skip (fun k => decide_eq_false (fun hh => h0 (by rw [ea1] at hh; exact hh.1)))
theorem spec_plTable_l1 (m : Nat) (hm : m ≤ 7) (l : List (List Int)) (hl : l.length ≤ 30) (hw : ∀ w ∈ l, isW m w) (i : Nat) (hi : i < m) (acc : List (List Int)) (hacc : acc.length ≤ 7) (res : List (List Int)) (r : List (List Int)) : ∀ (p : List (List Int)) (n : Int), n = p.length → l = p ++ r →
    Ev (fun k => spec_plTable.l0 k l m (acc ++ [mkRow m (tabP l l i)]) (wrap64 ((i : Int) + 1))) res → Ev (fun k => spec_plTable.l1 k l m acc i (mkRow m (tabP l p i)) l l.length n) res := by
  induction r with
  | nil =>
    intro p n hn e hk
    have hlen : l.length = p.length := by rw [e]; simp
    have hp : l = p := by rw [e]; simp
    apply ev_up
    simp only [spec_plTable.l1]
    rw [← hp]
    exact ev_n (by omega) (ev_p (by omega) hk)
  | cons a r ih =>
    intro p n hn e hk
    have hlen : l.length = p.length + r.length + 1 := by rw [e]; simp; omega
    have hr : rd_L1 l n = a := by rw [e]; exact rdIIA hn
    apply ev_up
    simp only [spec_plTable.l1]
    refine ev_p (by omega) (ev_p (by omega) (ev_p (by omega) ?_))
    rw [hr]
    refine spec_plTable_l2 m hm l hl i hi acc a (hw a (by rw [e]; simp)) l l.length n _ l [] (tabP l p i) 0 rfl rfl hw (fun k => ?_) ?_
    · have h1 := tabP_le l p i k
      have h2 : p.length * l.length ≤ 30 * 30 := Nat.mul_le_mul (by omega) hl
      omega
    · rw [w64 (n := n + 1) (by omega) (by omega)]
      have := ih (p ++ [a]) (n + 1) (by simp; omega) (by rw [e]; simp) hk
      have e2 : tabP l (p ++ [a]) i = fun k => tabP l p i k + l.countP (fun b => hit a b i k) := by
        funext k
        exact tabP_snoc l p a i k
      rw [e2] at this
      exact this
theorem spec_plTable_l0 (m : Nat) (hm : m ≤ 7) (l : List (List Int)) (hl : l.length ≤ 30) (hw : ∀ w ∈ l, isW m w) (d : Nat) : ∀ (i : Nat), i + d = m →
    Ev (fun k => spec_plTable.l0 k l m ((List.range i).map (fun i => mkRow m (tabP l l i))) i) (tabM l m) := by
  induction d with
  | zero =>
    intro i hi
    apply ev_up
    simp only [spec_plTable.l0]
    have e : i = m := by omega
    subst e
    exact ev_n (by omega) (Ev.now _)
  | succ d ih =>
    intro i hi
    apply ev_up
    simp only [spec_plTable.l0]
    refine ev_p (by omega) (ev_p (by omega) (ev_p (by omega) ?_))
    have e0 : List.replicate ((m : Int)).toNat (0 : Int) = mkRow m (tabP l [] i) := by
      have e1 : mkRow m (tabP l [] i) = (List.range m).map (fun _ => (0 : Int)) := rfl
      rw [e1, List.map_const', List.length_range, Int.toNat_natCast]
    rw [e0]
    refine spec_plTable_l1 m hm l hl hw i (by omega) _ (by simp; omega) _ l [] 0 rfl rfl ?_
    rw [wN (n := (i : Int) + 1) (m := i + 1) (by omega) (by omega)]
    have := ih (i + 1) (by omega)
    rw [List.range_succ, List.map_append] at this
    exact this
theorem spec_plTable_ev (m : Nat) (hm : m ≤ 7) (l : List (List Int)) (hl : l.length ≤ 30) (hw : ∀ w ∈ l, isW m w) : Ev (fun k => spec_plTable.f k l m) (tabM l m) := by
  unfold spec_plTable.f
  exact spec_plTable_l0 m hm l hl hw m 0 (by omega)

/-! #### impl_crossingTable -/
theorem impl_crossingTable_l2 (m : Nat) (hm : m ≤ 7) (l : List (List Int)) (hl : l.length ≤ 30) (a : List Int) (ha : isW m a) (xs : List (List Int)) (e j : Int) (res : List (List Int)) (r : List (List Int)) : ∀ (q : List (List Int)) (T : Nat → Nat → Nat) (i : Int), i = q.length → l = q ++ r → (∀ w ∈ r, isW m w) → (∀ i k, T i k + r.length ≤ 100000) →
    Ev (fun k => impl_crossingTable.l1 k l (mkT m (fun i k => T i k + r.countP (fun b => hit a b i k))) xs e (wrap64 (j + 1))) res → Ev (fun k => impl_crossingTable.l2 k l (mkT m T) a xs e j l l.length i) res := by
  induction r with
  | nil =>
    intro q T i hi el hw hT hk
    have hlen : l.length = q.length := by rw [el]; simp
    apply ev_up
    simp only [impl_crossingTable.l2]
    refine ev_n (by omega) ?_
    simpa using hk
  | cons b r ih =>
    intro q T i hi el hw hT hk
    have hlen : l.length = q.length + r.length + 1 := by rw [el]; simp; omega
    have hr : rd_L1 l i = b := by rw [el]; exact rdIIA hi
    simp only [List.length_cons] at hT
    obtain ⟨a0, a1, rfl, ha0, ha1, ha2, ha3⟩ := ha
    obtain ⟨b0, b1, rfl, hb0, hb1, hb2, hb3⟩ := hw b (by simp)
    obtain ⟨na, rfl⟩ := nat_of ha2
    obtain ⟨nb, rfl⟩ := nat_of hb2
    have ea0 : rd [a0, (na : Int)] 0 = a0 := rfl
    have ea1 : rd [a0, (na : Int)] 1 = na := rfl
    have eb0 : rd [b0, (nb : Int)] 0 = b0 := rfl
    have eb1 : rd [b0, (nb : Int)] 1 = nb := rfl
    have skip : (∀ i k, hit [a0, (na : Int)] [b0, (nb : Int)] i k = false) → Ev (fun k => impl_crossingTable.l2 k l (mkT m T) [a0, (na : Int)] xs e j l l.length (i + 1)) res := fun hf => by
      refine ih (q ++ [[b0, (nb : Int)]]) T (i + 1) (by simp; omega) (by rw [el]; simp) (fun w h => hw w (by simp [h])) (fun i k => by have := hT i k; omega) ?_
      simpa [hf] using hk
    apply ev_up
    simp only [impl_crossingTable.l2]
    refine ev_p (by omega) (ev_p (by omega) (ev_p (by omega) (ev_p (by simp) ?_)))
    rw [hr]
    refine ev_p (by simp) ?_
    rw [ea0, ea1, eb0, eb1, w64 (n := i + 1) (by omega) (by omega)]
    refine ev_ite (fun h1 => ?_) (fun h1 => ?_)
    · exact skip (fun i k => decide_eq_false (fun hh => hh.2.2.1 (by rw [ea1, eb1]; exact h1)))
    · refine ev_p (by simp) (ev_p (by simp) (ev_ite (fun h2 => ?_) (fun h2 => ?_)))
      · have hna : na < m := by omega
        have hnb : nb < m := by omega
        refine ev_p (by omega) (ev_p (by rw [mkT_length]; omega) (ev_p (by omega) ?_))
        rw [mkT_rd hna]
        refine ev_p (by rw [mkRow_length]; omega) ?_
        rw [mkRow_rd hnb, wN (n := ((T na nb : Nat) : Int) + 1) (m := T na nb + 1) (by omega) (by have := hT na nb; omega), Int.toNat_natCast, Int.toNat_natCast, mkRow_set hnb, mkT_set hna]
        refine ih (q ++ [[b0, (nb : Int)]]) _ (i + 1) (by simp; omega) (by rw [el]; simp) (fun w h => hw w (by simp [h])) (fun i k => ?_) ?_
        · have h3 := hT i k
          have h4 := hT na nb
          by_cases ei : i = na
          · subst ei
            simp only [if_true]
            by_cases ek : k = nb
            · rw [if_pos ek]; omega
            · rw [if_neg ek]; omega
          · simp only [if_neg ei]
            omega
        · refine ev_eq (r := res) ?_ rfl
          have : mkT m (fun i k => (if i = na then fun j => if j = nb then T na nb + 1 else T na j else T i) k + r.countP (fun b => hit [a0, (na : Int)] b i k)) = mkT m (fun i k => T i k + ([b0, (nb : Int)] :: r).countP (fun b => hit [a0, (na : Int)] b i k)) := by
            apply mkT_congr
            intro i k _ _
            rw [List.countP_cons]
            have eh : hit [a0, (na : Int)] [b0, (nb : Int)] i k = decide (i = na ∧ k = nb) := by
              unfold hit
              rw [ea0, ea1, eb0, eb1]
              exact decide_eq_decide.2 ⟨fun h => ⟨by omega, by omega⟩, fun h => ⟨by omega, by omega, h1, h2⟩⟩
            rw [eh]
            by_cases ei : i = na
            · subst ei
              simp only [if_true]
              by_cases ek : k = nb
              · simp [ek]; omega
              · simp [ek]
            · simp [ei]
          rw [this]
          exact hk
      · exact skip (fun i k => decide_eq_false (fun hh => h2 (by have := hh.2.2.2; rw [ea0, eb0] at this; exact this)))
theorem impl_crossingTable_l1 (m : Nat) (hm : m ≤ 7) (l : List (List Int)) (hl : l.length ≤ 30) (hw : ∀ w ∈ l, isW m w) (r : List (List Int)) : ∀ (p : List (List Int)) (i : Int), i = p.length → l = p ++ r →
    Ev (fun k => impl_crossingTable.l1 k l (mkT m (tabP l p)) l l.length i) (tabM l m) := by
  induction r with
  | nil =>
    intro p i hi e
    have hlen : l.length = p.length := by rw [e]; simp
    have hp : l = p := by rw [e]; simp
    apply ev_up
    simp only [impl_crossingTable.l1]
    rw [← hp]
    exact ev_n (by omega) (Ev.now _)
  | cons a r ih =>
    intro p i hi e
    have hlen : l.length = p.length + r.length + 1 := by rw [e]; simp; omega
    have hr : rd_L1 l i = a := by rw [e]; exact rdIIA hi
    apply ev_up
    simp only [impl_crossingTable.l1]
    refine ev_p (by omega) (ev_p (by omega) (ev_p (by omega) ?_))
    rw [hr]
    refine impl_crossingTable_l2 m hm l hl a (hw a (by rw [e]; simp)) l l.length i _ l [] (tabP l p) 0 rfl rfl hw (fun i k => ?_) ?_
    · have h1 := tabP_le l p i k
      have h2 : p.length * l.length ≤ 30 * 30 := Nat.mul_le_mul (by omega) hl
      omega
    · rw [w64 (n := i + 1) (by omega) (by omega)]
      have := ih (p ++ [a]) (i + 1) (by simp; omega) (by rw [e]; simp)
      have e2 : tabP l (p ++ [a]) = fun i k => tabP l p i k + l.countP (fun b => hit a b i k) := by
        funext i k
        exact tabP_snoc l p a i k
      rw [e2] at this
      exact this
theorem impl_crossingTable_l0 (m : Nat) (hm : m ≤ 7) (l : List (List Int)) (hl : l.length ≤ 30) (hw : ∀ w ∈ l, isW m w) (d : Nat) : ∀ (i : Nat), i + d = m →
    Ev (fun k => impl_crossingTable.l0 k l m (List.replicate i (List.replicate m 0) ++ List.replicate d []) m i) (tabM l m) := by
  induction d with
  | zero =>
    intro i hi
    apply ev_up
    simp only [impl_crossingTable.l0]
    refine ev_n (by omega) ?_
    have := impl_crossingTable_l1 m hm l hl hw l [] 0 rfl rfl
    have e : mkT m (tabP l []) = List.replicate i (List.replicate m 0) ++ List.replicate 0 [] := by
      have e1 : mkT m (tabP l []) = (List.range m).map (fun _ => (List.range m).map (fun _ => (0 : Int))) := rfl
      rw [e1, List.map_const', List.map_const', List.length_range, List.replicate_zero, List.append_nil, show i = m by omega]
    rw [← e]
    exact this
  | succ d ih =>
    intro i hi
    apply ev_up
    simp only [impl_crossingTable.l0]
    refine ev_p (by omega) (ev_p (by omega) (ev_p (by omega) (ev_p (by omega) (ev_p (by simp; omega) ?_))))
    rw [List.replicate_succ, setA (by simp), Int.toNat_natCast, wN (m := i + 1) (by omega) (by omega)]
    have := ih (i + 1) (by omega)
    rw [List.replicate_succ'] at this
    simpa using this
theorem impl_crossingTable_ev (m : Nat) (hm : m ≤ 7) (l : List (List Int)) (hl : l.length ≤ 30) (hw : ∀ w ∈ l, isW m w) : Ev (fun k => impl_crossingTable.f k l m) (tabM l m) := by
  unfold impl_crossingTable.f
  refine ev_p (by omega) (ev_p (by omega) (Ev.bind (ev_c rfl) ?_))
  rw [Int.toNat_natCast, List.length_replicate]
  exact impl_crossingTable_l0 m hm l hl hw m 0 (by omega)

/-! #### impl_AreLevelWires -/
theorem impl_AreLevelWires_l0 (l : List (List Int)) (m : Int) (hl : l.length ≤ 9223372036854775807) (r : List (List Int)) : ∀ (p : List (List Int)) (i : Int), i = p.length → l = p ++ r →
    Ev (fun k => impl_AreLevelWires.l0 k m l l.length i) (r.all (goodW m)) := by
  induction r with
  | nil =>
    intro p i hi e
    have hlen : l.length = p.length := by rw [e]; simp
    apply ev_up
    simp only [impl_AreLevelWires.l0]
    exact ev_n (by omega) (Ev.now _)
  | cons x r ih =>
    intro p i hi e
    have hlen : l.length = p.length + r.length + 1 := by rw [e]; simp; omega
    have hx : rd_L1 l i = x := by rw [e]; exact rdIIA hi
    have ih' := ih (p ++ [x]) (i + 1) (by simp; omega) (by rw [e]; simp)
    apply ev_up
    simp only [impl_AreLevelWires.l0]
    refine ev_p (by omega) (ev_p (by omega) (ev_p (by omega) ?_))
    rw [hx]
    refine ev_ite (fun h2 => ?_) (fun h2 => ?_)
    · obtain ⟨a, b, rfl⟩ := two_of (w := x) (by omega)
      have e0 : rd [a, b] 0 = a := rfl
      have e1 : rd [a, b] 1 = b := rfl
      rw [e0, e1]
      refine ev_p (by simp) ?_
      by_cases hg : goodW m [a, b] = true
      · have hg' := hg
        simp only [goodW, decide_eq_true_eq] at hg'
        refine ev_n (by omega) (ev_n (by omega) (ev_p (by simp) (ev_n (by omega) (ev_n (by omega) ?_))))
        rw [w64 (by omega) (by omega)]
        refine ev_eq ih' ?_
        simp [hg]
      · have hf : goodW m [a, b] = false := by simpa using hg
        have er : false = (([a, b] :: r).all (goodW m)) := by simp [hf]
        rw [← er]
        refine ev_ite (fun _ => Ev.now _) (fun c1 => ev_ite (fun _ => Ev.now _) (fun c2 => ev_p (by simp) (ev_ite (fun _ => Ev.now _) (fun c3 => ev_ite (fun _ => Ev.now _) (fun c4 => ?_)))))
        exact absurd (by simp only [goodW]; exact decide_eq_true (by omega)) hg
    · refine ev_eq (Ev.now _) ?_
      have : goodW m x = false := goodW_len (by omega)
      simp [this]
theorem impl_AreLevelWires_ev (l : List (List Int)) (m : Int) (hl : l.length ≤ 9223372036854775807) : Ev (fun k => impl_AreLevelWires.f k l m) (levelWiresM l m) := by
  have h0 := impl_AreLevelWires_l0 l m hl l [] 0 rfl rfl
  unfold impl_AreLevelWires.f levelWiresM
  refine ev_ite (fun h1 => ?_) (fun h1 => ev_ite (fun h2 => ?_) (fun h2 => ?_))
  · apply ev_up
    simp only [impl_AreLevelWires.j0]
    refine ev_p (by simp) (ev_eq (Ev.now _) ?_)
    rw [decide_eq_false (by omega), Bool.false_and]
  · apply ev_up
    simp only [impl_AreLevelWires.j0]
    refine ev_p (by simp) (ev_eq (Ev.now _) ?_)
    rw [decide_eq_false (by omega), Bool.false_and]
  · apply ev_up
    simp only [impl_AreLevelWires.j0]
    refine ev_ite (fun h3 => ?_) (fun h3 => ?_)
    · have h3' := of_decide_eq_true h3
      refine ev_eq (Ev.now _) ?_
      rw [decide_eq_false (by omega), Bool.false_and]
    · have h3' : ¬ (l.length : Int) > 30 := fun h => h3 (decide_eq_true h)
      refine ev_eq h0 ?_
      rw [decide_eq_true (by omega), Bool.true_and]

/-! #### levelNat -/
theorem levelWires_nat {l : List (List Int)} {m : Int} (h : levelWiresM l m = true) : ∃ n : Nat, m = n ∧ 1 ≤ n ∧ n ≤ 7 ∧ l.length ≤ 30 ∧ ∀ w ∈ l, isW n w := by
  obtain ⟨h1, h2, h3, h4⟩ := levelWiresM_of h
  obtain ⟨n, rfl⟩ := nat_of (show 0 ≤ m by omega)
  exact ⟨n, rfl, by omega, by omega, h3, h4⟩

/-! #### fewestM -/
theorem FewestCrossings_ev (l : List (List Int)) (m : Int) (hm : I64 m) (hl : l.length ≤ 9223372036854775807) :
    ∃ R, R.1.length ≤ 7 ∧ Ev (fun k => spec_FewestCrossings.f k l m) R ∧ Ev (fun k => impl_FewestCrossings.f k l m) R := by
  unfold spec_FewestCrossings.f impl_FewestCrossings.f
  by_cases h : levelWiresM l m = true
  · obtain ⟨n, rfl, h1, h7, h30, hw⟩ := levelWires_nat h
    refine ⟨((Sep.fcAt (tabM l n) n (Sep.pm n n []) (Sep.pm n n []).length).1, (Sep.fcAt (tabM l n) n (Sep.pm n n []) (Sep.pm n n []).length).2, true), ?_, Ev.bind (spec_plWires_ev l n hm hl) (ev_p h (Ev.bind (spec_plTable_ev n h7 l h30 hw) ?_)), Ev.bind (impl_AreLevelWires_ev l n hl) (ev_p h (Ev.bind (impl_crossingTable_ev n h7 l h30 hw) ?_))⟩
    · rcases fcAt_mem (tabM l n) n (Sep.pm n n []) (Sep.pm n n []).length with e | e
      · rw [e]; simp
      · have := pm_elem n n [] _ e
        simp at this ⊢
        omega
    · exact ⟨100, fun k hk => by show (if _ then _ else _) = _; rw [if_pos ⟨by omega, by omega, hk, by rw [Int.toNat_natCast]; exact (show Sep.fcOk (tabM l n) n (Sep.pm n n []) = true from fcOk_mk n h7 (tabP l l))⟩, Int.toNat_natCast]⟩
    · exact ⟨100, fun k hk => by show (if _ then _ else _) = _; rw [if_pos ⟨by omega, by omega, hk, by rw [Int.toNat_natCast]; exact (show Sep.fcOk (tabM l n) n (Sep.pm n n []) = true from fcOk_mk n h7 (tabP l l))⟩, Int.toNat_natCast]⟩
  · exact ⟨([], 0, false), by simp, Ev.bind (spec_plWires_ev l m hm hl) (ev_n h (Ev.now _)), Ev.bind (impl_AreLevelWires_ev l m hl) (ev_n h (Ev.now _))⟩

/-! #### markIntS -/
theorem markIntS_l0 (r : List Int) : ∀ (p : List Int) (s i : Int), i = p.length → p.length + r.length ≤ 9223372036854775807 → 0 ≤ s → s + r.length ≤ 9223372036854775807 →
    Ev (fun k => laws_markIntS.l0 k (p ++ r) s i) (s + r.length, p ++ seqFrom s r.length) := by
  induction r with
  | nil =>
    intro p s i hi hb h0 hs
    apply ev_up
    simp only [laws_markIntS.l0]
    refine ev_n (by simp; omega) ?_
    simpa [seqFrom] using Ev.now (s, p)
  | cons x r ih =>
    intro p s i hi hb h0 hs
    simp only [List.length_cons, Int.natCast_add] at hb hs
    apply ev_up
    simp only [laws_markIntS.l0]
    refine ev_p (by simp; omega) (ev_p (by omega) ?_)
    rw [setA hi, w64 (by omega) (by omega), w64 (by omega) (by omega)]
    refine ev_eq (ih (p ++ [s]) (s + 1) (i + 1) (by simp; omega) (by simp; omega) (by omega) (by omega)) ?_
    simp [seqFrom]
    omega
theorem markIntS_ev (a : List Int) (s : Int) (h0 : 0 ≤ s) (h : a.length + s ≤ 9223372036854775807) : Ev (fun k => laws_markIntS.f k a s) (s + a.length, seqFrom s a.length) := by
  unfold laws_markIntS.f
  exact markIntS_l0 a [] s 0 rfl (by simp; omega) h0 (by omega)

/-! #### heldIntS -/
theorem heldIntS_l0 (n : Nat) : ∀ (p : List Int) (s i : Int), i = p.length → p.length + n ≤ 9223372036854775807 → 0 ≤ s → s + n ≤ 9223372036854775807 →
    Ev (fun k => laws_heldIntS.l0 k (p ++ seqFrom s n) s i) (s + n) := by
  induction n with
  | zero =>
    intro p s i hi hb h0 hs
    apply ev_up
    simp only [laws_heldIntS.l0]
    refine ev_n (by simp [seqFrom]; omega) ?_
    simpa [seqFrom] using Ev.now s
  | succ n ih =>
    intro p s i hi hb h0 hs
    apply ev_up
    simp only [laws_heldIntS.l0]
    have hl := seqFrom_length s (n + 1)
    refine ev_p (by simp [hl]; omega) (ev_p (by omega) ?_)
    refine ev_p (by simp only [seqFrom]; exact rdA hi) ?_
    simp only [seqFrom]
    rw [appA, w64 (by omega) (by omega), w64 (by omega) (by omega)]
    refine ev_eq (ih (p ++ [s]) (s + 1) (i + 1) (by simp; omega) (by simp; omega) (by omega) (by omega)) ?_
    omega
theorem heldIntS_ev (n : Nat) (s : Int) (h0 : 0 ≤ s) (h : n + s ≤ 9223372036854775807) : Ev (fun k => laws_heldIntS.f k (seqFrom s n) s) (s + n) := by
  unfold laws_heldIntS.f
  exact heldIntS_l0 n [] s 0 rfl (by simp; omega) h0 (by omega)

/-! #### markIntSS -/
def totL : List (List Int) → Nat
  | [] => 0
  | x :: r => x.length + totL r
theorem totL_le {l : List (List Int)} {M : Nat} (h : ∀ y ∈ l, y.length ≤ M) : totL l ≤ l.length * M := by
  induction l with
  | nil => simp [totL]
  | cons x r ih =>
    have h1 := h x (by simp)
    have h2 := ih (fun y hy => h y (by simp [hy]))
    rw [totL, List.length_cons, Nat.succ_mul]
    omega
/-- The marks: rows as long as before, the numbers from s on. -/
def markSS : Int → List (List Int) → List (List Int)
  | _, [] => []
  | s, x :: r => seqFrom s x.length :: markSS (s + x.length) r
theorem markSS_length (r : List (List Int)) : ∀ s, (markSS s r).length = r.length := by
  induction r with
  | nil => intro s; rfl
  | cons x r ih => intro s; rw [markSS, List.length_cons, List.length_cons, ih]
theorem markIntSS_l0 (r : List (List Int)) : ∀ (p : List (List Int)) (s i : Int), i = p.length → p.length + r.length ≤ 1048576 → 0 ≤ s → s + totL r ≤ 9000000000000000000 →
    Ev (fun k => laws_markIntSS.l0 k (p ++ r) s i) (s + totL r, p ++ markSS s r) := by
  induction r with
  | nil =>
    intro p s i hi hb h0 hs
    apply ev_up
    simp only [laws_markIntSS.l0]
    refine ev_n (by simp; omega) ?_
    simpa [markSS, totL] using Ev.now (s, p)
  | cons x r ih =>
    intro p s i hi hb h0 hs
    rw [totL] at hs
    simp only [List.length_cons] at hb
    have ht := ih (p ++ [seqFrom s x.length]) (s + x.length) (i + 1) (by simp; omega) (by simp; omega) (by omega) (by omega)
    apply ev_up
    simp only [laws_markIntSS.l0]
    refine ev_p (by simp; omega) (ev_p (by omega) ?_)
    rw [rdIIA hi]
    have e : ∀ v : List Int, (p ++ x :: r).set (i : Int).toNat v = p ++ [v] ++ r := fun v => by rw [setA hi]
    refine Ev.bind (markIntS_ev x s h0 (by omega)) ?_
    dsimp only
    rw [e, w64 (n := i + 1) (by omega) (by omega)]
    refine ev_eq ht ?_
    rw [totL, markSS, List.append_assoc]
    refine Prod.ext ?_ rfl
    simp only
    omega
theorem markIntSS_ev (a : List (List Int)) (h : a.length ≤ 1048576) (hy : ∀ y ∈ a, y.length ≤ 1048576) : Ev (fun k => laws_markIntSS.f k a 1) (1 + totL a, markSS 1 a) := by
  unfold laws_markIntSS.f
  have := totL_le hy
  exact markIntSS_l0 a [] 1 0 rfl (by simpa using h) (by omega) (by omega)

/-! #### FnExactFewestCrossings -/
theorem FnExactFewestCrossings (l0 : (List (List Int))) (a1 : Int) : (l0.length ≤ 9223372036854775807 ∧ ∀ y3 ∈ l0, (y3.length ≤ 9223372036854775807 ∧ ∀ y2 ∈ y3, I64 y2)) → I64 a1 → ∃ k, laws_FnExactFewestCrossings.f k l0 a1 = some true := by
  rintro ⟨hl, hy⟩ h1
  apply ev_get
  obtain ⟨t, ht, hq⟩ := szIntSS_ev l0 1048576 (by omega) (by omega) hl (fun y h => (hy y h).1)
  unfold laws_FnExactFewestCrossings.f
  refine Ev.bind ht (ev_ite (fun _ => Ev.now _) (fun h => ?_))
  obtain ⟨_, hl2, hy2⟩ := hq (by omega)
  have hto := toIntSS_ev l0 hl2 hy2
  have heq : Ev (fun k => laws_eqIntSS.f k l0 l0) true := by simpa using eqIntSS_ev l0 l0 (by omega) (fun y h => by have := hy2 y h; omega)
  obtain ⟨R, hR, hs, hi⟩ := FewestCrossings_ev l0 a1 h1 hl
  have heqR : Ev (fun k => laws_eqIntS.f k R.1 R.1) true := by simpa using eqIntS_ev R.1 R.1 (by omega)
  have hmk := markIntSS_ev l0 hl2 hy2
  have hmr := markIntS_ev R.1 1 (by omega) (by omega)
  have hhr := heldIntS_ev R.1.length 1 (by omega) (by omega)
  repeat (first
    | (with_reducible exact Ev.now _)
    | (with_reducible refine Ev.bind hto ?_)
    | (with_reducible refine Ev.bind hs ?_)
    | (with_reducible refine Ev.bind hi ?_)
    | (with_reducible refine Ev.bind heq ?_)
    | (with_reducible refine Ev.bind heqR ?_)
    | (with_reducible refine Ev.bind hmk ?_)
    | (with_reducible refine Ev.bind hmr ?_)
    | (with_reducible refine Ev.bind hhr ?_)
    | (with_reducible refine ev_p rfl ?_)
    | (with_reducible refine ev_p True.intro ?_)
    | (refine ev_n ?h ?_; case h => (first | omega | (simp; done) | (simp; omega))))

end Go.Proofs.Yteefbjkhheghkaa.Pure
