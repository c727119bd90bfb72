/- The pure part of the law FnExactMiddleOrder: what the program and the reference compute is the same, for all arguments. Conditions: the numbers are of Go's int, the lengths of slices are. -/
import Derived.Test.YtanpidphaanjiaaWalkFnExactMiddleOrder
import Derived.Test.YtanpidphaanjiaaKit
set_option linter.unusedVariables false
set_option linter.unusedSimpArgs false
namespace Go.Proofs.Ytanpidphaanjiaa.Pure
open Go.RowKit Go.Proofs.Ytanpidphaanjiaa.QFnExactMiddleOrder Go.Proofs.YtanpidphaanjiaaW.PrintWords Go.Proofs.YtanpidphaanjiaaW.PrintLast Go.Proofs.Ytanpidphaanjiaa.Open Go.Proofs.Ytanpidphaanjiaa.Kit

/-! #### szIntS -/
theorem szIntS_eq (l : List Int) (a : Int) (ha : 0 ≤ a) (ha2 : a ≤ 1048576) (hl : l.length ≤ 9223372036854775807) : laws_szIntS.f l a = some (if l.length ≤ a then a - l.length else -1) := by
  unfold laws_szIntS.f
  rw [w64 (by omega) (by omega)]
  by_cases h : (l.length : Int) ≤ a
  · rw [if_neg (by omega), if_pos h]
  · rw [if_pos (by omega), if_neg h]

/-! #### rdII -/
theorem rdIIA {p r : List (List Int)} {x : List Int} {i : Int} (hi : i = p.length) : rd_L1 (p ++ x :: r) i = x := getDA hi

/-! #### szIntSS -/
theorem szIntSS_l0 (r : List (List Int)) : ∀ (p : List (List Int)) (a i : Int), i = p.length → p.length + r.length ≤ 9223372036854775807 → 0 ≤ a → a ≤ 1048576 → (∀ y ∈ r, y.length ≤ 9223372036854775807) →
    ∃ t, Ev (fun k => laws_szIntSS.l0 k (p ++ r) a i) t ∧ (0 ≤ t → t ≤ a ∧ ∀ y ∈ r, y.length ≤ 1048576) := by
  induction r with
  | nil =>
    intro p a i hi hb h0 h1 hy
    refine ⟨a, ?_, fun _ => ⟨Int.le_refl _, fun y hy => by simp at hy⟩⟩
    apply ev_up
    simp only [laws_szIntSS.l0]
    exact ev_n (by simp; omega) (Ev.now _)
  | cons x r ih =>
    intro p a i hi hb h0 h1 hy
    simp only [List.length_cons] at hb
    have hx := hy x (by simp)
    by_cases hc : (x.length : Int) ≤ a
    · obtain ⟨t, ht, hq⟩ := ih (p ++ [x]) (a - x.length) (i + 1) (by simp; omega) (by simp; omega) (by omega) (by omega) (fun y h => hy y (by simp [h]))
      refine ⟨t, ?_, fun h => ⟨by have := (hq h).1; omega, ?_⟩⟩
      · apply ev_up
        simp only [laws_szIntSS.l0]
        refine ev_p (by simp; omega) (ev_p (by omega) ?_)
        rw [rdIIA hi, szIntS_eq x a h0 h1 hx, if_pos hc]
        refine Ev.bind (ev_c rfl) (ev_n (by omega) ?_)
        rw [w64 (by omega) (by omega), appA]
        exact ht
      · intro y hy'
        simp only [List.mem_cons] at hy'
        rcases hy' with rfl | hy'
        · omega
        · exact (hq h).2 y hy'
    · refine ⟨-1, ?_, fun h => absurd h (by decide)⟩
      apply ev_up
      simp only [laws_szIntSS.l0]
      refine ev_p (by simp; omega) (ev_p (by omega) ?_)
      rw [rdIIA hi, szIntS_eq x a h0 h1 hx, if_neg hc]
      exact Ev.bind (ev_c rfl) (ev_p (by decide) (Ev.now _))
theorem szIntSS_ev (l : List (List Int)) (a : Int) (h0 : 0 ≤ a) (h1 : a ≤ 1048576) (hl : l.length ≤ 9223372036854775807) (hy : ∀ y ∈ l, y.length ≤ 9223372036854775807) :
    ∃ t, Ev (fun k => laws_szIntSS.f k l a) t ∧ (0 ≤ t → t ≤ a ∧ l.length ≤ 1048576 ∧ ∀ y ∈ l, y.length ≤ 1048576) := by
  unfold laws_szIntSS.f
  rw [w64 (by omega) (by omega)]
  by_cases h : (l.length : Int) ≤ a
  · obtain ⟨t, ht, hq⟩ := szIntSS_l0 l [] (a - l.length) 0 rfl (by simpa using hl) (by omega) (by omega) hy
    exact ⟨t, ev_n (by omega) ht, fun h2 => ⟨by have := (hq h2).1; omega, by omega, (hq h2).2⟩⟩
  · exact ⟨-1, ev_p (by omega) (Ev.now _), fun h => absurd h (by decide)⟩

/-! #### toIntS -/
theorem toIntS_l0 (r : List Int) : ∀ (p z : List Int) (i : Int), i = p.length → z.length = r.length → p.length + r.length ≤ 9223372036854775806 →
    Ev (fun k => laws_toIntS.l0 k (p ++ r) (p ++ z) i) (p ++ r) := by
  induction r with
  | nil =>
    intro p z i hi hz hb
    obtain rfl : z = [] := List.length_eq_zero_iff.1 hz
    apply ev_up
    simp only [laws_toIntS.l0]
    refine ev_n (by simp; omega) ?_
    exact Ev.now _
  | cons x r ih =>
    intro p z i hi hz hb
    match z, hz with
    | y :: z, hz =>
      simp only [List.length_cons] at hz hb
      apply ev_up
      simp only [laws_toIntS.l0]
      refine ev_p (by simp; omega) (ev_p (by omega) (ev_p (by simp; omega) ?_))
      rw [rdA hi, setA hi, w64 (by omega) (by omega), appA]
      exact ih (p ++ [x]) z (i + 1) (by simp; omega) (by omega) (by simp; omega)
theorem toIntS_ev (a : List Int) (h : a.length ≤ 35184372088832) : Ev (fun k => laws_toIntS.f k a) a := by
  unfold laws_toIntS.f
  refine ev_p (by omega) (ev_p (by omega) ?_)
  exact toIntS_l0 a [] (List.replicate ((a.length : Int)).toNat 0) 0 rfl (by simp) (by simp; omega)
/-! #### toIntSS -/
theorem toIntSS_l0 (r : List (List Int)) : ∀ (p z : List (List Int)) (i : Int), i = p.length → z.length = r.length → p.length + r.length ≤ 9223372036854775806 → (∀ y ∈ r, y.length ≤ 1048576) →
    Ev (fun k => laws_toIntSS.l0 k (p ++ r) (p ++ z) i) (p ++ r) := by
  induction r with
  | nil =>
    intro p z i hi hz hb hy
    obtain rfl : z = [] := List.length_eq_zero_iff.1 hz
    apply ev_up
    simp only [laws_toIntSS.l0]
    exact ev_n (by simp; omega) (Ev.now _)
  | cons x r ih =>
    intro p z i hi hz hb hy
    match z, hz with
    | y :: z, hz =>
      simp only [List.length_cons] at hz hb
      have hx := hy x (by simp)
      apply ev_up
      simp only [laws_toIntSS.l0]
      refine ev_p (by simp; omega) (ev_p (by omega) ?_)
      rw [rdIIA hi]
      refine Ev.bind (toIntS_ev x (by omega)) (ev_p (by simp; omega) ?_)
      rw [setA hi, w64 (by omega) (by omega), appA]
      exact ih (p ++ [x]) z (i + 1) (by simp; omega) (by omega) (by simp; omega) (fun y h => hy y (by simp [h]))
theorem toIntSS_ev (l : List (List Int)) (h : l.length ≤ 1048576) (hy : ∀ y ∈ l, y.length ≤ 1048576) : Ev (fun k => laws_toIntSS.f k l) l := by
  unfold laws_toIntSS.f
  refine ev_p (by omega) (ev_p (by omega) ?_)
  exact toIntSS_l0 l [] (List.replicate ((l.length : Int)).toNat []) 0 rfl (by simp) (by simp; omega) hy

/-! #### eqIntS -/
theorem eqIntS_l0 (r : List Int) : ∀ (s p q : List Int) (i : Int), i = p.length → p.length = q.length → r.length = s.length → p.length + r.length ≤ 9223372036854775807 →
    Ev (fun k => laws_eqIntS.l0 k (p ++ r) (q ++ s) i) (decide (r = s)) := by
  induction r with
  | nil =>
    intro s p q i hi hpq hrs hb
    obtain rfl : s = [] := List.length_eq_zero_iff.1 hrs.symm
    apply ev_up
    simp only [laws_eqIntS.l0]
    refine ev_n (by simp; omega) ?_
    simpa using Ev.now true
  | cons x r ih =>
    intro s p q i hi hpq hrs hb
    match s, hrs with
    | y :: s, hrs =>
      simp only [List.length_cons] at hrs hb
      apply ev_up
      simp only [laws_eqIntS.l0]
      refine ev_p (by simp; omega) (ev_p (by omega) (ev_p (by simp; omega) ?_))
      rw [rdA hi, rdA (by omega)]
      refine ev_ite (fun hxy => ?_) (fun hxy => ?_)
      · subst hxy
        rw [w64 (by omega) (by omega), appA, appA (p := q)]
        refine ev_eq (ih s (p ++ [x]) (q ++ [x]) (i + 1) (by simp; omega) (by simp; omega) (by omega) (by simp; omega)) ?_
        simp
      · refine ev_eq (Ev.now false) ?_
        simp [hxy]
theorem eqIntS_ev (a b : List Int) (h : a.length ≤ 9223372036854775807) : Ev (fun k => laws_eqIntS.f k a b) (decide (a = b)) := by
  unfold laws_eqIntS.f
  refine ev_ite (fun hl => ?_) (fun hl => ?_)
  · exact eqIntS_l0 a b [] [] 0 rfl rfl (by omega) (by simpa using h)
  · refine ev_eq (Ev.now false) ?_
    symm
    apply decide_eq_false
    rintro rfl
    exact hl rfl

/-! #### eqIntSS -/
theorem eqIntSS_l0 (r : List (List Int)) : ∀ (s p q : List (List Int)) (i : Int), i = p.length → p.length = q.length → r.length = s.length → p.length + r.length ≤ 9223372036854775807 → (∀ y ∈ r, y.length ≤ 9223372036854775807) →
    Ev (fun k => laws_eqIntSS.l0 k (p ++ r) (q ++ s) i) (decide (r = s)) := by
  induction r with
  | nil =>
    intro s p q i hi hpq hrs hb hy
    obtain rfl : s = [] := List.length_eq_zero_iff.1 hrs.symm
    apply ev_up
    simp only [laws_eqIntSS.l0]
    refine ev_n (by simp; omega) ?_
    simpa using Ev.now true
  | cons x r ih =>
    intro s p q i hi hpq hrs hb hy
    match s, hrs with
    | y :: s, hrs =>
      simp only [List.length_cons] at hrs hb
      apply ev_up
      simp only [laws_eqIntSS.l0]
      refine ev_p (by simp; omega) (ev_p (by omega) (ev_p (by simp; omega) ?_))
      rw [rdIIA hi, rdIIA (by omega)]
      refine Ev.bind (eqIntS_ev x y (hy x (by simp))) ?_
      refine ev_ite (fun hxy => ?_) (fun hxy => ?_)
      · obtain rfl := of_decide_eq_true hxy
        rw [w64 (by omega) (by omega), appA, appA (p := q)]
        refine ev_eq (ih s (p ++ [x]) (q ++ [x]) (i + 1) (by simp; omega) (by simp; omega) (by omega) (by simp; omega) (fun y h => hy y (by simp [h]))) ?_
        simp
      · refine ev_eq (Ev.now false) ?_
        have hxy' : ¬ x = y := fun e => hxy (decide_eq_true e)
        simp [hxy']
theorem eqIntSS_ev (a b : List (List Int)) (h : a.length ≤ 9223372036854775807) (hy : ∀ y ∈ a, y.length ≤ 9223372036854775807) : Ev (fun k => laws_eqIntSS.f k a b) (decide (a = b)) := by
  unfold laws_eqIntSS.f
  refine ev_ite (fun hl => ?_) (fun hl => ?_)
  · exact eqIntSS_l0 a b [] [] 0 rfl rfl (by omega) (by simpa using h) hy
  · refine ev_eq (Ev.now false) ?_
    symm
    apply decide_eq_false
    rintro rfl
    exact hl rfl

/-! #### sortM -/
/-- Where x goes in a row that is told from its end. -/
def sinkR (c : Int → Int → Int) (x : Int) : List Int → List Int
  | [] => [x]
  | y :: r => if c x y < 0 then y :: sinkR c x r else x :: y :: r
def sortR (c : Int → Int → Int) (xs : List Int) : List Int := xs.foldl (fun acc x => sinkR c x acc) []
theorem sinkR_length (c : Int → Int → Int) (x : Int) : ∀ r : List Int, (sinkR c x r).length = r.length + 1 := by
  intro r
  induction r with
  | nil => rfl
  | cons y r ih => rw [sinkR]; split <;> simp [ih]
theorem sortR_snoc (c : Int → Int → Int) (xs : List Int) (x : Int) : sortR c (xs ++ [x]) = sinkR c x (sortR c xs) := by
  unfold sortR
  rw [List.foldl_append]
  rfl
theorem sortR_length (c : Int → Int → Int) (xs : List Int) : ∀ i, i ≤ xs.length → (sortR c (xs.take i)).length = i := by
  intro i
  induction i with
  | zero => intro _; simp [sortR]
  | succ i ih =>
    intro h
    rw [List.take_add_one, List.getElem?_eq_getElem h]
    show (sortR c (xs.take i ++ [xs[i]])).length = _
    rw [sortR_snoc, sinkR_length, ih (by omega)]
theorem isSink_eq (c : Int → Int → Int) (x : Int) : ∀ (r post : List Int), Sep.isSink c r.length (r.reverse ++ x :: post) = (sinkR c x r).reverse ++ post := by
  intro r
  induction r with
  | nil => intro post; rfl
  | cons y r ih =>
    intro post
    have e0 : (y :: r).reverse ++ x :: post = r.reverse ++ y :: x :: post := by simp
    have e1 : (y :: r).reverse ++ x :: post = (r.reverse ++ [y]) ++ x :: post := by simp
    have hl : r.reverse.length = r.length := by simp
    have h1 : rd ((y :: r).reverse ++ x :: post) (r.length : Int) = y := by rw [e0]; exact rdA (by simp)
    have h2 : rd ((y :: r).reverse ++ x :: post) ((r.length : Int) + 1) = x := by rw [e1]; exact rdA (by simp)
    rw [List.length_cons, Sep.isSink, h1, h2, sinkR]
    by_cases h : c x y < 0
    · rw [if_pos h, if_pos h]
      have hs : Sep.swp ((y :: r).reverse ++ x :: post) ((r.length : Int) + 1) = r.reverse ++ x :: y :: post := by
        unfold Sep.swp
        rw [show (r.length : Int) + 1 - 1 = (r.length : Int) by omega, h1, h2, e1, setB (by simp), show (r.reverse ++ [y]) ++ y :: post = r.reverse ++ y :: y :: post by simp, setB (by simp)]
      rw [hs, ih (y :: post)]
      simp
    · rw [if_neg h, if_neg h]
      simp
theorem isTo_eq (c : Int → Int → Int) (xs : List Int) : ∀ i, i ≤ xs.length → Sep.isTo c xs i = (sortR c (xs.take i)).reverse ++ xs.drop i := by
  intro i
  induction i with
  | zero => intro _; simp [Sep.isTo, sortR]
  | succ i ih =>
    intro h
    have hs := isSink_eq c xs[i] (sortR c (xs.take i)) (xs.drop (i + 1))
    rw [sortR_length c xs i (by omega)] at hs
    rw [Sep.isTo, ih (by omega), List.drop_eq_getElem_cons h, hs, List.take_add_one, List.getElem?_eq_getElem h]
    show _ = (sortR c (xs.take i ++ [xs[i]])).reverse ++ _
    rw [sortR_snoc]
theorem isTo_all (c : Int → Int → Int) (xs : List Int) : Sep.isTo c xs xs.length = (sortR c xs).reverse := by
  rw [isTo_eq c xs _ (Nat.le_refl _), List.take_length, List.drop_length, List.append_nil]
def ltO (F : Int → Int) (a b : Int) : Prop := F a < F b ∨ (F a = F b ∧ a < b)
theorem ltO_asymm {F : Int → Int} {a b : Int} (h1 : ltO F a b) (h2 : ltO F b a) : False := by
  unfold ltO at h1 h2
  omega
theorem ltO_trans {F : Int → Int} {a b c : Int} (h1 : ltO F a b) (h2 : ltO F b c) : ltO F a c := by
  unfold ltO at h1 h2 ⊢
  omega
theorem sinkR_mem (c : Int → Int → Int) (x z : Int) : ∀ r : List Int, z ∈ sinkR c x r ↔ z = x ∨ z ∈ r := by
  intro r
  induction r with
  | nil => simp [sinkR]
  | cons y r ih =>
    rw [sinkR]
    split
    · rw [List.mem_cons, ih, List.mem_cons]
      constructor
      · rintro (h | h | h)
        · exact .inr (.inl h)
        · exact .inl h
        · exact .inr (.inr h)
      · rintro (h | h | h)
        · exact .inr (.inl h)
        · exact .inl h
        · exact .inr (.inr h)
    · rw [List.mem_cons]
theorem sinkR_sorted (c : Int → Int → Int) (F : Int → Int) (x : Int) : ∀ r : List Int, (∀ y ∈ r, (c x y < 0 ↔ F x < F y) ∧ y < x) → r.Pairwise (fun a b => ltO F b a) → (sinkR c x r).Pairwise (fun a b => ltO F b a) := by
  intro r
  induction r with
  | nil => intro _ _; simp [sinkR]
  | cons y r ih =>
    intro hc h
    rw [List.pairwise_cons] at h
    obtain ⟨h1, h2⟩ := h
    obtain ⟨hcy, hyx⟩ := hc y List.mem_cons_self
    rw [sinkR]
    by_cases hlt : c x y < 0
    · rw [if_pos hlt, List.pairwise_cons]
      refine ⟨fun b hb => ?_, ih (fun z hz => hc z (List.mem_cons_of_mem _ hz)) h2⟩
      rcases (sinkR_mem c x b r).1 hb with rfl | hb
      · exact Or.inl (hcy.1 hlt)
      · exact h1 b hb
    · rw [if_neg hlt, List.pairwise_cons, List.pairwise_cons]
      have hyx2 : ltO F y x := by
        have : ¬ F x < F y := fun h => hlt (hcy.2 h)
        unfold ltO
        omega
      refine ⟨fun b hb => ?_, h1, h2⟩
      rcases List.mem_cons.1 hb with rfl | hb
      · exact hyx2
      · exact ltO_trans (h1 b hb) hyx2
theorem iota_snoc (i : Nat) : Sep.iota (i + 1) = Sep.iota i ++ [(i : Int)] := by
  have := Sep.iota_succ (i : Int) (by omega)
  rwa [show ((i : Int) + 1).toNat = i + 1 by omega, Int.toNat_natCast] at this
theorem sort_iota (c : Int → Int → Int) (F : Int → Int) (n : Nat) (hc : ∀ x y : Int, 0 ≤ x → x < n → 0 ≤ y → y < n → (c x y < 0 ↔ F x < F y)) : ∀ i, i ≤ n → (sortR c (Sep.iota i)).Pairwise (fun a b => ltO F b a) ∧ ∀ z, z ∈ sortR c (Sep.iota i) ↔ (0 ≤ z ∧ z < (i : Int)) := by
  intro i
  induction i with
  | zero =>
    intro _
    refine ⟨by simp [sortR, Sep.iota], fun z => ?_⟩
    simp [sortR, Sep.iota]
    try omega
  | succ i ih =>
    intro h
    obtain ⟨h1, h2⟩ := ih (by omega)
    rw [iota_snoc, sortR_snoc]
    refine ⟨sinkR_sorted c F i _ (fun y hy => ?_) h1, fun z => ?_⟩
    · have := (h2 y).1 hy
      exact ⟨hc i y (by omega) (by omega) (by omega) (by omega), by omega⟩
    · rw [sinkR_mem, h2]
      omega
theorem pw_unique (R : Int → Int → Prop) (has : ∀ a b, R a b → R b a → False) : ∀ l1 l2 : List Int, l1.Pairwise R → l2.Pairwise R → (∀ z, z ∈ l1 ↔ z ∈ l2) → l1 = l2 := by
  intro l1
  induction l1 with
  | nil =>
    intro l2 _ _ h
    cases l2 with
    | nil => rfl
    | cons b l2 => exact absurd ((h b).2 List.mem_cons_self) (by simp)
  | cons a l1 ih =>
    intro l2 h1 h2 h
    cases l2 with
    | nil => exact absurd ((h a).1 List.mem_cons_self) (by simp)
    | cons b l2 =>
      rw [List.pairwise_cons] at h1 h2
      have hab : a = b := by
        rcases List.mem_cons.1 ((h a).1 List.mem_cons_self) with e | ha
        · exact e
        · rcases List.mem_cons.1 ((h b).2 List.mem_cons_self) with e | hb
          · exact e.symm
          · exact (has _ _ (h1.1 b hb) (h2.1 a ha)).elim
      subst hab
      rw [ih l2 h1.2 h2.2 (fun z => ?_)]
      constructor
      · intro hz
        rcases List.mem_cons.1 ((h z).1 (List.mem_cons_of_mem _ hz)) with rfl | hz2
        · exact (has _ _ (h1.1 _ hz) (h1.1 _ hz)).elim
        · exact hz2
      · intro hz
        rcases List.mem_cons.1 ((h z).2 (List.mem_cons_of_mem _ hz)) with rfl | hz2
        · exact (has _ _ (h2.1 _ hz) (h2.1 _ hz)).elim
        · exact hz2
/-- The indices below n, by their keys 0, .., m - 1. -/
def bucks (F : Int → Int) (n : Nat) : Nat → List Int
  | 0 => []
  | m + 1 => bucks F n m ++ (Sep.iota n).filter (fun i => decide (F i = (m : Int)))
theorem iota_pw (n : Nat) : (Sep.iota n).Pairwise (· < ·) := by
  unfold Sep.iota
  rw [List.pairwise_map]
  exact List.pairwise_lt_range.imp (fun h => by omega)
theorem iota_mem' {n : Nat} {z : Int} : z ∈ Sep.iota n ↔ (0 ≤ z ∧ z < (n : Int)) := by
  refine ⟨Sep.iota_mem, fun h => ?_⟩
  unfold Sep.iota
  exact List.mem_map.2 ⟨z.toNat, List.mem_range.2 (by omega), by omega⟩
theorem bucks_mem (F : Int → Int) (n : Nat) : ∀ (m : Nat) (z : Int), z ∈ bucks F n m ↔ (0 ≤ z ∧ z < (n : Int) ∧ 0 ≤ F z ∧ F z < (m : Int)) := by
  intro m
  induction m with
  | zero => intro z; simp [bucks]; try omega
  | succ m ih =>
    intro z
    rw [bucks, List.mem_append, ih, List.mem_filter, iota_mem', decide_eq_true_eq]
    omega
theorem bucks_pw (F : Int → Int) (n : Nat) : ∀ m : Nat, (bucks F n m).Pairwise (ltO F) := by
  intro m
  induction m with
  | zero => simp [bucks]
  | succ m ih =>
    rw [bucks, List.pairwise_append]
    refine ⟨ih, ?_, fun a ha b hb => ?_⟩
    · refine ((iota_pw n).filter _).imp_of_mem ?_
      intro a b ha hb hab
      have h1 := (List.mem_filter.1 ha).2
      have h2 := (List.mem_filter.1 hb).2
      simp only [decide_eq_true_eq] at h1 h2
      exact Or.inr ⟨by omega, hab⟩
    · have h1 := (bucks_mem F n m a).1 ha
      have h2 := (List.mem_filter.1 hb).2
      simp only [decide_eq_true_eq] at h2
      exact Or.inl (by omega)
theorem sort_bucks (c : Int → Int → Int) (F : Int → Int) (n m : Nat) (hc : ∀ x y : Int, 0 ≤ x → x < n → 0 ≤ y → y < n → (c x y < 0 ↔ F x < F y)) (hF : ∀ x : Int, 0 ≤ x → x < n → 0 ≤ F x ∧ F x < (m : Int)) :
    Sep.isTo c (Sep.iota n) n = bucks F n m := by
  have e := isTo_all c (Sep.iota n)
  rw [Sep.iota_length] at e
  rw [e]
  obtain ⟨h1, h2⟩ := sort_iota c F n hc n (Nat.le_refl _)
  refine pw_unique (ltO F) (fun _ _ => ltO_asymm) _ _ (List.pairwise_reverse.2 h1) (bucks_pw F n m) (fun z => ?_)
  rw [List.mem_reverse, h2, bucks_mem]
  constructor
  · rintro ⟨h3, h4⟩
    have := hF z h3 h4
    exact ⟨h3, h4, this.1, this.2⟩
  · rintro ⟨h3, h4, _, _⟩
    exact ⟨h3, h4⟩

/-! #### levelWiresM -/
/-- A wire for m points. -/
def goodW (m : Int) : List Int → Bool
  | [a, b] => decide (0 ≤ a ∧ a ≤ 29 ∧ 0 ≤ b ∧ b < m)
  | _ => false
def levelWiresM (l : List (List Int)) (m : Int) : Bool := decide (1 ≤ m ∧ m ≤ 7 ∧ l.length ≤ 30) && l.all (goodW m)
theorem goodW_len {m : Int} {w : List Int} (h : w.length ≠ 2) : goodW m w = false := by
  match w, h with
  | [], _ => rfl
  | [_], _ => rfl
  | [_, _], h => simp at h
  | _ :: _ :: _ :: _, _ => rfl
theorem two_of {w : List Int} (h : w.length = 2) : ∃ a b, w = [a, b] := by
  match w, h with
  | [a, b], _ => exact ⟨a, b, rfl⟩

/-! #### crossM -/
def cross (x y : List Int) : Bool := decide ((rd x 0 - rd y 0) * (rd x 1 - rd y 1) < 0)
def isW (m : Int) (w : List Int) : Prop := ∃ a b, w = [a, b] ∧ 0 ≤ a ∧ a ≤ 29 ∧ 0 ≤ b ∧ b < m
theorem isW_of {m : Int} {w : List Int} (h : goodW m w = true) : isW m w := by
  match w, h with
  | [a, b], h =>
    have := of_decide_eq_true (show decide (0 ≤ a ∧ a ≤ 29 ∧ 0 ≤ b ∧ b < m) = true from h)
    exact ⟨a, b, rfl, this⟩
  | [], h => simp [goodW] at h
  | [_], h => simp [goodW] at h
  | _ :: _ :: _ :: _, h => simp [goodW] at h
theorem levelWiresM_of {l : List (List Int)} {m : Int} (h : levelWiresM l m = true) : 1 ≤ m ∧ m ≤ 7 ∧ l.length ≤ 30 ∧ ∀ w ∈ l, isW m w := by
  unfold levelWiresM at h
  rw [Bool.and_eq_true, List.all_eq_true] at h
  have := of_decide_eq_true h.1
  exact ⟨this.1, this.2.1, this.2.2, fun w hw => isW_of (h.2 w hw)⟩
theorem mul_small {a b : Int} (h1 : -30 ≤ a) (h2 : a ≤ 30) (h3 : -30 ≤ b) (h4 : b ≤ 30) : -900 ≤ a * b ∧ a * b ≤ 900 := by
  have e : ∀ x y : Int, 0 ≤ x → 0 ≤ y → 0 ≤ x * y := fun x y hx hy => Int.mul_nonneg hx hy
  have p1 := e (30 - a) (30 - b) (by omega) (by omega)
  have p2 := e (30 + a) (30 + b) (by omega) (by omega)
  have p3 := e (30 - a) (30 + b) (by omega) (by omega)
  have p4 := e (30 + a) (30 - b) (by omega) (by omega)
  simp only [Int.sub_mul, Int.mul_sub, Int.add_mul, Int.mul_add] at p1 p2 p3 p4
  generalize a * b = c at *
  omega
/-- How many of the pairs with one before cross. -/
def cntM : List (List Int) → List (List Int) → Nat
  | _, [] => 0
  | p, x :: r => p.countP (cross x) + cntM (p ++ [x]) r

/-! #### levelNat -/
theorem levelWires_nat {l : List (List Int)} {m : Int} (h : levelWiresM l m = true) : ∃ n : Nat, m = n ∧ 1 ≤ n ∧ n ≤ 7 ∧ l.length ≤ 30 ∧ ∀ w ∈ l, isW n w := by
  obtain ⟨h1, h2, h3, h4⟩ := levelWiresM_of h
  obtain ⟨n, rfl⟩ := nat_of (show 0 ≤ m by omega)
  exact ⟨n, rfl, by omega, by omega, h3, h4⟩

/-! #### midM -/
theorem mdIns_rev (F : Int → Int) (c : Int → Int → Int) (x : Int) : ∀ (r : List Int), (∀ y ∈ r, (c x y < 0 ↔ F x < F y)) → mdIns F r.reverse x = (sinkR c x r).reverse := by
  have key : ∀ (r post : List Int), (∀ y ∈ r, (c x y < 0 ↔ F x < F y)) → (r.reverse ++ post).take (mdK F (r.reverse ++ post) (F x) r.length) ++ [x] ++ (r.reverse ++ post).drop (mdK F (r.reverse ++ post) (F x) r.length) = (sinkR c x r).reverse ++ post := by
    intro r
    induction r with
    | nil => intro post _; rfl
    | cons y r ih =>
      intro post h
      have e1 : (y :: r).reverse ++ post = r.reverse ++ (y :: post) := by simp
      have hy : rd (r.reverse ++ (y :: post)) (r.length : Int) = y := rdA (by simp)
      rw [e1, List.length_cons, mdK, hy, sinkR]
      by_cases hc : c x y < 0
      · have hg : F y > F x := (h y List.mem_cons_self).1 hc
        rw [if_pos hg, if_pos hc, ih (y :: post) (fun z hz => h z (List.mem_cons_of_mem _ hz))]
        simp
      · have hg : ¬ F y > F x := fun e => hc ((h y List.mem_cons_self).2 e)
        rw [if_neg hg, if_neg hc]
        have e2 : r.reverse ++ (y :: post) = (r.reverse ++ [y]) ++ post := by simp
        have hl : (r.reverse ++ [y]).length = r.length + 1 := by simp
        rw [e2, List.take_append_of_le_length (by rw [hl]; exact Nat.le_refl _), List.drop_append_of_le_length (by rw [hl]; exact Nat.le_refl _), List.take_of_length_le (by rw [hl]; exact Nat.le_refl _), List.drop_of_length_le (by rw [hl]; exact Nat.le_refl _)]
        simp
  intro r h
  have := key r [] h
  simp only [List.append_nil, List.length_reverse] at this
  unfold mdIns
  rw [List.length_reverse]
  exact this
theorem sinkR_perm (c : Int → Int → Int) (x : Int) : ∀ r : List Int, List.Perm (sinkR c x r) (x :: r) := by
  intro r
  induction r with
  | nil => exact List.Perm.refl _
  | cons y r ih =>
    rw [sinkR]
    split
    · exact (List.Perm.cons y ih).trans (List.Perm.swap x y r)
    · exact List.Perm.refl _
theorem foldSink_perm (c : Int → Int → Int) : ∀ (xs r : List Int), List.Perm (xs.foldl (fun acc x => sinkR c x acc) r) (xs ++ r) := by
  intro xs
  induction xs with
  | nil => intro r; exact List.Perm.refl _
  | cons x xs ih =>
    intro r
    rw [List.foldl_cons]
    refine (ih _).trans ?_
    refine (List.Perm.append_left xs (sinkR_perm c x r)).trans ?_
    exact List.perm_middle
theorem sortR_perm' (c : Int → Int → Int) (xs : List Int) : List.Perm (sortR c xs).reverse xs := by
  refine (List.reverse_perm _).trans ?_
  have := foldSink_perm c xs []
  rw [List.append_nil] at this
  exact this
theorem mdSort_rev (F : Int → Int) (c : Int → Int → Int) : ∀ (xs r : List Int), (∀ x ∈ xs, ∀ y, y ∈ xs ∨ y ∈ r → (c x y < 0 ↔ F x < F y)) → mdSort F xs r.reverse = (xs.foldl (fun acc x => sinkR c x acc) r).reverse := by
  intro xs
  induction xs with
  | nil => intro r _; rfl
  | cons x xs ih =>
    intro r h
    rw [mdSort, mdIns_rev F c x r (fun y hy => h x List.mem_cons_self y (Or.inr hy)), List.foldl_cons]
    refine ih _ (fun z hz y hy => h z (List.mem_cons_of_mem _ hz) y ?_)
    rcases hy with hy | hy
    · exact Or.inl (List.mem_cons_of_mem _ hy)
    · rcases List.mem_cons.1 ((sinkR_perm c x r).mem_iff.1 hy) with e | e
      · rw [e]; exact Or.inl List.mem_cons_self
      · exact Or.inr e
theorem mdSort_nil (F : Int → Int) (c : Int → Int → Int) (xs : List Int) (h : ∀ x ∈ xs, ∀ y ∈ xs, (c x y < 0 ↔ F x < F y)) : mdSort F xs [] = (sortR c xs).reverse := by
  have := mdSort_rev F c xs [] (fun x hx y hy => h x hx y (by rcases hy with e | e; exact e; cases e))
  exact this
theorem sinkId_sorted (x : Int) : ∀ r : List Int, r.Pairwise (fun a b => b ≤ a) → (sinkR (fun a b => a - b) x r).Pairwise (fun a b => b ≤ a) := by
  intro r
  induction r with
  | nil => intro _; simp [sinkR]
  | cons y r ih =>
    intro h
    obtain ⟨h1, h2⟩ := List.pairwise_cons.1 h
    rw [sinkR]
    split
    · rename_i hc
      refine List.pairwise_cons.2 ⟨fun z hz => ?_, ih h2⟩
      rcases List.mem_cons.1 ((sinkR_perm _ x r).mem_iff.1 hz) with e | e
      · omega
      · exact h1 z e
    · rename_i hc
      refine List.pairwise_cons.2 ⟨fun z hz => ?_, h⟩
      rcases List.mem_cons.1 hz with e | e
      · omega
      · have := h1 z e
        omega
theorem foldSink_sorted : ∀ (xs r : List Int), r.Pairwise (fun a b => b ≤ a) → (xs.foldl (fun acc x => sinkR (fun a b => a - b) x acc) r).Pairwise (fun a b => b ≤ a) := by
  intro xs
  induction xs with
  | nil => intro r h; exact h
  | cons x xs ih => intro r h; exact ih _ (sinkId_sorted x r h)
theorem mdSort_id (xs : List Int) : mdSort id xs [] = xs.mergeSort (fun x y => decide (x ≤ y)) := by
  rw [mdSort_nil id (fun a b => a - b) xs (fun x _ y _ => by show x - y < 0 ↔ x < y; omega)]
  refine List.Perm.eq_of_pairwise (le := fun a b => a ≤ b) (fun a b _ _ h1 h2 => by omega) ?_ ?_ ((sortR_perm' _ xs).trans (List.mergeSort_perm xs _).symm)
  · rw [List.pairwise_reverse]
    exact foldSink_sorted xs [] List.Pairwise.nil
  · refine List.Pairwise.imp ?_ (List.pairwise_mergeSort (le := fun x y => decide (x ≤ y)) (fun a b c h1 h2 => ?_) (fun a b => ?_) xs)
    · intro a b h
      exact of_decide_eq_true h
    · have g1 := of_decide_eq_true h1
      have g2 := of_decide_eq_true h2
      exact decide_eq_true (by omega)
    · rcases Int.le_total a b with h | h
      · rw [decide_eq_true h]; rfl
      · rw [decide_eq_true h, Bool.or_true]
theorem mdSort_append (F : Int → Int) : ∀ (xs ys o : List Int), mdSort F (xs ++ ys) o = mdSort F ys (mdSort F xs o) := by
  intro xs
  induction xs with
  | nil => intro ys o; rfl
  | cons x xs ih => intro ys o; exact ih ys _
theorem mdAbove_eq (p : Int) : ∀ (l : List (List Int)) (o : List Int), mdAbove p l (mdSort id o []) = mdSort id (mdAbI p l o) [] := by
  intro l
  induction l with
  | nil => intro o; rfl
  | cons w l ih =>
    intro o
    rw [mdAbove, mdAbI]
    by_cases h : rd w 1 = p
    · rw [if_pos h, if_pos h, ← ih (o ++ [rd w 0]), mdSort_append]
      rfl
    · rw [if_neg h, if_neg h, ih o]
theorem mdAbI_mem (p : Int) : ∀ (l : List (List Int)) (o : List Int) (x : Int), x ∈ mdAbI p l o → x ∈ o ∨ ∃ w ∈ l, rd w 0 = x := by
  intro l
  induction l with
  | nil => intro o x h; exact Or.inl h
  | cons w l ih =>
    intro o x h
    rw [mdAbI] at h
    rcases ih _ x h with h' | ⟨v, hv, e⟩
    · split at h'
      · rcases List.mem_append.1 h' with e | e
        · exact Or.inl e
        · exact Or.inr ⟨w, List.mem_cons_self, (List.mem_singleton.1 e).symm⟩
      · exact Or.inl h'
    · exact Or.inr ⟨v, List.mem_cons_of_mem _ hv, e⟩
theorem mdMid_eq (l : List (List Int)) (p : Int) : mdMidS l p = mdMidI l p := by
  have h : mdAbove p l [] = mdSorted l p := by
    have := mdAbove_eq p l []
    rw [mdSort_id (mdAbI p l [])] at this
    exact this
  have hp : List.Perm (mdSorted l p) (mdAbI p l []) := List.mergeSort_perm _ _
  unfold mdMidS mdMidI
  rw [h, hp.length_eq]
  by_cases e : mdAbI p l [] = []
  · have : mdSorted l p = [] := by
      rw [e] at hp
      exact hp.eq_nil
    rw [if_pos e, if_pos this]
  · have : ¬ mdSorted l p = [] := by
      intro e2
      rw [e2] at hp
      exact e hp.symm.eq_nil
    rw [if_neg e, if_neg this]
theorem rd_mem {l : List Int} {i : Int} (h0 : 0 ≤ i) (h1 : i < l.length) : rd l i ∈ l := by
  obtain ⟨n, rfl⟩ := nat_of h0
  have hn : n < l.length := by omega
  have e : l = l.take n ++ l[n] :: l.drop (n + 1) := by rw [← List.drop_eq_getElem_cons hn, List.take_append_drop]
  have : rd (l.take n ++ l[n] :: l.drop (n + 1)) ((n : Nat) : Int) = l[n] := rdA (by simp; omega)
  rw [← e] at this
  rw [this]
  exact List.getElem_mem hn
theorem mdMid_small {l : List (List Int)} {m : Int} (hw : ∀ w ∈ l, isW m w) (p : Int) : -1 ≤ mdMidI l p ∧ mdMidI l p ≤ 29 := by
  unfold mdMidI
  by_cases e : mdAbI p l [] = []
  · rw [if_pos e]; omega
  · rw [if_neg e]
    have hp : List.Perm (mdSorted l p) (mdAbI p l []) := List.mergeSort_perm _ _
    have h0 : 0 < (mdAbI p l []).length := List.length_pos_iff.2 e
    have hm := rd_mem (l := mdSorted l p) (i := (((mdAbI p l []).length / 2 : Nat) : Int)) (by omega) (by rw [hp.length_eq]; omega)
    rcases mdAbI_mem p l [] _ (hp.mem_iff.1 hm) with e | ⟨w, hwm, e⟩
    · cases e
    · obtain ⟨a, b, rfl, ha⟩ := hw w hwm
      rw [← e]
      have : rd [a, b] 0 = a := rdA (p := []) rfl
      omega
theorem mdOrd_eq {l : List (List Int)} {m : Int} (hw : ∀ w ∈ l, isW m w) (n : Nat) : mdSort (mdMidS l) (Sep.iota n) [] = mdOrd l n := by
  have hT := isTo_all (mdCmp l) (Sep.iota n)
  rw [Sep.iota_length] at hT
  unfold mdOrd
  rw [hT]
  refine mdSort_nil (mdMidS l) (mdCmp l) (Sep.iota n) (fun x _ y _ => ?_)
  have h1 := mdMid_small hw x
  have h2 := mdMid_small hw y
  unfold mdCmp
  rw [mdMid_eq, mdMid_eq, w64 (by omega) (by omega)]
  omega
theorem mdOrd_perm (l : List (List Int)) (n : Nat) : List.Perm (mdOrd l n) (Sep.iota n) := by
  have hT := isTo_all (mdCmp l) (Sep.iota n)
  rw [Sep.iota_length] at hT
  unfold mdOrd
  rw [hT]
  exact sortR_perm' _ _
theorem iota_in {n : Nat} {y : Int} (h : y ∈ Sep.iota n) : 0 ≤ y ∧ y < n := by
  unfold Sep.iota at h
  obtain ⟨i, hi, rfl⟩ := List.mem_map.1 h
  have := List.mem_range.1 hi
  omega

/-! #### tabM -/
def hit (a b : List Int) (i k : Nat) : Bool := decide (rd a 1 = i ∧ rd b 1 = k ∧ rd a 1 ≠ rd b 1 ∧ rd a 0 > rd b 0)
def mkRow (m : Nat) (f : Nat → Nat) : List Int := (List.range m).map (fun k => ((f k : Nat) : Int))
def mkT (m : Nat) (T : Nat → Nat → Nat) : List (List Int) := (List.range m).map (fun i => mkRow m (T i))
theorem mkRow_length (m : Nat) (f : Nat → Nat) : (mkRow m f).length = m := by simp [mkRow]
theorem mkT_length (m : Nat) (T : Nat → Nat → Nat) : (mkT m T).length = m := by simp [mkT]
theorem mkRow_rd {m : Nat} {f : Nat → Nat} {k : Nat} (h : k < m) : rd (mkRow m f) (k : Int) = (f k : Nat) := by
  rw [rdN (by rw [mkRow_length]; exact h)]
  simp [mkRow]
theorem mkT_rd {m : Nat} {T : Nat → Nat → Nat} {i : Nat} (h : i < m) : rd_L1 (mkT m T) (i : Int) = mkRow m (T i) := by
  have e : rd_L1 (mkT m T) (i : Int) = (mkT m T)[i]'(by rw [mkT_length]; exact h) := getDN (by rw [mkT_length]; exact h)
  rw [e]
  simp [mkT]
theorem mkRow_set {m : Nat} {f : Nat → Nat} {k v : Nat} (h : k < m) : (mkRow m f).set k (v : Int) = mkRow m (fun j => if j = k then v else f j) := by
  apply List.ext_getElem
  · simp [mkRow]
  · intro n h1 h2
    rw [List.getElem_set]
    simp only [mkRow, List.getElem_map, List.getElem_range]
    by_cases e : n = k
    · rw [if_pos e.symm, if_pos e]
    · rw [if_neg (fun h => e h.symm), if_neg e]
theorem mkT_set {m : Nat} {T : Nat → Nat → Nat} {i : Nat} {g : Nat → Nat} (h : i < m) : (mkT m T).set i (mkRow m g) = mkT m (fun j => if j = i then g else T j) := by
  apply List.ext_getElem
  · simp [mkT]
  · intro n h1 h2
    rw [List.getElem_set]
    simp only [mkT, List.getElem_map, List.getElem_range]
    by_cases e : n = i
    · rw [if_pos e.symm, if_pos e]
    · rw [if_neg (fun h => e h.symm), if_neg e]
theorem mkT_congr {m : Nat} {T U : Nat → Nat → Nat} (h : ∀ i k, i < m → k < m → T i k = U i k) : mkT m T = mkT m U := by
  unfold mkT mkRow
  apply List.map_congr_left
  intro i hi
  apply List.map_congr_left
  intro k hk
  rw [h i k (by simpa using hi) (by simpa using hk)]
theorem mkRow_congr {m : Nat} {f g : Nat → Nat} (h : ∀ k, k < m → f k = g k) : mkRow m f = mkRow m g := by
  unfold mkRow
  apply List.map_congr_left
  intro k hk
  rw [h k (by simpa using hk)]
/-- How many pairs of a wire of i and one of k cross if i is to the left: by the wires of p, with those of l. -/
def tabP (l p : List (List Int)) (i k : Nat) : Nat := (p.map (fun a => l.countP (fun b => hit a b i k))).sum
def tabM (l : List (List Int)) (m : Nat) : List (List Int) := mkT m (tabP l l)
theorem tabP_le (l p : List (List Int)) (i k : Nat) : tabP l p i k ≤ p.length * l.length := by
  induction p with
  | nil => simp [tabP]
  | cons a p ih =>
    have h1 := List.countP_le_length (p := fun b => hit a b i k) (l := l)
    have h2 : tabP l (a :: p) i k = l.countP (fun b => hit a b i k) + tabP l p i k := rfl
    rw [h2, List.length_cons, Nat.add_mul, Nat.one_mul]
    omega
theorem tabP_snoc (l p : List (List Int)) (a : List Int) (i k : Nat) : tabP l (p ++ [a]) i k = tabP l p i k + l.countP (fun b => hit a b i k) := by
  simp [tabP]

/-! #### costM -/
def costL (T : Nat → Nat → Nat) : List Int → Nat
  | [] => 0
  | x :: r => (r.map (fun y => T x.toNat y.toNat)).sum + costL T r
theorem cost_swap (T : Nat → Nat → Nat) (a b : Int) (r p : List Int) : costL T (p ++ a :: b :: r) + T b.toNat a.toNat = costL T (p ++ b :: a :: r) + T a.toNat b.toNat := by
  induction p with
  | nil =>
    simp only [List.nil_append, costL, List.map_cons, List.sum_cons]
    omega
  | cons x p ih =>
    simp only [List.cons_append, costL, List.map_append, List.map_cons, List.sum_append, List.sum_cons]
    omega
def inR (m : Nat) (q : List Int) : Prop := ∀ y ∈ q, 0 ≤ y ∧ y < m

/-! #### plOrder -/
theorem spec_plOrder_l0 (q : List Int) (hq : q.length ≤ 1000) (hr : inR q.length q) (r : List Int) : ∀ (p : List Int) (i : Int) (x : List Int), i = p.length → q = p ++ r → x.length = q.length →
    ∃ R, R.length = q.length ∧ Ev (fun k => spec_plOrder.l0 k x q q.length i) R := by
  induction r with
  | nil =>
    intro p i x hi e hx
    have hlen : q.length = p.length := by rw [e]; simp
    refine ⟨x, hx, ?_⟩
    apply ev_up
    simp only [spec_plOrder.l0]
    exact ev_n (by omega) (Ev.now _)
  | cons y r ih =>
    intro p i x hi e hx
    have hlen : q.length = p.length + r.length + 1 := by rw [e]; simp; omega
    have hy : rd q i = y := by rw [e]; exact rdA hi
    have hyb := hr y (by rw [e]; simp)
    obtain ⟨R, hR, hE⟩ := ih (p ++ [y]) (i + 1) (x.set y.toNat i) (by simp; omega) (by rw [e]; simp) (by simpa using hx)
    refine ⟨R, hR, ?_⟩
    apply ev_up
    simp only [spec_plOrder.l0]
    refine ev_p (by omega) (ev_p (by omega) (ev_p (by omega) ?_))
    rw [hy, w64 (n := i + 1) (by omega) (by omega)]
    exact ev_p (by omega) (ev_p (by omega) hE)
theorem spec_plOrder_ev (q : List Int) (hq : q.length ≤ 1000) (hr : inR q.length q) : ∃ R, R.length = q.length ∧ Ev (fun k => spec_plOrder.f k q) R := by
  obtain ⟨R, h1, h2⟩ := spec_plOrder_l0 q hq hr q [] 0 (List.replicate ((q.length : Int)).toNat 0) rfl rfl (by simp)
  refine ⟨R, h1, ?_⟩
  unfold spec_plOrder.f
  exact ev_p (by omega) (ev_p (by omega) h2)

/-! #### plOrderSame -/
theorem plOrder_same_l (k : Nat) : ∀ x q n i, impl_placesOf.l0 k x q n i = spec_plOrder.l0 k x q n i := by
  induction k with
  | zero => intro x q n i; rfl
  | succ k ih =>
    intro x q n i
    simp only [impl_placesOf.l0, spec_plOrder.l0, ih]
theorem plOrder_same (k : Nat) (q : List Int) : impl_placesOf.f k q = spec_plOrder.f k q := by
  unfold impl_placesOf.f spec_plOrder.f
  simp only [plOrder_same_l]

/-! #### l1In -/
theorem l1In_eq (a b c : Int) : spec_l1In.f a b c = some (decide (b ≤ a ∧ a ≤ c)) := by
  unfold spec_l1In.f
  by_cases h : b ≤ a
  · rw [if_pos h]; simp [h]
  · rw [if_neg h]; simp [h]

/-! #### spec_plWires -/
theorem spec_plWires_l0 (l : List (List Int)) (m : Int) (hm : I64 m) (hl : l.length ≤ 9223372036854775807) (r : List (List Int)) : ∀ (p : List (List Int)) (i : Int), i = p.length → l = p ++ r →
    Ev (fun k => spec_plWires.l0 k l m l l.length i) (decide (1 ≤ m ∧ m ≤ 7 ∧ l.length ≤ 30) && r.all (goodW m)) := by
  unfold I64 at hm
  induction r with
  | nil =>
    intro p i hi e
    have hlen : l.length = p.length := by rw [e]; simp
    apply ev_up
    simp only [spec_plWires.l0]
    refine ev_n (by omega) ?_
    refine ev_ite (fun h => ?_) (fun h => ?_)
    · rw [l1In_eq]
      refine Ev.bind (ev_c rfl) ?_
      refine ev_eq (Ev.now _) ?_
      rw [List.all_nil, Bool.and_true]
      exact decide_eq_decide.2 ⟨fun hh => ⟨hh.1, hh.2, by omega⟩, fun hh => ⟨hh.1, hh.2.1⟩⟩
    · refine ev_eq (Ev.now _) ?_
      rw [List.all_nil, Bool.and_true]
      exact (decide_eq_false (fun hh => h (by omega))).symm
  | cons x r ih =>
    intro p i hi e
    have hlen : l.length = p.length + r.length + 1 := by rw [e]; simp; omega
    have hx : rd_L1 l i = x := by rw [e]; exact rdIIA hi
    have ih' := ih (p ++ [x]) (i + 1) (by simp; omega) (by rw [e]; simp)
    apply ev_up
    simp only [spec_plWires.l0]
    refine ev_p (by omega) (ev_p (by omega) (ev_p (by omega) ?_))
    rw [hx]
    refine ev_ite (fun h2 => ?_) (fun h2 => ?_)
    · obtain ⟨a, b, rfl⟩ := two_of (w := x) (by omega)
      refine ev_p (by simp) ?_
      rw [l1In_eq]
      refine Ev.bind (ev_c rfl) ?_
      have e0 : rd [a, b] 0 = a := rfl
      have e1 : rd [a, b] 1 = b := rfl
      rw [e0, e1]
      refine ev_ite (fun ha => ?_) (fun ha => ?_)
      · have ha' := of_decide_eq_true ha
        refine ev_p (by simp) ?_
        rw [l1In_eq]
        refine Ev.bind (ev_c rfl) ?_
        refine ev_ite (fun hb => ?_) (fun hb => ?_)
        · have hb' := of_decide_eq_true hb
          rw [w64 (by omega) (by omega)]
          refine ev_eq ih' ?_
          by_cases h1 : 1 ≤ m
          · rw [w64 (by omega) (by omega)] at hb'
            have : goodW m [a, b] = true := by simp [goodW]; omega
            simp [this]
          · have : decide (1 ≤ m ∧ m ≤ 7 ∧ l.length ≤ 30) = false := decide_eq_false (fun h => h1 h.1)
            simp [this]
        · refine ev_eq (Ev.now _) ?_
          by_cases h1 : 1 ≤ m
          · rw [w64 (by omega) (by omega)] at hb
            have : goodW m [a, b] = false := by
              simp only [goodW]
              exact decide_eq_false (fun h => hb (decide_eq_true (by omega)))
            simp [this]
          · have : decide (1 ≤ m ∧ m ≤ 7 ∧ l.length ≤ 30) = false := decide_eq_false (fun h => h1 h.1)
            simp [this]
      · refine ev_eq (Ev.now _) ?_
        have : goodW m [a, b] = false := by
          simp only [goodW]
          exact decide_eq_false (fun h => ha (decide_eq_true (by omega)))
        simp [this]
    · refine ev_eq (Ev.now _) ?_
      have : goodW m x = false := goodW_len (by omega)
      simp [this]
theorem spec_plWires_ev (l : List (List Int)) (m : Int) (hm : I64 m) (hl : l.length ≤ 9223372036854775807) : Ev (fun k => spec_plWires.f k l m) (levelWiresM l m) := by
  unfold spec_plWires.f levelWiresM
  exact spec_plWires_l0 l m hm hl l [] 0 rfl rfl

/-! #### impl_AreLevelWires -/
theorem impl_AreLevelWires_l0 (l : List (List Int)) (m : Int) (hl : l.length ≤ 9223372036854775807) (r : List (List Int)) : ∀ (p : List (List Int)) (i : Int), i = p.length → l = p ++ r →
    Ev (fun k => impl_AreLevelWires.l0 k m l l.length i) (r.all (goodW m)) := by
  induction r with
  | nil =>
    intro p i hi e
    have hlen : l.length = p.length := by rw [e]; simp
    apply ev_up
    simp only [impl_AreLevelWires.l0]
    exact ev_n (by omega) (Ev.now _)
  | cons x r ih =>
    intro p i hi e
    have hlen : l.length = p.length + r.length + 1 := by rw [e]; simp; omega
    have hx : rd_L1 l i = x := by rw [e]; exact rdIIA hi
    have ih' := ih (p ++ [x]) (i + 1) (by simp; omega) (by rw [e]; simp)
    apply ev_up
    simp only [impl_AreLevelWires.l0]
    refine ev_p (by omega) (ev_p (by omega) (ev_p (by omega) ?_))
    rw [hx]
    refine ev_ite (fun h2 => ?_) (fun h2 => ?_)
    · obtain ⟨a, b, rfl⟩ := two_of (w := x) (by omega)
      have e0 : rd [a, b] 0 = a := rfl
      have e1 : rd [a, b] 1 = b := rfl
      rw [e0, e1]
      refine ev_p (by simp) ?_
      by_cases hg : goodW m [a, b] = true
      · have hg' := hg
        simp only [goodW, decide_eq_true_eq] at hg'
        refine ev_n (by omega) (ev_n (by omega) (ev_p (by simp) (ev_n (by omega) (ev_n (by omega) ?_))))
        rw [w64 (by omega) (by omega)]
        refine ev_eq ih' ?_
        simp [hg]
      · have hf : goodW m [a, b] = false := by simpa using hg
        have er : false = (([a, b] :: r).all (goodW m)) := by simp [hf]
        rw [← er]
        refine ev_ite (fun _ => Ev.now _) (fun c1 => ev_ite (fun _ => Ev.now _) (fun c2 => ev_p (by simp) (ev_ite (fun _ => Ev.now _) (fun c3 => ev_ite (fun _ => Ev.now _) (fun c4 => ?_)))))
        exact absurd (by simp only [goodW]; exact decide_eq_true (by omega)) hg
    · refine ev_eq (Ev.now _) ?_
      have : goodW m x = false := goodW_len (by omega)
      simp [this]
theorem impl_AreLevelWires_ev (l : List (List Int)) (m : Int) (hl : l.length ≤ 9223372036854775807) : Ev (fun k => impl_AreLevelWires.f k l m) (levelWiresM l m) := by
  have h0 := impl_AreLevelWires_l0 l m hl l [] 0 rfl rfl
  unfold impl_AreLevelWires.f levelWiresM
  refine ev_ite (fun h1 => ?_) (fun h1 => ev_ite (fun h2 => ?_) (fun h2 => ?_))
  · apply ev_up
    simp only [impl_AreLevelWires.j0]
    refine ev_p (by simp) (ev_eq (Ev.now _) ?_)
    rw [decide_eq_false (by omega), Bool.false_and]
  · apply ev_up
    simp only [impl_AreLevelWires.j0]
    refine ev_p (by simp) (ev_eq (Ev.now _) ?_)
    rw [decide_eq_false (by omega), Bool.false_and]
  · apply ev_up
    simp only [impl_AreLevelWires.j0]
    refine ev_ite (fun h3 => ?_) (fun h3 => ?_)
    · have h3' := of_decide_eq_true h3
      refine ev_eq (Ev.now _) ?_
      rw [decide_eq_false (by omega), Bool.false_and]
    · have h3' : ¬ (l.length : Int) > 30 := fun h => h3 (decide_eq_true h)
      refine ev_eq h0 ?_
      rw [decide_eq_true (by omega), Bool.true_and]

/-! #### middleM -/
theorem MiddleOrder_ev (l : List (List Int)) (m : Int) (hm : I64 m) (hl : l.length ≤ 9223372036854775807) :
    ∃ R, R.1.length ≤ 7 ∧ Ev (fun k => spec_MiddleOrder.f k l m) R ∧ Ev (fun k => impl_MiddleOrder.f k l m) R := by
  unfold spec_MiddleOrder.f impl_MiddleOrder.f
  by_cases h : levelWiresM l m = true
  · obtain ⟨n, rfl, h1, h7, h30, hw⟩ := levelWires_nat h
    have hlen : (mdOrd l n).length = n := by rw [(mdOrd_perm l n).length_eq, Sep.iota_length]
    have h2 : ∀ x ∈ l, x.length = 2 := by
      intro x hx
      obtain ⟨a, b, rfl, _⟩ := hw x hx
      rfl
    obtain ⟨R, hR, hE⟩ := spec_plOrder_ev (mdOrd l n) (by omega) (fun y hy => by rw [hlen]; exact iota_in ((mdOrd_perm l n).mem_iff.1 hy))
    refine ⟨(R, true), by show R.length ≤ 7; omega, Ev.bind (spec_plWires_ev l n hm hl) (ev_p h ?_), Ev.bind (impl_AreLevelWires_ev l n hl) (ev_p h ?_)⟩
    · refine ev_p ⟨h30, by omega, by omega, h2⟩ ?_
      rw [Int.toNat_natCast, mdOrd_eq hw n]
      exact Ev.bind hE (Ev.now _)
    · refine ev_p ⟨h30, by omega, by omega, h2⟩ ?_
      rw [Int.toNat_natCast]
      refine Ev.bind (a := R) ?_ (Ev.now _)
      obtain ⟨k0, hk⟩ := hE
      exact ⟨k0, fun k hx => (plOrder_same k _).trans (hk k hx)⟩
  · exact ⟨([], false), by simp, Ev.bind (spec_plWires_ev l m hm hl) (ev_n h (Ev.now _)), Ev.bind (impl_AreLevelWires_ev l m hl) (ev_n h (Ev.now _))⟩

/-! #### markIntS -/
theorem markIntS_l0 (r : List Int) : ∀ (p : List Int) (s i : Int), i = p.length → p.length + r.length ≤ 9223372036854775807 → 0 ≤ s → s + r.length ≤ 9223372036854775807 →
    Ev (fun k => laws_markIntS.l0 k (p ++ r) s i) (s + r.length, p ++ seqFrom s r.length) := by
  induction r with
  | nil =>
    intro p s i hi hb h0 hs
    apply ev_up
    simp only [laws_markIntS.l0]
    refine ev_n (by simp; omega) ?_
    simpa [seqFrom] using Ev.now (s, p)
  | cons x r ih =>
    intro p s i hi hb h0 hs
    simp only [List.length_cons, Int.natCast_add] at hb hs
    apply ev_up
    simp only [laws_markIntS.l0]
    refine ev_p (by simp; omega) (ev_p (by omega) ?_)
    rw [setA hi, w64 (by omega) (by omega), w64 (by omega) (by omega)]
    refine ev_eq (ih (p ++ [s]) (s + 1) (i + 1) (by simp; omega) (by simp; omega) (by omega) (by omega)) ?_
    simp [seqFrom]
    omega
theorem markIntS_ev (a : List Int) (s : Int) (h0 : 0 ≤ s) (h : a.length + s ≤ 9223372036854775807) : Ev (fun k => laws_markIntS.f k a s) (s + a.length, seqFrom s a.length) := by
  unfold laws_markIntS.f
  exact markIntS_l0 a [] s 0 rfl (by simp; omega) h0 (by omega)

/-! #### heldIntS -/
theorem heldIntS_l0 (n : Nat) : ∀ (p : List Int) (s i : Int), i = p.length → p.length + n ≤ 9223372036854775807 → 0 ≤ s → s + n ≤ 9223372036854775807 →
    Ev (fun k => laws_heldIntS.l0 k (p ++ seqFrom s n) s i) (s + n) := by
  induction n with
  | zero =>
    intro p s i hi hb h0 hs
    apply ev_up
    simp only [laws_heldIntS.l0]
    refine ev_n (by simp [seqFrom]; omega) ?_
    simpa [seqFrom] using Ev.now s
  | succ n ih =>
    intro p s i hi hb h0 hs
    apply ev_up
    simp only [laws_heldIntS.l0]
    have hl := seqFrom_length s (n + 1)
    refine ev_p (by simp [hl]; omega) (ev_p (by omega) ?_)
    refine ev_p (by simp only [seqFrom]; exact rdA hi) ?_
    simp only [seqFrom]
    rw [appA, w64 (by omega) (by omega), w64 (by omega) (by omega)]
    refine ev_eq (ih (p ++ [s]) (s + 1) (i + 1) (by simp; omega) (by simp; omega) (by omega) (by omega)) ?_
    omega
theorem heldIntS_ev (n : Nat) (s : Int) (h0 : 0 ≤ s) (h : n + s ≤ 9223372036854775807) : Ev (fun k => laws_heldIntS.f k (seqFrom s n) s) (s + n) := by
  unfold laws_heldIntS.f
  exact heldIntS_l0 n [] s 0 rfl (by simp; omega) h0 (by omega)

/-! #### markIntSS -/
def totL : List (List Int) → Nat
  | [] => 0
  | x :: r => x.length + totL r
theorem totL_le {l : List (List Int)} {M : Nat} (h : ∀ y ∈ l, y.length ≤ M) : totL l ≤ l.length * M := by
  induction l with
  | nil => simp [totL]
  | cons x r ih =>
    have h1 := h x (by simp)
    have h2 := ih (fun y hy => h y (by simp [hy]))
    rw [totL, List.length_cons, Nat.succ_mul]
    omega
/-- The marks: rows as long as before, the numbers from s on. -/
def markSS : Int → List (List Int) → List (List Int)
  | _, [] => []
  | s, x :: r => seqFrom s x.length :: markSS (s + x.length) r
theorem markSS_length (r : List (List Int)) : ∀ s, (markSS s r).length = r.length := by
  induction r with
  | nil => intro s; rfl
  | cons x r ih => intro s; rw [markSS, List.length_cons, List.length_cons, ih]
theorem markIntSS_l0 (r : List (List Int)) : ∀ (p : List (List Int)) (s i : Int), i = p.length → p.length + r.length ≤ 1048576 → 0 ≤ s → s + totL r ≤ 9000000000000000000 →
    Ev (fun k => laws_markIntSS.l0 k (p ++ r) s i) (s + totL r, p ++ markSS s r) := by
  induction r with
  | nil =>
    intro p s i hi hb h0 hs
    apply ev_up
    simp only [laws_markIntSS.l0]
    refine ev_n (by simp; omega) ?_
    simpa [markSS, totL] using Ev.now (s, p)
  | cons x r ih =>
    intro p s i hi hb h0 hs
    rw [totL] at hs
    simp only [List.length_cons] at hb
    have ht := ih (p ++ [seqFrom s x.length]) (s + x.length) (i + 1) (by simp; omega) (by simp; omega) (by omega) (by omega)
    apply ev_up
    simp only [laws_markIntSS.l0]
    refine ev_p (by simp; omega) (ev_p (by omega) ?_)
    rw [rdIIA hi]
    have e : ∀ v : List Int, (p ++ x :: r).set (i : Int).toNat v = p ++ [v] ++ r := fun v => by rw [setA hi]
    refine Ev.bind (markIntS_ev x s h0 (by omega)) ?_
    dsimp only
    rw [e, w64 (n := i + 1) (by omega) (by omega)]
    refine ev_eq ht ?_
    rw [totL, markSS, List.append_assoc]
    refine Prod.ext ?_ rfl
    simp only
    omega
theorem markIntSS_ev (a : List (List Int)) (h : a.length ≤ 1048576) (hy : ∀ y ∈ a, y.length ≤ 1048576) : Ev (fun k => laws_markIntSS.f k a 1) (1 + totL a, markSS 1 a) := by
  unfold laws_markIntSS.f
  have := totL_le hy
  exact markIntSS_l0 a [] 1 0 rfl (by simpa using h) (by omega) (by omega)

/-! #### FnExactMiddleOrder -/
theorem FnExactMiddleOrder (l0 : (List (List Int))) (a1 : Int) : (l0.length ≤ 9223372036854775807 ∧ ∀ y3 ∈ l0, (y3.length ≤ 9223372036854775807 ∧ ∀ y2 ∈ y3, I64 y2)) → I64 a1 → ∃ k, laws_FnExactMiddleOrder.f k l0 a1 = some true := by
  rintro ⟨hl, hy⟩ h1
  apply ev_get
  obtain ⟨t, ht, hq⟩ := szIntSS_ev l0 1048576 (by omega) (by omega) hl (fun y h => (hy y h).1)
  unfold laws_FnExactMiddleOrder.f
  refine Ev.bind ht (ev_ite (fun _ => Ev.now _) (fun h => ?_))
  obtain ⟨_, hl2, hy2⟩ := hq (by omega)
  have hto := toIntSS_ev l0 hl2 hy2
  have heq : Ev (fun k => laws_eqIntSS.f k l0 l0) true := by simpa using eqIntSS_ev l0 l0 (by omega) (fun y h => by have := hy2 y h; omega)
  obtain ⟨R, hR, hs, hi⟩ := MiddleOrder_ev l0 a1 h1 hl
  have heqR : Ev (fun k => laws_eqIntS.f k R.1 R.1) true := by simpa using eqIntS_ev R.1 R.1 (by omega)
  have hmk := markIntSS_ev l0 hl2 hy2
  have hmr := markIntS_ev R.1 1 (by omega) (by omega)
  have hhr := heldIntS_ev R.1.length 1 (by omega) (by omega)
  repeat (first
    | (with_reducible exact Ev.now _)
    | (with_reducible refine Ev.bind hto ?_)
    | (with_reducible refine Ev.bind hs ?_)
    | (with_reducible refine Ev.bind hi ?_)
    | (with_reducible refine Ev.bind heq ?_)
    | (with_reducible refine Ev.bind heqR ?_)
    | (with_reducible refine Ev.bind hmk ?_)
    | (with_reducible refine Ev.bind hmr ?_)
    | (with_reducible refine Ev.bind hhr ?_)
    | (with_reducible refine ev_p rfl ?_)
    | (with_reducible refine ev_p True.intro ?_)
    | (refine ev_n ?h ?_; case h => (first | omega | (simp; done) | (simp; omega))))

end Go.Proofs.Ytanpidphaanjiaa.Pure
