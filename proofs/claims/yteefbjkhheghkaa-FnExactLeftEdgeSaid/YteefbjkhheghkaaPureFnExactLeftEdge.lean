/- The pure part of the law FnExactLeftEdge: what the program and the reference compute is the same, for all arguments. Conditions: the numbers are of Go's int, the lengths of slices are. -/
import Derived.Test.YteefbjkhheghkaaQFnExactLeftEdgex6
import Derived.Test.YteefbjkhheghkaaKit
set_option linter.unusedVariables false
set_option linter.unusedSimpArgs false
namespace Go.Proofs.Yteefbjkhheghkaa.Pure
open Go.RowKit Go.Proofs.Yteefbjkhheghkaa.QFnExactLeftEdge Go.Proofs.YteefbjkhheghkaaW.PrintWords Go.Proofs.YteefbjkhheghkaaW.PrintLast Go.Proofs.Yteefbjkhheghkaa.Open Go.Proofs.Yteefbjkhheghkaa.Kit

/-! #### szWireS -/
theorem szWireS_eq (l : List S70) (a : Int) (ha : 0 ≤ a) (ha2 : a ≤ 1048576) (hl : l.length ≤ 9223372036854775807) : laws_szWireS.f l a = some (if l.length ≤ a then a - l.length else -1) := by
  unfold laws_szWireS.f
  rw [w64 (by omega) (by omega)]
  by_cases h : (l.length : Int) ≤ a
  · rw [if_neg (by omega), if_pos h]
  · rw [if_pos (by omega), if_neg h]

/-! #### wirePre -/
theorem wire_pre {n : Nat} (h : ¬ (if (n : Int) ≤ 1048576 then (1048576 : Int) - n else -1) < 0) : n ≤ 1048576 := by
  by_cases h2 : (n : Int) ≤ 1048576
  · omega
  · rw [if_neg h2] at h
    exact absurd (by decide) h

/-! #### wireT -/
theorem rdLWireA {p r : List S70} {x : S70} {i : Int} (hi : i = p.length) : rd_T70 (p ++ x :: r) i = x := getDA hi
theorem rdWireA {p r : List S68} {x : S68} {i : Int} (hi : i = p.length) : rd_T68 (p ++ x :: r) i = x := getDA hi
instance decWire : DecidableEq S68 := fun a b => decidable_of_decidable_of_iff (p := a.f0 = b.f0 ∧ a.f1 = b.f1) ⟨fun h => by cases a; cases b; simp_all, fun h => by rw [h]; exact ⟨rfl, rfl⟩⟩
/-- A wire of the laws as one of the program. -/
def cvWire (x : S70) : S68 := ⟨x.f0, x.f1⟩

/-! #### toWireS -/
theorem toWireS_l0 (r : List S70) : ∀ (p : List S70) (z : List S68) (i : Int), i = p.length → z.length = r.length → p.length + r.length ≤ 9223372036854775806 →
    Ev (fun k => laws_toWireS.l0 k (p ++ r) (p.map cvWire ++ z) i) ((p ++ r).map cvWire) := by
  induction r with
  | nil =>
    intro p z i hi hz hb
    obtain rfl : z = [] := List.length_eq_zero_iff.1 hz
    apply ev_up
    simp only [laws_toWireS.l0]
    refine ev_n (by simp; omega) ?_
    simpa using Ev.now (p.map cvWire)
  | cons x r ih =>
    intro p z i hi hz hb
    match z, hz with
    | y :: z, hz =>
      simp only [List.length_cons] at hz hb
      apply ev_up
      simp only [laws_toWireS.l0]
      refine ev_p (by simp; omega) (ev_p (by omega) ?_)
      rw [rdLWireA hi]
      refine Ev.bind (ev_c (show laws_toWire.f x.f0 x.f1 = some (x.f0, x.f1) from rfl)) (ev_p (by simp; omega) ?_)
      rw [setA (by simpa using hi), w64 (by omega) (by omega), appA]
      have := ih (p ++ [x]) z (i + 1) (by simp; omega) (by omega) (by simp; omega)
      simpa [cvWire] using this
theorem toWireS_ev (a : List S70) (h : a.length ≤ 1048576) : Ev (fun k => laws_toWireS.f k a) (a.map cvWire) := by
  unfold laws_toWireS.f
  refine ev_p (by omega) (ev_p (by omega) ?_)
  exact toWireS_l0 a [] (List.replicate ((a.length : Int)).toNat z68) 0 rfl (by simp) (by simp; omega)

/-! #### eqWireS -/
theorem eqWire_eq (a b c d : Int) : laws_eqWire.f a b c d = some (decide ((⟨a, b⟩ : S68) = ⟨c, d⟩)) := by
  unfold laws_eqWire.f
  by_cases h1 : a = c
  · by_cases h2 : b = d
    · rw [if_pos h1, if_pos h2, h1, h2, decide_eq_true rfl]
    · rw [if_pos h1, if_neg h2]
      congr 1; symm
      exact decide_eq_false (fun h => h2 (by injection h))
  · rw [if_neg h1]
    congr 1; symm
    exact decide_eq_false (fun h => h1 (by injection h))
theorem eqWireS_l0 (r : List S68) : ∀ (s p q : List S68) (i : Int), i = p.length → p.length = q.length → r.length = s.length → p.length + r.length ≤ 9223372036854775807 →
    Ev (fun k => laws_eqWireS.l0 k (p ++ r) (q ++ s) i) (decide (r = s)) := by
  induction r with
  | nil =>
    intro s p q i hi hpq hrs hb
    obtain rfl : s = [] := List.length_eq_zero_iff.1 hrs.symm
    apply ev_up
    simp only [laws_eqWireS.l0]
    refine ev_n (by simp; omega) ?_
    simpa using Ev.now true
  | cons x r ih =>
    intro s p q i hi hpq hrs hb
    match s, hrs with
    | y :: s, hrs =>
      simp only [List.length_cons] at hrs hb
      apply ev_up
      simp only [laws_eqWireS.l0]
      refine ev_p (by simp; omega) (ev_p (by omega) (ev_p (by simp; omega) ?_))
      rw [rdWireA hi, rdWireA (by omega), eqWire_eq]
      refine Ev.bind (ev_c rfl) ?_
      refine ev_ite (fun hxy => ?_) (fun hxy => ?_)
      · have hxy' : x = y := of_decide_eq_true hxy
        subst hxy'
        rw [w64 (by omega) (by omega), appA, appA (p := q)]
        refine ev_eq (ih s (p ++ [x]) (q ++ [x]) (i + 1) (by simp; omega) (by simp; omega) (by omega) (by simp; omega)) ?_
        simp
      · refine ev_eq (Ev.now false) ?_
        have hxy' : ¬ x = y := fun e => hxy (decide_eq_true e)
        simp [hxy']
theorem eqWireS_ev (a b : List S68) (h : a.length ≤ 9223372036854775807) : Ev (fun k => laws_eqWireS.f k a b) (decide (a = b)) := by
  unfold laws_eqWireS.f
  refine ev_ite (fun hl => ?_) (fun hl => ?_)
  · exact eqWireS_l0 a b [] [] 0 rfl rfl (by omega) (by simpa using h)
  · refine ev_eq (Ev.now false) ?_
    symm
    apply decide_eq_false
    rintro rfl
    exact hl rfl

/-! #### sortM -/
/-- Where x goes in a row that is told from its end. -/
def sinkR (c : Int → Int → Int) (x : Int) : List Int → List Int
  | [] => [x]
  | y :: r => if c x y < 0 then y :: sinkR c x r else x :: y :: r
def sortR (c : Int → Int → Int) (xs : List Int) : List Int := xs.foldl (fun acc x => sinkR c x acc) []
theorem sinkR_length (c : Int → Int → Int) (x : Int) : ∀ r : List Int, (sinkR c x r).length = r.length + 1 := by
  intro r
  induction r with
  | nil => rfl
  | cons y r ih => rw [sinkR]; split <;> simp [ih]
theorem sortR_snoc (c : Int → Int → Int) (xs : List Int) (x : Int) : sortR c (xs ++ [x]) = sinkR c x (sortR c xs) := by
  unfold sortR
  rw [List.foldl_append]
  rfl
theorem sortR_length (c : Int → Int → Int) (xs : List Int) : ∀ i, i ≤ xs.length → (sortR c (xs.take i)).length = i := by
  intro i
  induction i with
  | zero => intro _; simp [sortR]
  | succ i ih =>
    intro h
    rw [List.take_add_one, List.getElem?_eq_getElem h]
    show (sortR c (xs.take i ++ [xs[i]])).length = _
    rw [sortR_snoc, sinkR_length, ih (by omega)]
theorem isSink_eq (c : Int → Int → Int) (x : Int) : ∀ (r post : List Int), Sep.isSink c r.length (r.reverse ++ x :: post) = (sinkR c x r).reverse ++ post := by
  intro r
  induction r with
  | nil => intro post; rfl
  | cons y r ih =>
    intro post
    have e0 : (y :: r).reverse ++ x :: post = r.reverse ++ y :: x :: post := by simp
    have e1 : (y :: r).reverse ++ x :: post = (r.reverse ++ [y]) ++ x :: post := by simp
    have hl : r.reverse.length = r.length := by simp
    have h1 : rd ((y :: r).reverse ++ x :: post) (r.length : Int) = y := by rw [e0]; exact rdA (by simp)
    have h2 : rd ((y :: r).reverse ++ x :: post) ((r.length : Int) + 1) = x := by rw [e1]; exact rdA (by simp)
    rw [List.length_cons, Sep.isSink, h1, h2, sinkR]
    by_cases h : c x y < 0
    · rw [if_pos h, if_pos h]
      have hs : Sep.swp ((y :: r).reverse ++ x :: post) ((r.length : Int) + 1) = r.reverse ++ x :: y :: post := by
        unfold Sep.swp
        rw [show (r.length : Int) + 1 - 1 = (r.length : Int) by omega, h1, h2, e1, setB (by simp), show (r.reverse ++ [y]) ++ y :: post = r.reverse ++ y :: y :: post by simp, setB (by simp)]
      rw [hs, ih (y :: post)]
      simp
    · rw [if_neg h, if_neg h]
      simp
theorem isTo_eq (c : Int → Int → Int) (xs : List Int) : ∀ i, i ≤ xs.length → Sep.isTo c xs i = (sortR c (xs.take i)).reverse ++ xs.drop i := by
  intro i
  induction i with
  | zero => intro _; simp [Sep.isTo, sortR]
  | succ i ih =>
    intro h
    have hs := isSink_eq c xs[i] (sortR c (xs.take i)) (xs.drop (i + 1))
    rw [sortR_length c xs i (by omega)] at hs
    rw [Sep.isTo, ih (by omega), List.drop_eq_getElem_cons h, hs, List.take_add_one, List.getElem?_eq_getElem h]
    show _ = (sortR c (xs.take i ++ [xs[i]])).reverse ++ _
    rw [sortR_snoc]
theorem isTo_all (c : Int → Int → Int) (xs : List Int) : Sep.isTo c xs xs.length = (sortR c xs).reverse := by
  rw [isTo_eq c xs _ (Nat.le_refl _), List.take_length, List.drop_length, List.append_nil]
def ltO (F : Int → Int) (a b : Int) : Prop := F a < F b ∨ (F a = F b ∧ a < b)
theorem ltO_asymm {F : Int → Int} {a b : Int} (h1 : ltO F a b) (h2 : ltO F b a) : False := by
  unfold ltO at h1 h2
  omega
theorem ltO_trans {F : Int → Int} {a b c : Int} (h1 : ltO F a b) (h2 : ltO F b c) : ltO F a c := by
  unfold ltO at h1 h2 ⊢
  omega
theorem sinkR_mem (c : Int → Int → Int) (x z : Int) : ∀ r : List Int, z ∈ sinkR c x r ↔ z = x ∨ z ∈ r := by
  intro r
  induction r with
  | nil => simp [sinkR]
  | cons y r ih =>
    rw [sinkR]
    split
    · rw [List.mem_cons, ih, List.mem_cons]
      constructor
      · rintro (h | h | h)
        · exact .inr (.inl h)
        · exact .inl h
        · exact .inr (.inr h)
      · rintro (h | h | h)
        · exact .inr (.inl h)
        · exact .inl h
        · exact .inr (.inr h)
    · rw [List.mem_cons]
theorem sinkR_sorted (c : Int → Int → Int) (F : Int → Int) (x : Int) : ∀ r : List Int, (∀ y ∈ r, (c x y < 0 ↔ F x < F y) ∧ y < x) → r.Pairwise (fun a b => ltO F b a) → (sinkR c x r).Pairwise (fun a b => ltO F b a) := by
  intro r
  induction r with
  | nil => intro _ _; simp [sinkR]
  | cons y r ih =>
    intro hc h
    rw [List.pairwise_cons] at h
    obtain ⟨h1, h2⟩ := h
    obtain ⟨hcy, hyx⟩ := hc y List.mem_cons_self
    rw [sinkR]
    by_cases hlt : c x y < 0
    · rw [if_pos hlt, List.pairwise_cons]
      refine ⟨fun b hb => ?_, ih (fun z hz => hc z (List.mem_cons_of_mem _ hz)) h2⟩
      rcases (sinkR_mem c x b r).1 hb with rfl | hb
      · exact Or.inl (hcy.1 hlt)
      · exact h1 b hb
    · rw [if_neg hlt, List.pairwise_cons, List.pairwise_cons]
      have hyx2 : ltO F y x := by
        have : ¬ F x < F y := fun h => hlt (hcy.2 h)
        unfold ltO
        omega
      refine ⟨fun b hb => ?_, h1, h2⟩
      rcases List.mem_cons.1 hb with rfl | hb
      · exact hyx2
      · exact ltO_trans (h1 b hb) hyx2
theorem iota_snoc (i : Nat) : Sep.iota (i + 1) = Sep.iota i ++ [(i : Int)] := by
  have := Sep.iota_succ (i : Int) (by omega)
  rwa [show ((i : Int) + 1).toNat = i + 1 by omega, Int.toNat_natCast] at this
theorem sort_iota (c : Int → Int → Int) (F : Int → Int) (n : Nat) (hc : ∀ x y : Int, 0 ≤ x → x < n → 0 ≤ y → y < n → (c x y < 0 ↔ F x < F y)) : ∀ i, i ≤ n → (sortR c (Sep.iota i)).Pairwise (fun a b => ltO F b a) ∧ ∀ z, z ∈ sortR c (Sep.iota i) ↔ (0 ≤ z ∧ z < (i : Int)) := by
  intro i
  induction i with
  | zero =>
    intro _
    refine ⟨by simp [sortR, Sep.iota], fun z => ?_⟩
    simp [sortR, Sep.iota]
    try omega
  | succ i ih =>
    intro h
    obtain ⟨h1, h2⟩ := ih (by omega)
    rw [iota_snoc, sortR_snoc]
    refine ⟨sinkR_sorted c F i _ (fun y hy => ?_) h1, fun z => ?_⟩
    · have := (h2 y).1 hy
      exact ⟨hc i y (by omega) (by omega) (by omega) (by omega), by omega⟩
    · rw [sinkR_mem, h2]
      omega
theorem pw_unique (R : Int → Int → Prop) (has : ∀ a b, R a b → R b a → False) : ∀ l1 l2 : List Int, l1.Pairwise R → l2.Pairwise R → (∀ z, z ∈ l1 ↔ z ∈ l2) → l1 = l2 := by
  intro l1
  induction l1 with
  | nil =>
    intro l2 _ _ h
    cases l2 with
    | nil => rfl
    | cons b l2 => exact absurd ((h b).2 List.mem_cons_self) (by simp)
  | cons a l1 ih =>
    intro l2 h1 h2 h
    cases l2 with
    | nil => exact absurd ((h a).1 List.mem_cons_self) (by simp)
    | cons b l2 =>
      rw [List.pairwise_cons] at h1 h2
      have hab : a = b := by
        rcases List.mem_cons.1 ((h a).1 List.mem_cons_self) with e | ha
        · exact e
        · rcases List.mem_cons.1 ((h b).2 List.mem_cons_self) with e | hb
          · exact e.symm
          · exact (has _ _ (h1.1 b hb) (h2.1 a ha)).elim
      subst hab
      rw [ih l2 h1.2 h2.2 (fun z => ?_)]
      constructor
      · intro hz
        rcases List.mem_cons.1 ((h z).1 (List.mem_cons_of_mem _ hz)) with rfl | hz2
        · exact (has _ _ (h1.1 _ hz) (h1.1 _ hz)).elim
        · exact hz2
      · intro hz
        rcases List.mem_cons.1 ((h z).2 (List.mem_cons_of_mem _ hz)) with rfl | hz2
        · exact (has _ _ (h2.1 _ hz) (h2.1 _ hz)).elim
        · exact hz2
/-- The indices below n, by their keys 0, .., m - 1. -/
def bucks (F : Int → Int) (n : Nat) : Nat → List Int
  | 0 => []
  | m + 1 => bucks F n m ++ (Sep.iota n).filter (fun i => decide (F i = (m : Int)))
theorem iota_pw (n : Nat) : (Sep.iota n).Pairwise (· < ·) := by
  unfold Sep.iota
  rw [List.pairwise_map]
  exact List.pairwise_lt_range.imp (fun h => by omega)
theorem iota_mem' {n : Nat} {z : Int} : z ∈ Sep.iota n ↔ (0 ≤ z ∧ z < (n : Int)) := by
  refine ⟨Sep.iota_mem, fun h => ?_⟩
  unfold Sep.iota
  exact List.mem_map.2 ⟨z.toNat, List.mem_range.2 (by omega), by omega⟩
theorem bucks_mem (F : Int → Int) (n : Nat) : ∀ (m : Nat) (z : Int), z ∈ bucks F n m ↔ (0 ≤ z ∧ z < (n : Int) ∧ 0 ≤ F z ∧ F z < (m : Int)) := by
  intro m
  induction m with
  | zero => intro z; simp [bucks]; try omega
  | succ m ih =>
    intro z
    rw [bucks, List.mem_append, ih, List.mem_filter, iota_mem', decide_eq_true_eq]
    omega
theorem bucks_pw (F : Int → Int) (n : Nat) : ∀ m : Nat, (bucks F n m).Pairwise (ltO F) := by
  intro m
  induction m with
  | zero => simp [bucks]
  | succ m ih =>
    rw [bucks, List.pairwise_append]
    refine ⟨ih, ?_, fun a ha b hb => ?_⟩
    · refine ((iota_pw n).filter _).imp_of_mem ?_
      intro a b ha hb hab
      have h1 := (List.mem_filter.1 ha).2
      have h2 := (List.mem_filter.1 hb).2
      simp only [decide_eq_true_eq] at h1 h2
      exact Or.inr ⟨by omega, hab⟩
    · have h1 := (bucks_mem F n m a).1 ha
      have h2 := (List.mem_filter.1 hb).2
      simp only [decide_eq_true_eq] at h2
      exact Or.inl (by omega)
theorem sort_bucks (c : Int → Int → Int) (F : Int → Int) (n m : Nat) (hc : ∀ x y : Int, 0 ≤ x → x < n → 0 ≤ y → y < n → (c x y < 0 ↔ F x < F y)) (hF : ∀ x : Int, 0 ≤ x → x < n → 0 ≤ F x ∧ F x < (m : Int)) :
    Sep.isTo c (Sep.iota n) n = bucks F n m := by
  have e := isTo_all c (Sep.iota n)
  rw [Sep.iota_length] at e
  rw [e]
  obtain ⟨h1, h2⟩ := sort_iota c F n hc n (Nat.le_refl _)
  refine pw_unique (ltO F) (fun _ _ => ltO_asymm) _ _ (List.pairwise_reverse.2 h1) (bucks_pw F n m) (fun z => ?_)
  rw [List.mem_reverse, h2, bucks_mem]
  constructor
  · rintro ⟨h3, h4⟩
    have := hF z h3 h4
    exact ⟨h3, h4, this.1, this.2⟩
  · rintro ⟨h3, h4, _, _⟩
    exact ⟨h3, h4⟩

/-! #### rtOrderM -/
theorem iota_drop {n i : Nat} (h : i < n) : (Sep.iota n).drop i = (i : Int) :: (Sep.iota n).drop (i + 1) := by
  have hl : i < (Sep.iota n).length := by rw [Sep.iota_length]; exact h
  rw [List.drop_eq_getElem_cons hl]
  congr 1
  simp [Sep.iota]
theorem spec_rtOrder_l1 (l : List S68) (hl : l.length ≤ 1000) (f : Int) (hf : 0 ≤ f ∧ f ≤ 50) (R : List Int) : ∀ (d i : Nat) (acc : List Int), i + d = l.length → acc.length ≤ 100000 + i →
    (Ev (fun k => spec_rtOrder.l0 k l (acc ++ ((Sep.iota l.length).drop i).filter (fun i => decide ((rd_T68 l i).f0 = f))) (f + 1)) R) → Ev (fun k => spec_rtOrder.l1 k l acc f l (l.length : Int) (i : Int)) R := by
  intro d
  induction d with
  | zero =>
    intro i acc hi ha h
    apply ev_up
    simp only [spec_rtOrder.l1]
    refine ev_n (by omega) ?_
    rw [w64 (n := f + 1) (by omega) (by omega)]
    rw [List.drop_of_length_le (by rw [Sep.iota_length]; omega)] at h
    simpa using h
  | succ d ih =>
    intro i acc hi ha h
    apply ev_up
    simp only [spec_rtOrder.l1]
    rw [iota_drop (by omega), List.filter_cons] at h
    refine ev_p (by omega) (ev_p (by omega) (ev_p (by omega) (ev_ite (fun hc => ?_) (fun hc => ?_))))
    · rw [if_pos (by simpa using hc)] at h
      rw [w64 (n := (i : Int) + 1) (by omega) (by omega), show ((i : Int) + 1) = ((i + 1 : Nat) : Int) by omega]
      refine ev_p (by omega) (ih (i + 1) _ (by omega) (by simp; omega) ?_)
      simpa using h
    · rw [if_neg (by simpa using hc)] at h
      rw [w64 (n := (i : Int) + 1) (by omega) (by omega), show ((i : Int) + 1) = ((i + 1 : Nat) : Int) by omega]
      exact ih (i + 1) _ (by omega) (by omega) h
def keyF (l : List S68) (i : Int) : Int := (rd_T68 l i).f0
theorem spec_rtOrder_l0 (l : List S68) (hl : l.length ≤ 1000) : ∀ (d m : Nat), m + d = 51 → (bucks (keyF l) l.length m).length ≤ m * 1000 → Ev (fun k => spec_rtOrder.l0 k l (bucks (keyF l) l.length m) (m : Int)) (bucks (keyF l) l.length 51) := by
  intro d
  induction d with
  | zero =>
    intro m hm _
    obtain rfl : m = 51 := by omega
    apply ev_up
    simp only [spec_rtOrder.l0]
    exact ev_n (by omega) (Ev.now _)
  | succ d ih =>
    intro m hm hb
    apply ev_up
    simp only [spec_rtOrder.l0]
    refine ev_p (by omega) ?_
    have h0 : ((0 : Nat) : Int) = 0 := rfl
    have := spec_rtOrder_l1 l hl (m : Int) (by omega) (bucks (keyF l) l.length 51) l.length 0 (bucks (keyF l) l.length m) (by omega) (by omega)
    rw [h0] at this
    refine this ?_
    rw [List.drop_zero, show ((m : Int) + 1) = ((m + 1 : Nat) : Int) by omega]
    refine ih (m + 1) (by omega) ?_
    show (bucks (keyF l) l.length m ++ (Sep.iota l.length).filter _).length ≤ _
    rw [List.length_append]
    have h1 := List.length_filter_le (fun i => decide (keyF l i = (m : Int))) (Sep.iota l.length)
    rw [Sep.iota_length] at h1
    omega
theorem spec_rtOrder_ev (l : List S68) (hl : l.length ≤ 1000) : Ev (fun k => spec_rtOrder.f k l) (bucks (keyF l) l.length 51) := by
  unfold spec_rtOrder.f
  exact spec_rtOrder_l0 l hl 51 0 (by omega) (by simp [bucks])

/-! #### meetM -/
def meetB (a b : S68) : Bool := decide (a.f0 ≤ b.f1 ∧ b.f0 ≤ a.f1)
theorem spec_rtMeet_eq (a b : S68) : spec_rtMeet.f a.f0 a.f1 b.f0 b.f1 = some (meetB a b) := by
  unfold spec_rtMeet.f meetB
  by_cases h : a.f0 ≤ b.f1
  · rw [if_pos h]; simp [h]
  · rw [if_neg h]; simp [h]

/-! #### edgeM -/
def wAt (l : List S68) (i : Int) : S68 := rd_T68 l i
def hitsB (l : List S68) (out : List Int) (s i w : Int) : Prop := rd out w = s ∧ meetB (wAt l w) (wAt l i) = true
/-- What the reference's search for a track needs of the order's part that is done. -/
def okP (l : List S68) (out : List Int) (P : List Int) : Prop := ∀ w ∈ P, 0 ≤ w ∧ w < (l.length : Int) ∧ w < (out.length : Int)
theorem edge_no (l : List S68) (out q : List Int) (n i s len j : Int) (hi : 0 ≤ i ∧ i < (l.length : Int)) (hq : q.length ≤ 1000) (R : List Int × Bool) : ∀ (r p t : List Int), q = p ++ r ++ t → n = ((p ++ r).length : Int) → okP l out r → (∀ w ∈ r, ¬ hitsB l out s i w) →
    Ev (fun k => spec_LeftEdge.l1 k l out q n i s n q len j) R → Ev (fun k => spec_LeftEdge.l1 k l out q n i s (p.length : Int) q len j) R := by
  intro r
  induction r with
  | nil =>
    intro p t e hn _ _ h
    rw [List.append_nil] at hn
    rwa [hn] at h ⊢
  | cons w r ih =>
    intro p t e hn hok hno h
    have hlen : q.length = p.length + r.length + 1 + t.length := by rw [e]; simp; omega
    have hn2 : n = (p.length : Int) + r.length + 1 := by rw [hn]; simp; omega
    have hw : rd q (p.length : Int) = w := by rw [e, List.append_assoc]; exact rdA rfl
    obtain ⟨w0, w1, w2⟩ := hok w List.mem_cons_self
    have hrec := ih (p ++ [w]) t (by rw [e]; simp) (by rw [hn]; simp) (fun y hy => hok y (List.mem_cons_of_mem _ hy)) (fun y hy => hno y (List.mem_cons_of_mem _ hy)) h
    rw [show ((p ++ [w]).length : Int) = (p.length : Int) + 1 by simp] at hrec
    apply ev_up
    simp only [spec_LeftEdge.l1, hw]
    rw [w64 (n := (p.length : Int) + 1) (by omega) (by omega)]
    refine ev_p (by omega) (ev_p (by omega) (ev_p (by omega) (ev_p (by omega) (ev_p (by omega) (ev_ite (fun hc => ?_) (fun _ => hrec))))))
    refine ev_p (by omega) (ev_p (by omega) (ev_p (by omega) (Ev.bind (ev_c (spec_rtMeet_eq (wAt l w) (wAt l i))) (ev_n (fun hm => hno w List.mem_cons_self ⟨hc, hm⟩) hrec))))
theorem edge_yes (l : List S68) (out q : List Int) (n i s len j : Int) (hi : 0 ≤ i ∧ i < (l.length : Int)) (hq : q.length ≤ 1000) (hs : 0 ≤ s ∧ s ≤ 1000) (R : List Int × Bool) : ∀ (r p t : List Int), q = p ++ r ++ t → n = ((p ++ r).length : Int) → okP l out r → (∃ w ∈ r, hitsB l out s i w) →
    Ev (fun k => spec_LeftEdge.l1 k l out q n i (s + 1) 0 q len j) R → Ev (fun k => spec_LeftEdge.l1 k l out q n i s (p.length : Int) q len j) R := by
  intro r
  induction r with
  | nil =>
    rintro p t e hn _ ⟨w, hw, _⟩ h
    cases hw
  | cons w r ih =>
    intro p t e hn hok hex h
    have hlen : q.length = p.length + r.length + 1 + t.length := by rw [e]; simp; omega
    have hn2 : n = (p.length : Int) + r.length + 1 := by rw [hn]; simp; omega
    have hw : rd q (p.length : Int) = w := by rw [e, List.append_assoc]; exact rdA rfl
    obtain ⟨w0, w1, w2⟩ := hok w List.mem_cons_self
    have hrec : ¬ hitsB l out s i w → Ev (fun k => spec_LeftEdge.l1 k l out q n i s ((p.length : Int) + 1) q len j) R := by
      intro hno
      have := ih (p ++ [w]) t (by rw [e]; simp) (by rw [hn]; simp) (fun y hy => hok y (List.mem_cons_of_mem _ hy)) (by
        obtain ⟨y, hy, hh⟩ := hex
        rcases List.mem_cons.1 hy with rfl | hy
        · exact (hno hh).elim
        · exact ⟨y, hy, hh⟩) h
      rwa [show ((p ++ [w]).length : Int) = (p.length : Int) + 1 by simp] at this
    apply ev_up
    simp only [spec_LeftEdge.l1, hw]
    rw [w64 (n := (p.length : Int) + 1) (by omega) (by omega), w64 (n := s + 1) (by omega) (by omega)]
    refine ev_p (by omega) (ev_p (by omega) (ev_p (by omega) (ev_p (by omega) (ev_p (by omega) (ev_ite (fun hc => ?_) (fun hc => hrec (fun hh => hc hh.1)))))))
    refine ev_p (by omega) (ev_p (by omega) (ev_p (by omega) (Ev.bind (ev_c (spec_rtMeet_eq (wAt l w) (wAt l i))) (ev_ite (fun hm => ?_) (fun hm => hrec (fun hh => hm hh.2))))))
    simpa using h
theorem edge_up (l : List S68) (out : List Int) (P t : List Int) (i len j : Int) (hi : 0 ≤ i ∧ i < (l.length : Int)) (hq : (P ++ t).length ≤ 1000) (hok : okP l out P) (R : List Int × Bool) (T : Nat) (hT : T ≤ 1000) (hno : ∀ w ∈ P, ¬ hitsB l out T i w)
    (h : Ev (fun k => spec_LeftEdge.l1 k l out (P ++ t) (P.length : Int) i (T : Int) (P.length : Int) (P ++ t) len j) R) : ∀ d s : Nat, s + d = T → (∀ u : Nat, s ≤ u → u < T → ∃ w ∈ P, hitsB l out u i w) → Ev (fun k => spec_LeftEdge.l1 k l out (P ++ t) (P.length : Int) i (s : Int) 0 (P ++ t) len j) R := by
  intro d
  induction d with
  | zero =>
    intro s hs _
    obtain rfl : s = T := by omega
    exact edge_no l out (P ++ t) P.length i s len j hi hq R P [] t (by simp) (by simp) hok hno h
  | succ d ih =>
    intro s hs hyes
    have hrec := ih (s + 1) (by omega) (fun u h1 h2 => hyes u (by omega) h2)
    rw [show ((s + 1 : Nat) : Int) = (s : Int) + 1 by omega] at hrec
    exact edge_yes l out (P ++ t) P.length i s len j hi hq (by omega) R P [] t (by simp) (by simp) hok (hyes s (Nat.le_refl _) (by omega)) hrec
/-- The tracks of the wires that are done, and each track's end. -/
structure InvE (l : List S68) (P out last : List Int) : Prop where
  lt : ∀ w ∈ P, 0 ≤ rd out w ∧ rd out w < (last.length : Int)
  ex : ∀ t : Nat, t < last.length → ∃ w ∈ P, rd out w = (t : Int) ∧ (wAt l w).f1 = rd last t
  le : ∀ t : Nat, t < last.length → ∀ w ∈ P, rd out w = (t : Int) → (wAt l w).f1 ≤ rd last t
theorem leTrack_lt (f : Int) : ∀ (l : List Int) (t : Nat), t < Sep.leTrack f l → rd l (t : Int) ≥ f := by
  intro l
  induction l with
  | nil => intro t h; simp [Sep.leTrack] at h
  | cons x r ih =>
    intro t h
    rw [Sep.leTrack] at h
    split at h
    · rename_i hx
      cases t with
      | zero => simpa [rd] using hx
      | succ t =>
        have := ih t (by omega)
        simpa [rd] using this
    · omega
theorem leTrack_at (f : Int) : ∀ (l : List Int), Sep.leTrack f l < l.length → rd l (Sep.leTrack f l : Int) < f := by
  intro l
  induction l with
  | nil => intro h; simp at h
  | cons x r ih =>
    intro h
    rw [Sep.leTrack] at h ⊢
    split
    · rename_i hx
      rw [if_pos hx, List.length_cons] at h
      have := ih (by omega)
      simpa [rd] using this
    · rename_i hx
      simp [rd]
      omega
theorem rd_set {xs : List Int} {a b v : Int} (ha : 0 ≤ a) (hb : 0 ≤ b) (hl : a < (xs.length : Int)) : rd (xs.set a.toNat v) b = if b = a then v else rd xs b := by
  unfold rd
  rw [List.getD_eq_getElem?_getD, List.getD_eq_getElem?_getD, List.getElem?_set]
  by_cases h : b = a
  · subst h
    rw [if_pos rfl, if_pos rfl, if_pos (by omega)]
    rfl
  · rw [if_neg h, if_neg (by omega)]
theorem leLast_length (f g : Int) (last : List Int) : (Sep.leLast f g last).length = if Sep.leTrack f last = last.length then last.length + 1 else last.length := by
  unfold Sep.leLast
  rw [List.length_set]
  split <;> simp
theorem leLast_rd (f g : Int) (last : List Int) (t : Nat) (ht : t < (Sep.leLast f g last).length) : rd (Sep.leLast f g last) t = if t = Sep.leTrack f last then g else rd last t := by
  have hle := Sep.leTrack_le f last
  rw [leLast_length] at ht
  unfold Sep.leLast
  have h1 := rd_set (xs := if Sep.leTrack f last = last.length then last ++ [0] else last) (a := (Sep.leTrack f last : Int)) (b := (t : Int)) (v := g) (by omega) (by omega) (by split <;> simp <;> omega)
  rw [Int.toNat_natCast] at h1
  rw [h1]
  by_cases h : t = Sep.leTrack f last
  · rw [if_pos (by omega), if_pos h]
  · rw [if_neg (by omega), if_neg h]
    split
    · rename_i hc
      rw [if_pos hc] at ht
      unfold rd
      rw [List.getD_eq_getElem?_getD, List.getD_eq_getElem?_getD, List.getElem?_append_left (by omega)]
    · rfl
theorem wire_meets {l : List S68} {w i : Int} (h1 : keyF l w ≤ keyF l i) (h2 : keyF l i ≤ (wAt l i).f1) : meetB (wAt l w) (wAt l i) = true ↔ keyF l i ≤ (wAt l w).f1 := by
  unfold meetB
  rw [decide_eq_true_eq]
  unfold keyF at *
  unfold wAt at *
  omega
theorem InvE.step {l : List S68} {P out last : List Int} {i : Int} (h : InvE l P out last) (hi : 0 ≤ i ∧ i < (out.length : Int)) (hni : ∀ w ∈ P, 0 ≤ w ∧ w ≠ i) (hg : keyF l i ≤ (wAt l i).f1) :
    InvE l (P ++ [i]) (out.set i.toNat (Sep.leTrack (keyF l i) last : Int)) (Sep.leLast (keyF l i) (wAt l i).f1 last) := by
  have hle := Sep.leTrack_le (keyF l i) last
  have hlen := leLast_length (keyF l i) (wAt l i).f1 last
  have hout : ∀ w, 0 ≤ w → rd (out.set i.toNat (Sep.leTrack (keyF l i) last : Int)) w = if w = i then (Sep.leTrack (keyF l i) last : Int) else rd out w := fun w hw => rd_set hi.1 hw hi.2
  have hlast : last.length ≤ (Sep.leLast (keyF l i) (wAt l i).f1 last).length ∧ Sep.leTrack (keyF l i) last < (Sep.leLast (keyF l i) (wAt l i).f1 last).length := by
    rw [hlen]
    split <;> omega
  refine ⟨fun w hw => ?_, fun t ht => ?_, fun t ht w hw he => ?_⟩
  · rcases List.mem_append.1 hw with hw | hw
    · rw [hout w (hni w hw).1, if_neg (hni w hw).2]
      have := h.lt w hw
      omega
    · rw [List.mem_singleton.1 hw, hout i hi.1, if_pos rfl]
      omega
  · rw [leLast_rd _ _ _ _ ht]
    by_cases hc : t = Sep.leTrack (keyF l i) last
    · rw [if_pos hc]
      exact ⟨i, by simp, by rw [hout i hi.1, if_pos rfl, hc], rfl⟩
    · rw [if_neg hc]
      have htl : t < last.length := by
        rw [hlen] at ht
        split at ht <;> omega
      obtain ⟨w, hw, h1, h2⟩ := h.ex t htl
      exact ⟨w, by simp [hw], by rw [hout w (hni w hw).1, if_neg (hni w hw).2, h1], h2⟩
  · rw [leLast_rd _ _ _ _ ht]
    by_cases hc : t = Sep.leTrack (keyF l i) last
    · rw [if_pos hc]
      rcases List.mem_append.1 hw with hw | hw
      · rw [hout w (hni w hw).1, if_neg (hni w hw).2] at he
        have hlt := (h.lt w hw).2
        have h1 := h.le t (by omega) w hw he
        have h2 := leTrack_at (keyF l i) last (by omega)
        rw [← hc] at h2
        omega
      · rw [List.mem_singleton.1 hw]
        exact Int.le_refl _
    · rw [if_neg hc]
      have htl : t < last.length := by
        rw [hlen] at ht
        split at ht <;> omega
      rcases List.mem_append.1 hw with hw | hw
      · rw [hout w (hni w hw).1, if_neg (hni w hw).2] at he
        exact h.le t htl w hw he
      · rw [List.mem_singleton.1 hw, hout i hi.1, if_pos rfl] at he
        omega
theorem edge_main (l : List S68) (hl : l.length ≤ 20) (hg : ∀ i : Int, 0 ≤ i → i < (l.length : Int) → 0 ≤ keyF l i ∧ keyF l i ≤ (wAt l i).f1) : ∀ (r P out last : List Int), (P ++ r).Pairwise (ltO (keyF l)) → (∀ w ∈ P ++ r, 0 ≤ w ∧ w < (l.length : Int)) → (P ++ r).length ≤ 1000 → out.length = l.length → last.length ≤ P.length → InvE l P out last →
    Ev (fun k => spec_LeftEdge.l0 k l out (P ++ r) (P ++ r) ((P ++ r).length : Int) (P.length : Int)) ((impl_LeftEdge.run l r (out, last)).1, true) := by
  intro r
  induction r with
  | nil =>
    intro P out last _ _ _ _ _ _
    apply ev_up
    simp only [spec_LeftEdge.l0, List.append_nil]
    exact ev_n (by omega) (Ev.now _)
  | cons i r ih =>
    intro P out last hpw hm hq ho hlp hinv
    have hlen : (P ++ i :: r).length = P.length + r.length + 1 := by simp; omega
    have hri : rd (P ++ i :: r) (P.length : Int) = i := rdA rfl
    obtain ⟨hi0, hi1⟩ := hm i (by simp)
    obtain ⟨hk0, hk1⟩ := hg i hi0 hi1
    have hP : ∀ w ∈ P, 0 ≤ w ∧ w < (l.length : Int) := fun w hw => hm w (by simp [hw])
    have hPi : ∀ w ∈ P, ltO (keyF l) w i := fun w hw => (List.pairwise_append.1 hpw).2.2 w hw i (by simp)
    have hne : ∀ w ∈ P, 0 ≤ w ∧ w ≠ i := fun w hw => ⟨(hP w hw).1, fun e => by have := hPi w hw; unfold ltO at this; rw [e] at this; omega⟩
    have hkey : ∀ w ∈ P, keyF l w ≤ keyF l i := fun w hw => by have := hPi w hw; unfold ltO at this; omega
    have hle := Sep.leTrack_le (keyF l i) last
    rw [impl_LeftEdge.run_cons]
    have hF : impl_LeftEdge.F l i = keyF l i := rfl
    have hG : impl_LeftEdge.G l i = (wAt l i).f1 := rfl
    rw [hF, hG]
    have hrec := ih (P ++ [i]) (out.set i.toNat (Sep.leTrack (keyF l i) last : Int)) (Sep.leLast (keyF l i) (wAt l i).f1 last) (by simpa using hpw) (by simpa using hm) (by simpa using hq) (by rw [List.length_set, ho]) (by rw [leLast_length]; simp; split <;> omega) (hinv.step ⟨hi0, by omega⟩ hne hk1)
    rw [show (P ++ [i]) ++ r = P ++ i :: r by simp] at hrec
    apply ev_up
    simp only [spec_LeftEdge.l0, hri]
    refine ev_p (by omega) (ev_p (by omega) (ev_p (by omega) ?_))
    have hok : okP l out P := fun w hw => ⟨(hP w hw).1, (hP w hw).2, by have := (hP w hw).2; omega⟩
    refine edge_up l out P (i :: r) i _ _ ⟨hi0, hi1⟩ hq hok _ (Sep.leTrack (keyF l i) last) (by omega) ?_ ?_ (Sep.leTrack (keyF l i) last) 0 (by omega) ?_
    · rintro w hw ⟨h1, h2⟩
      rw [wire_meets (hkey w hw) hk1] at h2
      have hlt := hinv.lt w hw
      have h3 := leTrack_at (keyF l i) last (by omega)
      have h4 := hinv.le _ (by omega) w hw h1
      omega
    · apply ev_up
      simp only [spec_LeftEdge.l1]
      refine ev_n (by omega) (ev_p (by omega) (ev_p (by omega) ?_))
      rw [w64 (n := (P.length : Int) + 1) (by omega) (by omega)]
      rw [show ((P ++ [i]).length : Int) = (P.length : Int) + 1 by simp] at hrec
      exact hrec
    · intro u _ hu
      have h1 := leTrack_lt (keyF l i) last u hu
      obtain ⟨w, hw, h2, h3⟩ := hinv.ex u (by omega)
      exact ⟨w, hw, h2, (wire_meets (hkey w hw) hk1).2 (by omega)⟩

/-! #### l1In -/
theorem l1In_eq (a b c : Int) : spec_l1In.f a b c = some (decide (b ≤ a ∧ a ≤ c)) := by
  unfold spec_l1In.f
  by_cases h : b ≤ a
  · rw [if_pos h]; simp [h]
  · rw [if_neg h]; simp [h]

/-! #### chanM -/
def goodWire (x : S68) : Bool := decide (0 ≤ x.f0 ∧ x.f0 ≤ x.f1 ∧ x.f1 ≤ 50)
def chanM (l : List S68) : Bool := decide (l.length ≤ 20) && l.all goodWire
theorem spec_rtWire_eq (a b : Int) : spec_rtWire.f a b = some (goodWire ⟨a, b⟩) := by
  unfold spec_rtWire.f
  rw [l1In_eq, Option.bind_some]
  by_cases h : 0 ≤ a ∧ a ≤ b
  · rw [decide_eq_true h, if_pos rfl, l1In_eq, Option.bind_some]
    congr 1
    exact decide_eq_decide.2 ⟨fun hh => ⟨h.1, h.2, hh.2⟩, fun hh => ⟨h.2, hh.2.2⟩⟩
  · rw [decide_eq_false h, if_neg (by decide)]
    congr 1; symm
    exact decide_eq_false (fun hh => h ⟨hh.1, hh.2.1⟩)
theorem impl_isWire_eq (a b : Int) : impl_isWire.f a b = some (goodWire ⟨a, b⟩) := by
  unfold impl_isWire.f
  by_cases h1 : a ≥ 0
  · rw [if_pos h1]
    by_cases h2 : a ≤ b
    · rw [if_pos h2]
      congr 1
      exact decide_eq_decide.2 ⟨fun hh => ⟨h1, h2, hh⟩, fun hh => hh.2.2⟩
    · rw [if_neg h2]
      congr 1; symm
      exact decide_eq_false (fun hh => h2 hh.2.1)
  · rw [if_neg h1]
    congr 1; symm
    exact decide_eq_false (fun hh => h1 hh.1)

/-! #### spec_rtGood -/
theorem spec_rtGood_l0 (l : List S68) (hl : l.length ≤ 9223372036854775807) (r : List S68) : ∀ (p : List S68) (i : Int), i = p.length → l = p ++ r →
    Ev (fun k => spec_rtGood.l0 k l l l.length i) (decide (l.length ≤ 20) && r.all goodWire) := by
  induction r with
  | nil =>
    intro p i hi e
    have hlen : l.length = p.length := by rw [e]; simp
    apply ev_up
    simp only [spec_rtGood.l0]
    refine ev_n (by omega) (ev_eq (Ev.now _) ?_)
    rw [List.all_nil, Bool.and_true]
    exact decide_eq_decide.2 (by omega)
  | cons x r ih =>
    intro p i hi e
    have hlen : l.length = p.length + r.length + 1 := by rw [e]; simp; omega
    have hx : rd_T68 l i = x := by rw [e]; exact rdWireA hi
    have ih' := ih (p ++ [x]) (i + 1) (by simp; omega) (by rw [e]; simp)
    apply ev_up
    simp only [spec_rtGood.l0]
    refine ev_p (by omega) (ev_p (by omega) (ev_p (by omega) ?_))
    rw [hx, spec_rtWire_eq]
    refine Ev.bind (ev_c rfl) ?_
    have ex : (⟨x.f0, x.f1⟩ : S68) = x := rfl
    rw [ex]
    refine ev_ite (fun h => ?_) (fun h => ?_)
    · rw [w64 (by omega) (by omega)]
      refine ev_eq ih' ?_
      rw [List.all_cons, h, Bool.true_and]
    · refine ev_eq (Ev.now _) ?_
      have h' : goodWire x = false := by simpa using h
      rw [List.all_cons, h', Bool.false_and, Bool.and_false]
theorem spec_rtGood_ev (l : List S68) (hl : l.length ≤ 9223372036854775807) : Ev (fun k => spec_rtGood.f k l) (chanM l) := by
  unfold spec_rtGood.f chanM
  exact spec_rtGood_l0 l hl l [] 0 rfl rfl

/-! #### impl_AreChannelWires -/
theorem impl_AreChannelWires_l0 (l : List S68) (hl : l.length ≤ 9223372036854775807) (r : List S68) : ∀ (p : List S68) (i : Int), i = p.length → l = p ++ r →
    Ev (fun k => impl_AreChannelWires.l0 k l l.length i) (r.all goodWire) := by
  induction r with
  | nil =>
    intro p i hi e
    have hlen : l.length = p.length := by rw [e]; simp
    apply ev_up
    simp only [impl_AreChannelWires.l0]
    exact ev_n (by omega) (Ev.now _)
  | cons x r ih =>
    intro p i hi e
    have hlen : l.length = p.length + r.length + 1 := by rw [e]; simp; omega
    have hx : rd_T68 l i = x := by rw [e]; exact rdWireA hi
    have ih' := ih (p ++ [x]) (i + 1) (by simp; omega) (by rw [e]; simp)
    apply ev_up
    simp only [impl_AreChannelWires.l0]
    refine ev_p (by omega) (ev_p (by omega) (ev_p (by omega) ?_))
    rw [hx, impl_isWire_eq]
    refine Ev.bind (ev_c rfl) ?_
    have ex : (⟨x.f0, x.f1⟩ : S68) = x := rfl
    rw [ex]
    refine ev_ite (fun h => ?_) (fun h => ?_)
    · rw [w64 (by omega) (by omega)]
      refine ev_eq ih' ?_
      rw [List.all_cons, h, Bool.true_and]
    · refine ev_eq (Ev.now _) ?_
      have h' : goodWire x = false := by simpa using h
      rw [List.all_cons, h', Bool.false_and]
theorem impl_AreChannelWires_ev (l : List S68) (hl : l.length ≤ 9223372036854775807) : Ev (fun k => impl_AreChannelWires.f k l) (chanM l) := by
  unfold impl_AreChannelWires.f chanM
  refine ev_ite (fun h => ?_) (fun h => ?_)
  · rw [decide_eq_false (by omega), Bool.false_and]
    exact Ev.now _
  · rw [decide_eq_true (by omega), Bool.true_and]
    exact impl_AreChannelWires_l0 l hl l [] 0 rfl rfl

/-! #### chanOf -/
theorem chanM_of {l : List S68} (h : chanM l = true) : l.length ≤ 20 ∧ ∀ w ∈ l, goodWire w = true := by
  unfold chanM at h
  rw [Bool.and_eq_true, List.all_eq_true] at h
  exact ⟨of_decide_eq_true h.1, h.2⟩

/-! #### leftEdge -/
theorem goodKey {l : List S68} (hg : ∀ w ∈ l, goodWire w = true) (i : Int) (h0 : 0 ≤ i) (h1 : i < (l.length : Int)) : 0 ≤ keyF l i ∧ keyF l i ≤ (wAt l i).f1 ∧ (wAt l i).f1 ≤ 50 := by
  obtain ⟨m, rfl⟩ := nat_of h0
  have hl : m < l.length := by omega
  have e : rd_T68 l (m : Int) = l[m] := getDN hl
  have := hg l[m] (List.getElem_mem hl)
  unfold goodWire at this
  unfold keyF wAt
  rw [e]
  simp only [Bool.and_eq_true, decide_eq_true_eq] at this
  omega
theorem leftEdge_ord {l : List S68} (hg : ∀ w ∈ l, goodWire w = true) : impl_LeftEdge.ord l = bucks (keyF l) l.length 51 := by
  unfold impl_LeftEdge.ord
  refine sort_bucks _ (keyF l) l.length 51 (fun x y hx0 hx1 hy0 hy1 => ?_) (fun x h0 h1 => by have := goodKey hg x h0 h1; omega)
  have h1 := goodKey hg x hx0 hx1
  have h2 := goodKey hg y hy0 hy1
  show wrap64 (keyF l x - keyF l y) < 0 ↔ _
  rw [w64 (by omega) (by omega)]
  omega
def edgeR (l : List S68) : List Int := (impl_LeftEdge.run l (bucks (keyF l) l.length 51) (List.replicate l.length 0, [])).1
theorem run_length (l : List S68) : ∀ (r : List Int) (st : List Int × List Int), (impl_LeftEdge.run l r st).1.length = st.1.length := by
  intro r
  induction r with
  | nil => intro st; rfl
  | cons i r ih =>
    rintro ⟨o, la⟩
    rw [impl_LeftEdge.run_cons, ih, List.length_set]
theorem leftEdge_spec (l : List S68) (h20 : l.length ≤ 20) (hg : ∀ w ∈ l, goodWire w = true) (q : List Int) (hq : q = bucks (keyF l) l.length 51) : Ev (fun k => spec_LeftEdge.l0 k l (List.replicate l.length 0) q q (q.length : Int) 0) ((impl_LeftEdge.run l q (List.replicate l.length 0, [])).1, true) := by
  have hl : q.length = l.length := by
    rw [hq, ← leftEdge_ord hg]
    unfold impl_LeftEdge.ord
    rw [Sep.isTo_length, Sep.iota_length]
  have hm := edge_main l h20 (fun i h0 h1 => by have := goodKey hg i h0 h1; omega) q [] (List.replicate l.length 0) [] (by rw [List.nil_append, hq]; exact bucks_pw _ _ _) (fun w hw => by
    rw [List.nil_append, hq] at hw
    have := (bucks_mem (keyF l) l.length 51 w).1 hw
    omega) (by rw [List.nil_append, hl]; omega) (by simp) (by simp) ⟨fun w hw => absurd hw (by simp), fun t ht => absurd ht (by simp), fun t ht => absurd ht (by simp)⟩
  rw [List.nil_append] at hm
  exact hm
theorem leftEdge_ev (l : List S68) (hl : l.length ≤ 1048576) : ∃ R : List Int × Bool, R.2 = chanM l ∧ R.1.length ≤ 20 ∧ Ev (fun k => spec_LeftEdge.f k l) R ∧ Ev (fun k => impl_LeftEdge.f k l) R := by
  by_cases h : chanM l = true
  · obtain ⟨h20, hg⟩ := chanM_of h
    have ho := leftEdge_ord hg
    have hs := spec_rtOrder_ev l (by omega)
    obtain ⟨q, hq⟩ : ∃ q, q = bucks (keyF l) l.length 51 := ⟨_, rfl⟩
    have hr := leftEdge_spec l h20 hg q hq
    rw [← hq] at ho hs
    have hlen : ((impl_LeftEdge.run l q (List.replicate l.length 0, [])).1).length ≤ 20 := by
      rw [run_length, List.length_replicate]
      exact h20
    obtain ⟨R1, hR1⟩ : ∃ R1, R1 = (impl_LeftEdge.run l q (List.replicate l.length 0, [])).1 := ⟨_, rfl⟩
    rw [← hR1] at hr hlen
    refine ⟨(R1, true), h.symm, hlen, ?_, ?_⟩
    · unfold spec_LeftEdge.f
      refine Ev.bind (spec_rtGood_ev l (by omega)) (ev_p h (ev_p (by omega) (ev_p (by omega) (Ev.bind hs ?_))))
      rw [Int.toNat_natCast]
      exact hr
    · unfold impl_LeftEdge.f
      rw [ho, ← hR1]
      exact Ev.bind (impl_AreChannelWires_ev l (by omega)) (ev_p h (ev_p h20 (Ev.now _)))
  · refine ⟨([], false), by simpa using h, by simp, ?_, ?_⟩
    · unfold spec_LeftEdge.f
      exact Ev.bind (spec_rtGood_ev l (by omega)) (ev_n h (Ev.now _))
    · unfold impl_LeftEdge.f
      exact Ev.bind (impl_AreChannelWires_ev l (by omega)) (ev_n h (Ev.now _))

/-! #### eqIntS -/
theorem eqIntS_l0 (r : List Int) : ∀ (s p q : List Int) (i : Int), i = p.length → p.length = q.length → r.length = s.length → p.length + r.length ≤ 9223372036854775807 →
    Ev (fun k => laws_eqIntS.l0 k (p ++ r) (q ++ s) i) (decide (r = s)) := by
  induction r with
  | nil =>
    intro s p q i hi hpq hrs hb
    obtain rfl : s = [] := List.length_eq_zero_iff.1 hrs.symm
    apply ev_up
    simp only [laws_eqIntS.l0]
    refine ev_n (by simp; omega) ?_
    simpa using Ev.now true
  | cons x r ih =>
    intro s p q i hi hpq hrs hb
    match s, hrs with
    | y :: s, hrs =>
      simp only [List.length_cons] at hrs hb
      apply ev_up
      simp only [laws_eqIntS.l0]
      refine ev_p (by simp; omega) (ev_p (by omega) (ev_p (by simp; omega) ?_))
      rw [rdA hi, rdA (by omega)]
      refine ev_ite (fun hxy => ?_) (fun hxy => ?_)
      · subst hxy
        rw [w64 (by omega) (by omega), appA, appA (p := q)]
        refine ev_eq (ih s (p ++ [x]) (q ++ [x]) (i + 1) (by simp; omega) (by simp; omega) (by omega) (by simp; omega)) ?_
        simp
      · refine ev_eq (Ev.now false) ?_
        simp [hxy]
theorem eqIntS_ev (a b : List Int) (h : a.length ≤ 9223372036854775807) : Ev (fun k => laws_eqIntS.f k a b) (decide (a = b)) := by
  unfold laws_eqIntS.f
  refine ev_ite (fun hl => ?_) (fun hl => ?_)
  · exact eqIntS_l0 a b [] [] 0 rfl rfl (by omega) (by simpa using h)
  · refine ev_eq (Ev.now false) ?_
    symm
    apply decide_eq_false
    rintro rfl
    exact hl rfl

/-! #### markIntS -/
theorem markIntS_l0 (r : List Int) : ∀ (p : List Int) (s i : Int), i = p.length → p.length + r.length ≤ 9223372036854775807 → 0 ≤ s → s + r.length ≤ 9223372036854775807 →
    Ev (fun k => laws_markIntS.l0 k (p ++ r) s i) (s + r.length, p ++ seqFrom s r.length) := by
  induction r with
  | nil =>
    intro p s i hi hb h0 hs
    apply ev_up
    simp only [laws_markIntS.l0]
    refine ev_n (by simp; omega) ?_
    simpa [seqFrom] using Ev.now (s, p)
  | cons x r ih =>
    intro p s i hi hb h0 hs
    simp only [List.length_cons, Int.natCast_add] at hb hs
    apply ev_up
    simp only [laws_markIntS.l0]
    refine ev_p (by simp; omega) (ev_p (by omega) ?_)
    rw [setA hi, w64 (by omega) (by omega), w64 (by omega) (by omega)]
    refine ev_eq (ih (p ++ [s]) (s + 1) (i + 1) (by simp; omega) (by simp; omega) (by omega) (by omega)) ?_
    simp [seqFrom]
    omega
theorem markIntS_ev (a : List Int) (s : Int) (h0 : 0 ≤ s) (h : a.length + s ≤ 9223372036854775807) : Ev (fun k => laws_markIntS.f k a s) (s + a.length, seqFrom s a.length) := by
  unfold laws_markIntS.f
  exact markIntS_l0 a [] s 0 rfl (by simp; omega) h0 (by omega)

/-! #### heldIntS -/
theorem heldIntS_l0 (n : Nat) : ∀ (p : List Int) (s i : Int), i = p.length → p.length + n ≤ 9223372036854775807 → 0 ≤ s → s + n ≤ 9223372036854775807 →
    Ev (fun k => laws_heldIntS.l0 k (p ++ seqFrom s n) s i) (s + n) := by
  induction n with
  | zero =>
    intro p s i hi hb h0 hs
    apply ev_up
    simp only [laws_heldIntS.l0]
    refine ev_n (by simp [seqFrom]; omega) ?_
    simpa [seqFrom] using Ev.now s
  | succ n ih =>
    intro p s i hi hb h0 hs
    apply ev_up
    simp only [laws_heldIntS.l0]
    have hl := seqFrom_length s (n + 1)
    refine ev_p (by simp [hl]; omega) (ev_p (by omega) ?_)
    refine ev_p (by simp only [seqFrom]; exact rdA hi) ?_
    simp only [seqFrom]
    rw [appA, w64 (by omega) (by omega), w64 (by omega) (by omega)]
    refine ev_eq (ih (p ++ [s]) (s + 1) (i + 1) (by simp; omega) (by simp; omega) (by omega) (by omega)) ?_
    omega
theorem heldIntS_ev (n : Nat) (s : Int) (h0 : 0 ≤ s) (h : n + s ≤ 9223372036854775807) : Ev (fun k => laws_heldIntS.f k (seqFrom s n) s) (s + n) := by
  unfold laws_heldIntS.f
  exact heldIntS_l0 n [] s 0 rfl (by simp; omega) h0 (by omega)

/-! #### markWireS -/
/-- Marked wires: some others, of as many. -/
theorem markWireS_l0 (r : List S68) : ∀ (p : List S68) (s i : Int), i = p.length → p.length + r.length ≤ 1048576 → 0 ≤ s → s + 2 * r.length ≤ 4194304 →
    ∃ t, Ev (fun k => laws_markWireS.l0 k (p ++ r) s i) (s + 2 * r.length, t) := by
  induction r with
  | nil =>
    intro p s i hi hb h0 hs
    refine ⟨p, ?_⟩
    apply ev_up
    simp only [laws_markWireS.l0]
    refine ev_n (by simp; omega) ?_
    simpa using Ev.now (s, p)
  | cons x r ih =>
    intro p s i hi hb h0 hs
    simp only [List.length_cons, Int.natCast_add] at hb hs
    obtain ⟨t, ht⟩ := ih (p ++ [⟨s, s + 1⟩]) (s + 1 + 1) (i + 1) (by simp; omega) (by simp; omega) (by omega) (by omega)
    refine ⟨t, ?_⟩
    apply ev_up
    simp only [laws_markWireS.l0]
    refine ev_p (by simp; omega) (ev_p (by omega) (Ev.bind (ev_c rfl) ?_))
    rw [rdWireA hi, setB hi, rdWireA hi, setA hi, w64 (n := s + 1) (by omega) (by omega), w64 (n := s + 1 + 1) (by omega) (by omega), w64 (n := i + 1) (by omega) (by omega)]
    refine ev_eq ht ?_
    simp only [List.length_cons, Prod.mk.injEq, and_true]
    omega
theorem markWireS_ev (a : List S68) (h : a.length ≤ 1048576) : ∃ t, Ev (fun k => laws_markWireS.f k a 1) (1 + 2 * a.length, t) := by
  unfold laws_markWireS.f
  exact markWireS_l0 a [] 1 0 rfl (by simpa using h) (by omega) (by omega)

/-! #### FnExactLeftEdge -/
theorem FnExactLeftEdge (l0 : (List (S70))) : (l0.length ≤ 9223372036854775807 ∧ ∀ y2 ∈ l0, I64 y2.f0 ∧ I64 y2.f1) → ∃ k, laws_FnExactLeftEdge.f k l0 = some true := by
  rintro ⟨hl, _⟩
  apply ev_get
  unfold laws_FnExactLeftEdge.f
  rw [szWireS_eq l0 1048576 (by omega) (by omega) hl]
  refine Ev.bind (ev_c rfl) (ev_ite (fun _ => Ev.now _) (fun h => ?_))
  have hl2 := wire_pre h
  have hto := toWireS_ev l0 hl2
  have hlm : (l0.map cvWire).length ≤ 1048576 := by simpa using hl2
  have heq : Ev (fun k => laws_eqWireS.f k (l0.map cvWire) (l0.map cvWire)) true := by simpa using eqWireS_ev (l0.map cvWire) (l0.map cvWire) (by omega)
  obtain ⟨R, _, hRl, hs, hi⟩ := leftEdge_ev (l0.map cvWire) hlm
  have heqR : Ev (fun k => laws_eqIntS.f k R.1 R.1) true := by simpa using eqIntS_ev R.1 R.1 (by omega)
  have hmark := markIntS_ev R.1 1 (by omega) (by omega)
  have hheld := heldIntS_ev R.1.length 1 (by omega) (by omega)
  obtain ⟨t, hmw⟩ := markWireS_ev (l0.map cvWire) hlm
  repeat (first
    | (with_reducible exact Ev.now _)
    | (with_reducible refine Ev.bind hto ?_)
    | (with_reducible refine Ev.bind hs ?_)
    | (with_reducible refine Ev.bind hi ?_)
    | (with_reducible refine Ev.bind heq ?_)
    | (with_reducible refine Ev.bind heqR ?_)
    | (with_reducible refine Ev.bind hmark ?_)
    | (with_reducible refine Ev.bind hheld ?_)
    | (with_reducible refine Ev.bind hmw ?_)
    | (with_reducible refine ev_p rfl ?_)
    | (with_reducible refine ev_p True.intro ?_)
    | (refine ev_n ?h ?_; case h => (first | omega | (simp; done) | (simp; omega)))
    | (with_reducible refine ev_up (g := fun n => laws_FnExactLeftEdge.j0 n _ _ _ _ _ _ _) ?_; simp only [laws_FnExactLeftEdge.j0, bne_self_eq_false])
    | (with_reducible refine ev_up (g := fun n => laws_FnExactLeftEdge.j1 n _ _ _ _ _) ?_; simp only [laws_FnExactLeftEdge.j1, bne_self_eq_false])
    | (with_reducible refine ev_up (g := fun n => laws_FnExactLeftEdge.j2 n _ _ _) ?_; simp only [laws_FnExactLeftEdge.j2, bne_self_eq_false]))

end Go.Proofs.Yteefbjkhheghkaa.Pure
