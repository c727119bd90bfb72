/- The pure part of the law FnExactTermCircuit: what the program and the reference compute is the same, for all arguments. Conditions: the numbers are of Go's int, the lengths of slices are. -/
import Derived.Test.YteefbjkhheghkaaQFnExactTermCircuitx6
import Derived.Test.YteefbjkhheghkaaKit
set_option linter.unusedVariables false
set_option linter.unusedSimpArgs false
namespace Go.Proofs.Yteefbjkhheghkaa.Pure
open Go.RowKit Go.Proofs.Yteefbjkhheghkaa.QFnExactTermCircuit Go.Proofs.YteefbjkhheghkaaW.PrintWords Go.Proofs.YteefbjkhheghkaaW.PrintLast Go.Proofs.Yteefbjkhheghkaa.Open Go.Proofs.Yteefbjkhheghkaa.Kit

/-! #### szIntS -/
theorem szIntS_eq (l : List Int) (a : Int) (ha : 0 ≤ a) (ha2 : a ≤ 1048576) (hl : l.length ≤ 9223372036854775807) : laws_szIntS.f l a = some (if l.length ≤ a then a - l.length else -1) := by
  unfold laws_szIntS.f
  rw [w64 (by omega) (by omega)]
  by_cases h : (l.length : Int) ≤ a
  · rw [if_neg (by omega), if_pos h]
  · rw [if_pos (by omega), if_neg h]

/-! #### szTable -/
theorem szTable_eq (n : Int) (l : List Int) (hl : l.length ≤ 9223372036854775807) : laws_szTable.f n l 1048576 = some (if (l.length : Int) ≤ 1048576 then (1048576 : Int) - l.length else -1) := by
  unfold laws_szTable.f
  rw [szIntS_eq l 1048576 (by omega) (by omega) hl, Option.bind_some]
  by_cases h : (l.length : Int) ≤ 1048576
  · rw [if_pos h, if_neg (by omega)]
  · rw [if_neg h, if_pos (by decide)]

/-! #### lenPre -/
theorem len_pre {n : Nat} (h : ¬ (if (n : Int) ≤ 1048576 then (1048576 : Int) - n else -1) < 0) : n ≤ 1048576 := by
  by_cases h2 : (n : Int) ≤ 1048576
  · omega
  · rw [if_neg h2] at h
    exact absurd (by decide) h

/-! #### toIntS -/
theorem toIntS_l0 (r : List Int) : ∀ (p z : List Int) (i : Int), i = p.length → z.length = r.length → p.length + r.length ≤ 9223372036854775806 →
    Ev (fun k => laws_toIntS.l0 k (p ++ r) (p ++ z) i) (p ++ r) := by
  induction r with
  | nil =>
    intro p z i hi hz hb
    obtain rfl : z = [] := List.length_eq_zero_iff.1 hz
    apply ev_up
    simp only [laws_toIntS.l0]
    refine ev_n (by simp; omega) ?_
    exact Ev.now _
  | cons x r ih =>
    intro p z i hi hz hb
    match z, hz with
    | y :: z, hz =>
      simp only [List.length_cons] at hz hb
      apply ev_up
      simp only [laws_toIntS.l0]
      refine ev_p (by simp; omega) (ev_p (by omega) (ev_p (by simp; omega) ?_))
      rw [rdA hi, setA hi, w64 (by omega) (by omega), appA]
      exact ih (p ++ [x]) z (i + 1) (by simp; omega) (by omega) (by simp; omega)
theorem toIntS_ev (a : List Int) (h : a.length ≤ 35184372088832) : Ev (fun k => laws_toIntS.f k a) a := by
  unfold laws_toIntS.f
  refine ev_p (by omega) (ev_p (by omega) ?_)
  exact toIntS_l0 a [] (List.replicate ((a.length : Int)).toNat 0) 0 rfl (by simp) (by simp; omega)
/-! #### toTable -/
theorem toTable_ev (n : Int) (l : List Int) (hl : l.length ≤ 1048576) : Ev (fun k => laws_toTable.f k n l) (n, l) := by
  unfold laws_toTable.f
  exact Ev.bind (toIntS_ev l (by omega)) (Ev.now _)

/-! #### eqIntS -/
theorem eqIntS_l0 (r : List Int) : ∀ (s p q : List Int) (i : Int), i = p.length → p.length = q.length → r.length = s.length → p.length + r.length ≤ 9223372036854775807 →
    Ev (fun k => laws_eqIntS.l0 k (p ++ r) (q ++ s) i) (decide (r = s)) := by
  induction r with
  | nil =>
    intro s p q i hi hpq hrs hb
    obtain rfl : s = [] := List.length_eq_zero_iff.1 hrs.symm
    apply ev_up
    simp only [laws_eqIntS.l0]
    refine ev_n (by simp; omega) ?_
    simpa using Ev.now true
  | cons x r ih =>
    intro s p q i hi hpq hrs hb
    match s, hrs with
    | y :: s, hrs =>
      simp only [List.length_cons] at hrs hb
      apply ev_up
      simp only [laws_eqIntS.l0]
      refine ev_p (by simp; omega) (ev_p (by omega) (ev_p (by simp; omega) ?_))
      rw [rdA hi, rdA (by omega)]
      refine ev_ite (fun hxy => ?_) (fun hxy => ?_)
      · subst hxy
        rw [w64 (by omega) (by omega), appA, appA (p := q)]
        refine ev_eq (ih s (p ++ [x]) (q ++ [x]) (i + 1) (by simp; omega) (by simp; omega) (by omega) (by simp; omega)) ?_
        simp
      · refine ev_eq (Ev.now false) ?_
        simp [hxy]
theorem eqIntS_ev (a b : List Int) (h : a.length ≤ 9223372036854775807) : Ev (fun k => laws_eqIntS.f k a b) (decide (a = b)) := by
  unfold laws_eqIntS.f
  refine ev_ite (fun hl => ?_) (fun hl => ?_)
  · exact eqIntS_l0 a b [] [] 0 rfl rfl (by omega) (by simpa using h)
  · refine ev_eq (Ev.now false) ?_
    symm
    apply decide_eq_false
    rintro rfl
    exact hl rfl

/-! #### eqTable -/
theorem eqTable_same (n : Int) (l : List Int) (hl : l.length ≤ 1048576) : Ev (fun k => laws_eqTable.f k n l n l) true := by
  unfold laws_eqTable.f
  have heq : Ev (fun k => laws_eqIntS.f k l l) true := by simpa using eqIntS_ev l l (by omega)
  exact ev_p rfl (Ev.bind heq (ev_p rfl (Ev.now _)))

/-! #### gateT -/
theorem rdGateA {p r : List S74} {x : S74} {i : Int} (hi : i = p.length) : rd_T74 (p ++ x :: r) i = x := getDA hi

/-! #### l1In -/
theorem l1In_eq (a b c : Int) : spec_l1In.f a b c = some (decide (b ≤ a ∧ a ≤ c)) := by
  unfold spec_l1In.f
  by_cases h : b ≤ a
  · rw [if_pos h]; simp [h]
  · rw [if_neg h]; simp [h]

/-! #### l1All -/
def inB (a b : Int) (x : Int) : Bool := decide (a ≤ x ∧ x ≤ b)
theorem l1All_l0 (l : List Int) (a b : Int) (hl : l.length ≤ 9223372036854775807) (r : List Int) : ∀ (p : List Int) (i : Int), i = p.length → l = p ++ r →
    Ev (fun k => spec_l1All.l0 k a b l l.length i) (r.all (inB a b)) := by
  induction r with
  | nil =>
    intro p i hi e
    have hlen : l.length = p.length := by rw [e]; simp
    apply ev_up
    simp only [spec_l1All.l0]
    exact ev_n (by omega) (Ev.now _)
  | cons x r ih =>
    intro p i hi e
    have hlen : l.length = p.length + r.length + 1 := by rw [e]; simp; omega
    have hx : rd l i = x := by rw [e]; exact rdA hi
    have ih' := ih (p ++ [x]) (i + 1) (by simp; omega) (by rw [e]; simp)
    apply ev_up
    simp only [spec_l1All.l0]
    refine ev_p (by omega) (ev_p (by omega) (ev_p (by omega) ?_))
    rw [hx, l1In_eq]
    refine Ev.bind (ev_c rfl) ?_
    refine ev_ite (fun h => ?_) (fun h => ?_)
    · rw [w64 (by omega) (by omega)]
      refine ev_eq ih' ?_
      rw [List.all_cons, show inB a b x = true from h, Bool.true_and]
    · refine ev_eq (Ev.now _) ?_
      rw [List.all_cons, show inB a b x = false from decide_eq_false (fun hh => h (decide_eq_true hh)), Bool.false_and]
theorem l1All_ev (l : List Int) (a b : Int) (hl : l.length ≤ 9223372036854775807) : Ev (fun k => spec_l1All.f k l a b) (l.all (inB a b)) := by
  unfold spec_l1All.f
  exact l1All_l0 l a b hl l [] 0 rfl rfl

/-! #### ttInputs -/
theorem ttInputs_eq (a : Int) : spec_ttInputs.f a = some (decide (0 ≤ a ∧ a ≤ 4)) := by
  unfold spec_ttInputs.f
  rw [l1In_eq, Option.bind_some]

/-! #### circuitM -/
/-- A gate is good where there are w wires before it. -/
def gateOk (w : Int) (g : S74) : Bool := decide (1 ≤ g.f0 ∧ g.f0 ≤ 4 ∧ 0 ≤ g.f1 ∧ g.f1 < w ∧ 0 ≤ g.f2 ∧ g.f2 < w ∧ (g.f0 = 4 → g.f1 = g.f2))
def gatesOk (w : Int) : List S74 → Bool
  | [] => true
  | g :: r => gateOk w g && gatesOk (w + 1) r
def circuitM (n : Int) (gs : List S74) (os : List Int) : Bool := decide (0 ≤ n ∧ n ≤ 4 ∧ gs.length ≤ 16 ∧ 1 ≤ os.length ∧ os.length ≤ 4) && (gatesOk n gs && os.all (inB 0 (n + gs.length - 1)))

/-! #### gatesOkI -/
theorem circuitM_of {n : Int} {gs : List S74} {os : List Int} (h : circuitM n gs os = true) :
    ∃ a : Nat, n = a ∧ a ≤ 4 ∧ gs.length ≤ 16 ∧ 1 ≤ os.length ∧ os.length ≤ 4 ∧ gatesOk n gs = true ∧ ∀ o ∈ os, 0 ≤ o ∧ o < n + gs.length := by
  unfold circuitM at h
  rw [Bool.and_eq_true, Bool.and_eq_true, List.all_eq_true] at h
  obtain ⟨h1, h2, h3⟩ := h
  obtain ⟨h4, h5, h6, h7, h8⟩ := of_decide_eq_true h1
  obtain ⟨a, rfl⟩ := nat_of h4
  refine ⟨a, rfl, by omega, h6, h7, h8, h2, fun o ho => ?_⟩
  have := of_decide_eq_true (h3 o ho)
  omega

/-! #### tcGood -/
theorem gatesOk_append (b : List S74) : ∀ (a : List S74) (w : Int), gatesOk w (a ++ b) = (gatesOk w a && gatesOk (w + (a.length : Int)) b) := by
  intro a
  induction a with
  | nil => intro w; simp [gatesOk]
  | cons g r ih =>
    intro w
    rw [List.cons_append, gatesOk, gatesOk, ih, Bool.and_assoc, List.length_cons, show w + 1 + (r.length : Int) = w + ((r.length + 1 : Nat) : Int) by omega]
theorem gatesOk_snoc {a : List S74} {w : Int} (h : gatesOk w a = true) (g : S74) (hg : gateOk (w + (a.length : Int)) g = true) : gatesOk w (a ++ [g]) = true := by
  rw [gatesOk_append, h, gatesOk, gatesOk, hg]
  rfl
theorem tcNots_good (n : Nat) : gatesOk n (tcNots n) = true := by
  have h : ∀ d : Nat, d ≤ n → gatesOk (n : Int) ((Sep.iota d).map (fun i => (⟨4, i, i⟩ : S74))) = true := by
    intro d
    induction d with
    | zero => intro _; rfl
    | succ d ih =>
      intro hd
      have e := Sep.iota_succ (d : Int) (by omega)
      rw [show ((d : Int) + 1).toNat = d + 1 by omega, Int.toNat_natCast] at e
      rw [e, List.map_append, List.map_singleton]
      refine gatesOk_snoc (ih (by omega)) _ (decide_eq_true ?_)
      rw [List.length_map, Sep.iota_length]
      exact ⟨show (1 : Int) ≤ 4 by omega, show (4 : Int) ≤ 4 by omega, show (0 : Int) ≤ d by omega, show (d : Int) < n + d by omega, show (0 : Int) ≤ d by omega, show (d : Int) < n + d by omega, fun _ => rfl⟩
  exact h n (Nat.le_refl _)
theorem tcJoin_good (n kind : Int) (hn : 0 ≤ n) (hk : 1 ≤ kind ∧ kind ≤ 3) : ∀ (r : List Int) (gs : List S74) (last : Int), gatesOk n gs = true → (0 ≤ last ∧ last < n + (gs.length : Int)) → (∀ k ∈ r, 0 ≤ k ∧ k < n + (gs.length : Int)) →
    gatesOk n (tcJoin n kind r gs last).1 = true ∧ 0 ≤ (tcJoin n kind r gs last).2 ∧ (tcJoin n kind r gs last).2 < n + ((tcJoin n kind r gs last).1.length : Int) := by
  intro r
  induction r with
  | nil => intro gs last hg hl _; exact ⟨hg, hl⟩
  | cons k r ih =>
    intro gs last hg hl hr
    have hk0 := hr k (List.mem_cons_self ..)
    rw [tcJoin]
    refine ih _ _ (gatesOk_snoc hg _ (decide_eq_true ?_)) ?_ ?_
    · refine ⟨hk.1, by show kind ≤ 4; omega, hl.1, hl.2, hk0.1, hk0.2, fun e => ?_⟩
      have e2 : kind = 4 := e
      omega
    · rw [List.length_append, List.length_singleton]; omega
    · intro y hy
      have := hr y (List.mem_cons_of_mem _ hy)
      rw [List.length_append, List.length_singleton]
      omega
theorem tcAll_good (n kind : Int) (hn : 0 ≤ n) (hk : 1 ≤ kind ∧ kind ≤ 3) (l : List Int) (gs : List S74) (hl : l ≠ []) (hg : gatesOk n gs = true) (hr : ∀ k ∈ l, 0 ≤ k ∧ k < n + (gs.length : Int)) :
    gatesOk n (tcAll n kind gs l).1 = true ∧ 0 ≤ (tcAll n kind gs l).2 ∧ (tcAll n kind gs l).2 < n + ((tcAll n kind gs l).1.length : Int) := by
  cases l with
  | nil => exact absurd rfl hl
  | cons k r => exact tcJoin_good n kind hn hk r gs k hg (hr k (List.mem_cons_self ..)) (fun y hy => hr y (List.mem_cons_of_mem _ hy))
theorem tcAll_grows (n kind : Int) (l : List Int) (gs : List S74) : gs.length ≤ (tcAll n kind gs l).1.length := by
  cases l with
  | nil => exact Nat.le_refl _
  | cons k r => rw [tcAll, tcJoin_length]; omega
theorem tcWires_in (n : Nat) (x : Int) (gs : List S74) (hgl : n ≤ gs.length) : ∀ k ∈ tcWires (n : Int) x n, 0 ≤ k ∧ k < (n : Int) + (gs.length : Int) := by
  intro k hk
  unfold tcWires at hk
  obtain ⟨i, hi, rfl⟩ := List.mem_map.1 hk
  have := Sep.iota_mem hi
  unfold tcWire
  split <;> omega
theorem tcTerms_good (n : Nat) (hn : 1 ≤ n) : ∀ (r : List Int) (gs : List S74) (ts : List Int), gatesOk n gs = true → n ≤ gs.length → (∀ t ∈ ts, 0 ≤ t ∧ t < (n : Int) + (gs.length : Int)) →
    gatesOk n (tcTerms n r gs ts).1 = true ∧ ∀ t ∈ (tcTerms n r gs ts).2, 0 ≤ t ∧ t < (n : Int) + ((tcTerms n r gs ts).1.length : Int) := by
  intro r
  induction r with
  | nil => intro gs ts hg _ ht; exact ⟨hg, ht⟩
  | cons x r ih =>
    intro gs ts hg hgl ht
    rw [tcTerms]
    have hw : tcWires (n : Int) x n ≠ [] := by
      intro e
      have := tcWires_length (n : Int) x n
      rw [e] at this
      simp at this
      omega
    obtain ⟨h1, h2, h3⟩ := tcAll_good (n : Int) 1 (by omega) (by omega) _ gs hw hg (tcWires_in n x gs hgl)
    have h4 := tcAll_grows (n : Int) 1 (tcWires (n : Int) x n) gs
    refine ih _ _ h1 (by omega) (fun t ht' => ?_)
    rcases List.mem_append.1 ht' with h | h
    · have := ht t h
      omega
    · rw [List.mem_singleton.1 h]
      exact ⟨h2, h3⟩
theorem tcMade_good (n : Nat) (hn : 1 ≤ n) (os : List Int) (ho : os ≠ []) : gatesOk n (tcMade n os).1 = true ∧ 0 ≤ (tcMade n os).2 ∧ (tcMade n os).2 < (n : Int) + ((tcMade n os).1.length : Int) := by
  obtain ⟨h1, h2⟩ := tcTerms_good n hn os (tcNots n) [] (tcNots_good n) (by rw [tcNots_length]; exact Nat.le_refl _) (fun t ht => absurd ht (by simp))
  refine tcAll_good (n : Int) 2 (by omega) (by omega) _ _ ?_ h1 h2
  intro e
  have := (tcTerms_length n os (tcNots n) []).2
  rw [e] at this
  cases os with
  | nil => exact ho rfl
  | cons x r => simp at this
theorem tcMade_length (n : Nat) (os : List Int) : (tcMade n os).1.length ≤ n + os.length * n + os.length := by
  unfold tcMade
  have h1 := tcTerms_length n os (tcNots n) []
  have h2 := tcAll_length (n : Int) 2 (tcTerms n os (tcNots n) []).1 (tcTerms n os (tcNots n) []).2
  rw [tcNots_length] at h1
  have h3 : (tcTerms n os (tcNots n) []).2.length = os.length := by rw [h1.2]; simp
  omega
theorem tcOnes_length (l : List Int) (j : Int) : (tcOnes l j).length ≤ l.length := by
  unfold tcOnes
  refine Nat.le_trans (List.length_filter_le _ _) ?_
  rw [List.length_drop, Sep.iota_length]
  omega

/-! #### rdMem -/
theorem rd_mem {ds : List Int} {i : Int} (h0 : 0 ≤ i) (h1 : i < ds.length) : rd ds i ∈ ds := by
  obtain ⟨n, rfl⟩ := nat_of h0
  have hn : n < ds.length := by omega
  rw [rdN hn]
  exact List.getElem_mem hn


/-! #### tcOnesEv -/
theorem tcOnes_l0 (l : List Int) (hl : l.length ≤ 1048576) (hb : ∀ x ∈ l, 0 ≤ x ∧ x ≤ 1) (d : Nat) : ∀ (i : Int) (xs : List Int), 0 ≤ i → i + d = l.length → (xs.length : Int) ≤ i →
    Ev (fun k => spec_ttOnes.l0 k xs l l.length i) (xs ++ tcOnes l i) := by
  induction d with
  | zero =>
    intro i xs h0 hi hx
    obtain rfl : i = (l.length : Int) := by omega
    apply ev_up
    simp only [spec_ttOnes.l0]
    refine ev_n (by omega) ?_
    rw [tcOnes_end, List.append_nil]
    exact Ev.now _
  | succ d ih =>
    intro i xs h0 hi hx
    have hr := hb (rd l i) (rd_mem h0 (by omega))
    apply ev_up
    simp only [spec_ttOnes.l0]
    rw [w64 (n := i + 1) (by omega) (by omega), tcOnes_step l i h0 (by omega)]
    refine ev_p (by omega) (ev_p (by omega) (ev_p (by omega) (ev_ite (fun h => ?_) (fun h => ?_))))
    · rw [if_neg (by omega)]
      refine ev_p (by omega) (ev_eq (ih (i + 1) (xs ++ [i]) (by omega) (by omega) (by rw [List.length_append, List.length_singleton]; omega)) ?_)
      simp
    · rw [if_pos (by omega)]
      exact ih (i + 1) xs (by omega) (by omega) (by omega)
theorem tcOnes_ev (n : Int) (l : List Int) (hl : l.length ≤ 1048576) (hb : ∀ x ∈ l, 0 ≤ x ∧ x ≤ 1) : Ev (fun k => spec_ttOnes.f k n l) (tcOnes l 0) := by
  unfold spec_ttOnes.f
  exact tcOnes_l0 l hl hb l.length 0 [] (by omega) (by omega) (by simp)

/-! #### tableM -/
def tableM (n : Int) (l : List Int) : Bool := decide (0 ≤ n ∧ n ≤ 4 ∧ l.length = 2 ^ n.toNat) && l.all (inB 0 1)
theorem tableM_of {n : Int} {l : List Int} (h : tableM n l = true) : ∃ a : Nat, n = a ∧ a ≤ 4 ∧ l.length = 2 ^ a ∧ l.length ≤ 16 ∧ ∀ x ∈ l, 0 ≤ x ∧ x ≤ 1 := by
  unfold tableM at h
  rw [Bool.and_eq_true, List.all_eq_true] at h
  obtain ⟨h1, h2, h3⟩ := of_decide_eq_true h.1
  obtain ⟨a, rfl⟩ := nat_of h1
  simp only [Int.toNat_natCast] at h3
  have h8 : 2 ^ a ≤ 2 ^ 4 := Nat.pow_le_pow_right (by decide) (by omega)
  exact ⟨a, rfl, by omega, h3, by omega, fun x hx => of_decide_eq_true (h.2 x hx)⟩

/-! #### spec_ttGood -/
theorem spec_ttGood_ev (n : Int) (l : List Int) (hl : l.length ≤ 9223372036854775807) : Ev (fun k => spec_ttGood.f k n l) (tableM n l) := by
  unfold spec_ttGood.f tableM
  rw [ttInputs_eq]
  refine Ev.bind (ev_c rfl) (ev_ite (fun h => ?_) (fun h => ?_))
  · have h' := of_decide_eq_true h
    obtain ⟨a, rfl⟩ := nat_of h'.1
    rw [u64w (by omega) (by omega), shl1 a (by omega)]
    refine ev_p (by omega) (ev_ite (fun h2 => ?_) (fun h2 => ?_))
    · have h3 : l.length = 2 ^ a := by exact_mod_cast h2
      rw [decide_eq_true ⟨h'.1, h'.2, by simpa using h3⟩, Bool.true_and]
      exact Ev.bind (l1All_ev l 0 1 hl) (Ev.now _)
    · rw [decide_eq_false (fun hh => h2 (by have := hh.2.2; simp only [Int.toNat_natCast] at this; exact_mod_cast this)), Bool.false_and]
      exact Ev.now _
  · rw [decide_eq_false (fun hh => h (decide_eq_true ⟨hh.1, hh.2.1⟩)), Bool.false_and]
    exact Ev.now _

/-! #### impl_areBits -/
theorem impl_areBits_l0 (l : List Int) (hl : l.length ≤ 9223372036854775807) (r : List Int) : ∀ (p : List Int) (i : Int), i = p.length → l = p ++ r →
    Ev (fun k => impl_areBits.l0 k l l.length i) (r.all (inB 0 1)) := by
  induction r with
  | nil =>
    intro p i hi e
    have hlen : l.length = p.length := by rw [e]; simp
    apply ev_up
    simp only [impl_areBits.l0]
    exact ev_n (by omega) (Ev.now _)
  | cons x r ih =>
    intro p i hi e
    have hlen : l.length = p.length + r.length + 1 := by rw [e]; simp; omega
    have hx : rd l i = x := by rw [e]; exact rdA hi
    have ih' := ih (p ++ [x]) (i + 1) (by simp; omega) (by rw [e]; simp)
    apply ev_up
    simp only [impl_areBits.l0]
    refine ev_p (by omega) (ev_p (by omega) (ev_p (by omega) ?_))
    rw [hx, w64 (n := i + 1) (by omega) (by omega)]
    refine ev_ite (fun h => ?_) (fun h => ev_ite (fun h2 => ?_) (fun h2 => ?_))
    · rw [List.all_cons, show inB 0 1 x = true from decide_eq_true (by omega), Bool.true_and]
      exact ih'
    · rw [List.all_cons, show inB 0 1 x = true from decide_eq_true (by omega), Bool.true_and]
      exact ih'
    · rw [List.all_cons, show inB 0 1 x = false from decide_eq_false (by omega), Bool.false_and]
      exact Ev.now _
theorem impl_areBits_ev (l : List Int) (hl : l.length ≤ 9223372036854775807) : Ev (fun k => impl_areBits.f k l) (l.all (inB 0 1)) := by
  unfold impl_areBits.f
  exact impl_areBits_l0 l hl l [] 0 rfl rfl

/-! #### impl_IsTable -/
theorem impl_IsTable_ev (n : Int) (l : List Int) (hl : l.length ≤ 9223372036854775807) : Ev (fun k => impl_IsTable.f k n l) (tableM n l) := by
  unfold impl_IsTable.f tableM
  refine ev_ite (fun h1 => ev_ite (fun h2 => ?_) (fun h2 => ?_)) (fun h1 => ?_)
  · obtain ⟨a, rfl⟩ := nat_of h1
    rw [shl1 a (by omega)]
    refine ev_p (by omega) (ev_ite (fun h3 => ?_) (fun h3 => ?_))
    · have h4 : l.length = 2 ^ a := by exact_mod_cast h3
      rw [decide_eq_true ⟨h1, h2, by simpa using h4⟩, Bool.true_and]
      exact Ev.bind (impl_areBits_ev l hl) (Ev.now _)
    · rw [decide_eq_false (fun hh => h3 (by have := hh.2.2; simp only [Int.toNat_natCast] at this; exact_mod_cast this)), Bool.false_and]
      exact Ev.now _
  · rw [decide_eq_false (fun hh => h2 hh.2.1), Bool.false_and]
    exact Ev.now _
  · rw [decide_eq_false (fun hh => h1 hh.1), Bool.false_and]
    exact Ev.now _

/-! #### spec_ciGood -/
theorem spec_ciGood_end (n : Int) (gs : List S74) (os : List Int) (hn : I64 n) (hg : gs.length ≤ 1048576) (ho : os.length ≤ 1048576) :
    Ev (fun k => (spec_ttInputs.f n).bind fun t108 => (if t108 = true then (if (gs.length : Int) ≤ 16 then ((spec_l1In.f (os.length : Int) 1 4).bind fun t109 => (if t109 = true then ((spec_l1All.f k os 0 (wrap64 ((wrap64 (n + (gs.length : Int))) - 1))).bind fun t110 => (some t110)) else (some false))) else (some false)) else (some false)))
      (decide (0 ≤ n ∧ n ≤ 4 ∧ gs.length ≤ 16 ∧ 1 ≤ os.length ∧ os.length ≤ 4) && os.all (inB 0 (n + gs.length - 1))) := by
  rw [ttInputs_eq, l1In_eq]
  refine Ev.bind (ev_c rfl) (ev_ite (fun h1 => ?_) (fun h1 => ?_))
  · have h1' := of_decide_eq_true h1
    refine ev_ite (fun h2 => ?_) (fun h2 => ?_)
    · refine Ev.bind (ev_c rfl) (ev_ite (fun h3 => ?_) (fun h3 => ?_))
      · have h3' := of_decide_eq_true h3
        rw [w64 (n := n + gs.length) (by omega) (by omega), w64 (by omega) (by omega), decide_eq_true (by omega), Bool.true_and]
        exact Ev.bind (l1All_ev os 0 _ (by omega)) (Ev.now _)
      · rw [decide_eq_false (fun hh => h3 (decide_eq_true (by omega))), Bool.false_and]
        exact Ev.now _
    · rw [decide_eq_false (by omega), Bool.false_and]
      exact Ev.now _
  · rw [decide_eq_false (fun hh => h1 (decide_eq_true (by omega))), Bool.false_and]
    exact Ev.now _
theorem spec_ciGood_l0 (n : Int) (gs : List S74) (os : List Int) (hn : I64 n) (hg : gs.length ≤ 1048576) (ho : os.length ≤ 1048576) (r : List S74) : ∀ (p : List S74) (i : Int), i = p.length → gs = p ++ r →
    Ev (fun k => spec_ciGood.l0 k gs gs.length i n gs os) (decide (0 ≤ n ∧ n ≤ 4 ∧ gs.length ≤ 16 ∧ 1 ≤ os.length ∧ os.length ≤ 4) && (gatesOk (n + i) r && os.all (inB 0 (n + gs.length - 1)))) := by
  have hn' := hn
  unfold I64 at hn'
  induction r with
  | nil =>
    intro p i hi e
    have hlen : gs.length = p.length := by rw [e]; simp
    apply ev_up
    simp only [spec_ciGood.l0]
    refine ev_n (by omega) ?_
    rw [gatesOk, Bool.true_and]
    exact spec_ciGood_end n gs os hn hg ho
  | cons x r ih =>
    intro p i hi e
    have hlen : gs.length = p.length + r.length + 1 := by rw [e]; simp; omega
    have hx : rd_T74 gs i = x := by rw [e]; exact rdGateA hi
    have ih' := ih (p ++ [x]) (i + 1) (by simp; omega) (by rw [e]; simp)
    apply ev_up
    simp only [spec_ciGood.l0]
    refine ev_p (by omega) (ev_p (by omega) (ev_p (by omega) ?_))
    rw [hx, w64 (n := i + 1) (by omega) (by omega)]
    simp only [l1In_eq]
    by_cases hv : 0 ≤ n ∧ n ≤ 4
    · rw [w64 (n := n + i) (by omega) (by omega), w64 (n := n + i - 1) (by omega) (by omega)]
      have no : gateOk (n + i) x = false → Ev (fun _ => some false) (decide (0 ≤ n ∧ n ≤ 4 ∧ gs.length ≤ 16 ∧ 1 ≤ os.length ∧ os.length ≤ 4) && (gatesOk (n + i) (x :: r) && os.all (inB 0 (n + gs.length - 1)))) := fun h => by
        rw [gatesOk, h, Bool.false_and, Bool.false_and, Bool.and_false]
        exact Ev.now _
      have yes : gateOk (n + i) x = true → Ev (fun k => spec_ciGood.l0 k gs gs.length (i + 1) n gs os) (decide (0 ≤ n ∧ n ≤ 4 ∧ gs.length ≤ 16 ∧ 1 ≤ os.length ∧ os.length ≤ 4) && (gatesOk (n + i) (x :: r) && os.all (inB 0 (n + gs.length - 1)))) := fun h => by
        rw [gatesOk, h, Bool.true_and, Int.add_assoc]
        exact ih'
      refine Ev.bind (ev_c rfl) (ev_ite (fun h1 => Ev.bind (ev_c rfl) (ev_ite (fun h2 => Ev.bind (ev_c rfl) (ev_ite (fun h3 => ev_ite (fun h4 => ev_ite (fun h5 => ?_) (fun h5 => ?_)) (fun h4 => ?_)) (fun h3 => ?_))) (fun h2 => ?_))) (fun h1 => ?_))
      · simp only [decide_eq_true_eq] at h1 h2 h3
        exact yes (decide_eq_true (by omega))
      · exact no (decide_eq_false (fun hh => h5 (hh.2.2.2.2.2.2 h4).symm))
      · simp only [decide_eq_true_eq] at h1 h2 h3
        exact yes (decide_eq_true (by omega))
      · simp only [decide_eq_true_eq] at h3
        exact no (decide_eq_false (by omega))
      · simp only [decide_eq_true_eq] at h2
        exact no (decide_eq_false (by omega))
      · simp only [decide_eq_true_eq] at h1
        exact no (decide_eq_false (by omega))
    · have ef : decide (0 ≤ n ∧ n ≤ 4 ∧ gs.length ≤ 16 ∧ 1 ≤ os.length ∧ os.length ≤ 4) = false := decide_eq_false (by omega)
      rw [ef, Bool.false_and] at ih' ⊢
      refine Ev.bind (ev_c rfl) (ev_ite (fun h1 => Ev.bind (ev_c rfl) (ev_ite (fun h2 => Ev.bind (ev_c rfl) (ev_ite (fun h3 => ev_ite (fun h4 => ev_ite (fun h5 => ih') (fun h5 => Ev.now _)) (fun h4 => ih')) (fun h3 => Ev.now _))) (fun h2 => Ev.now _))) (fun h1 => Ev.now _))
theorem spec_ciGood_ev (n : Int) (gs : List S74) (os : List Int) (hn : I64 n) (hg : gs.length ≤ 1048576) (ho : os.length ≤ 1048576) : Ev (fun k => spec_ciGood.f k n gs os) (circuitM n gs os) := by
  unfold spec_ciGood.f circuitM
  have := spec_ciGood_l0 n gs os hn hg ho gs [] 0 rfl rfl
  rwa [Int.add_zero] at this

/-! #### termCircuit -/
def termCM (n : Int) (l : List Int) : Int × List S74 × List Int × Bool :=
  if tableM n l = true then (if n < 1 then (0, [], [], false) else (if tcOnes l 0 = [] then (0, [], [], false) else (if 16 < (tcMade n.toNat (tcOnes l 0)).1.length then (0, [], [], false) else (n, (tcMade n.toNat (tcOnes l 0)).1, [(tcMade n.toNat (tcOnes l 0)).2], true)))) else (0, [], [], false)
theorem termCM_length (n : Int) (l : List Int) : (termCM n l).2.1.length ≤ 16 ∧ (termCM n l).2.2.1.length ≤ 1 := by
  unfold termCM
  split
  · split
    · simp
    · split
      · simp
      · split
        · simp
        · refine ⟨?_, by simp⟩
          show (tcMade n.toNat (tcOnes l 0)).1.length ≤ 16
          omega
  · simp
theorem impl_TermCircuit_ev (n : Int) (l : List Int) (hl : l.length ≤ 1048576) : Ev (fun k => impl_TermCircuit.f k n l) (termCM n l) := by
  unfold impl_TermCircuit.f termCM
  refine Ev.bind (impl_IsTable_ev n l (by omega)) (ev_ite (fun h => ?_) (fun h => ?_))
  · obtain ⟨a, rfl, ha, hla, hl16, _⟩ := tableM_of h
    rw [if_pos h]
    refine ev_ite (fun h1 => ?_) (fun h1 => ?_)
    · rw [if_pos h1]; exact Ev.now _
    · rw [if_neg h1]
      refine ev_p ⟨by omega, hl16⟩ (ev_ite (fun h2 => ?_) (fun h2 => ?_))
      · rw [if_pos h2]; exact Ev.now _
      · rw [if_neg h2]
        refine ev_ite (fun h3 => ?_) (fun h3 => ?_)
        · rw [if_pos h3]; exact Ev.now _
        · rw [if_neg h3]; exact Ev.now _
  · rw [if_neg h]; exact Ev.now _
theorem spec_TermCircuit_ev (n : Int) (l : List Int) (hl : l.length ≤ 1048576) : Ev (fun k => spec_TermCircuit.f k n l) (termCM n l) := by
  unfold spec_TermCircuit.f termCM
  refine Ev.bind (spec_ttGood_ev n l (by omega)) (ev_ite (fun h => ?_) (fun h => ?_))
  · obtain ⟨a, rfl, ha, hla, hl16, hb⟩ := tableM_of h
    rw [if_pos h]
    refine ev_ite (fun h1 => ?_) (fun h1 => ?_)
    · rw [if_pos (by omega)]; exact Ev.now _
    · rw [if_neg (by omega)]
      refine Ev.bind (tcOnes_ev a l hl hb) (ev_ite (fun h2 => ?_) (fun h2 => ?_))
      · rw [if_pos h2]; exact Ev.now _
      · rw [if_neg h2]
        have ho := tcOnes_length l 0
        rw [Int.toNat_natCast]
        obtain ⟨g1, g2, g3⟩ := tcMade_good a (by omega) (tcOnes l 0) h2
        have g4 := tcMade_length a (tcOnes l 0)
        have g5 : (tcOnes l 0).length * a ≤ 16 * 4 := Nat.mul_le_mul (by omega) ha
        have hc : circuitM (a : Int) (tcMade a (tcOnes l 0)).1 [(tcMade a (tcOnes l 0)).2] = decide ((tcMade a (tcOnes l 0)).1.length ≤ 16) := by
          unfold circuitM
          rw [g1, Bool.true_and, List.all_cons, List.all_nil, Bool.and_true, show inB 0 ((a : Int) + (tcMade a (tcOnes l 0)).1.length - 1) (tcMade a (tcOnes l 0)).2 = true from decide_eq_true (by omega), Bool.and_true]
          refine decide_eq_decide.mpr ⟨fun hh => hh.2.2.1, fun hh => ⟨by omega, by omega, hh, by simp, by simp⟩⟩
        refine ev_p ⟨by omega, by omega, by omega⟩ (Ev.bind (spec_ciGood_ev (a : Int) _ _ (by unfold I64; omega) (by omega) (by simp)) ?_)
        rw [hc]
        refine ev_ite (fun h3 => ?_) (fun h3 => ?_)
        · have h3' := of_decide_eq_true h3
          rw [if_neg (by omega)]; exact Ev.now _
        · have h3' : ¬ (tcMade a (tcOnes l 0)).1.length ≤ 16 := fun hh => h3 (decide_eq_true hh)
          rw [if_pos (by omega)]; exact Ev.now _
  · rw [if_neg h]; exact Ev.now _

/-! #### eqGateS -/
theorem eqGateS_l0 (r : List S74) : ∀ (p : List S74) (i : Int), i = p.length → p.length + r.length ≤ 9223372036854775807 →
    Ev (fun k => laws_eqGateS.l0 k (p ++ r) (p ++ r) i) true := by
  induction r with
  | nil =>
    intro p i hi hb
    apply ev_up
    simp only [laws_eqGateS.l0]
    exact ev_n (by simp; omega) (Ev.now true)
  | cons x r ih =>
    intro p i hi hb
    simp only [List.length_cons] at hb
    apply ev_up
    simp only [laws_eqGateS.l0]
    refine ev_p (by simp; omega) (ev_p (by omega) (ev_p (by simp; omega) ?_))
    rw [rdGateA hi]
    refine Ev.bind (ev_c (show laws_eqGate.f x.f0 x.f1 x.f2 x.f0 x.f1 x.f2 = some true by unfold laws_eqGate.f; rw [if_pos rfl, if_pos rfl, if_pos rfl])) (ev_p rfl ?_)
    rw [w64 (by omega) (by omega), appA]
    exact ih (p ++ [x]) (i + 1) (by simp; omega) (by simp; omega)
theorem eqGateS_self (a : List S74) (h : a.length ≤ 9223372036854775807) : Ev (fun k => laws_eqGateS.f k a a) true := by
  unfold laws_eqGateS.f
  exact ev_p rfl (eqGateS_l0 a [] 0 rfl (by simpa using h))

/-! #### eqCircuit -/
theorem eqCircuit_self (n : Int) (gs : List S74) (os : List Int) (hg : gs.length ≤ 9223372036854775807) (ho : os.length ≤ 9223372036854775807) : Ev (fun k => laws_eqCircuit.f k n gs os n gs os) true := by
  unfold laws_eqCircuit.f
  have heq : Ev (fun k => laws_eqIntS.f k os os) true := by simpa using eqIntS_ev os os ho
  exact ev_p rfl (Ev.bind (eqGateS_self gs hg) (ev_p rfl (Ev.bind heq (ev_p rfl (Ev.now _)))))

/-! #### markIntS -/
theorem markIntS_l0 (r : List Int) : ∀ (p : List Int) (s i : Int), i = p.length → p.length + r.length ≤ 9223372036854775807 → 0 ≤ s → s + r.length ≤ 9223372036854775807 →
    Ev (fun k => laws_markIntS.l0 k (p ++ r) s i) (s + r.length, p ++ seqFrom s r.length) := by
  induction r with
  | nil =>
    intro p s i hi hb h0 hs
    apply ev_up
    simp only [laws_markIntS.l0]
    refine ev_n (by simp; omega) ?_
    simpa [seqFrom] using Ev.now (s, p)
  | cons x r ih =>
    intro p s i hi hb h0 hs
    simp only [List.length_cons, Int.natCast_add] at hb hs
    apply ev_up
    simp only [laws_markIntS.l0]
    refine ev_p (by simp; omega) (ev_p (by omega) ?_)
    rw [setA hi, w64 (by omega) (by omega), w64 (by omega) (by omega)]
    refine ev_eq (ih (p ++ [s]) (s + 1) (i + 1) (by simp; omega) (by simp; omega) (by omega) (by omega)) ?_
    simp [seqFrom]
    omega
theorem markIntS_ev (a : List Int) (s : Int) (h0 : 0 ≤ s) (h : a.length + s ≤ 9223372036854775807) : Ev (fun k => laws_markIntS.f k a s) (s + a.length, seqFrom s a.length) := by
  unfold laws_markIntS.f
  exact markIntS_l0 a [] s 0 rfl (by simp; omega) h0 (by omega)

/-! #### markCircuit -/
theorem markGateS_l0 (r : List S74) : ∀ (p : List S74) (s i : Int), i = p.length → p.length + r.length ≤ 1048576 → 0 ≤ s → s + 3 * r.length ≤ 8388608 →
    ∃ t, Ev (fun k => laws_markGateS.l0 k (p ++ r) s i) (s + 3 * r.length, t) := by
  induction r with
  | nil =>
    intro p s i hi hb h0 hs
    refine ⟨p, ?_⟩
    apply ev_up
    simp only [laws_markGateS.l0]
    refine ev_n (by simp; omega) ?_
    simpa using Ev.now (s, p)
  | cons x r ih =>
    intro p s i hi hb h0 hs
    simp only [List.length_cons, Int.natCast_add] at hb hs
    obtain ⟨t, ht⟩ := ih (p ++ [⟨s, s + 1, s + 1 + 1⟩]) (s + 1 + 1 + 1) (i + 1) (by simp; omega) (by simp; omega) (by omega) (by omega)
    refine ⟨t, ?_⟩
    apply ev_up
    simp only [laws_markGateS.l0]
    refine ev_p (by simp; omega) (ev_p (by omega) (Ev.bind (ev_c rfl) (Ev.bind (ev_c rfl) ?_)))
    simp only [rdGateA hi, setB hi]
    rw [appA, w64 (n := s + 1) (by omega) (by omega), w64 (n := s + 1 + 1) (by omega) (by omega), w64 (n := s + 1 + 1 + 1) (by omega) (by omega), w64 (n := i + 1) (by omega) (by omega)]
    refine ev_eq ht ?_
    simp only [List.length_cons, Prod.mk.injEq, and_true]
    omega
theorem markCircuit_ev (n : Int) (gs : List S74) (os : List Int) (hg : gs.length ≤ 1048576) (ho : os.length ≤ 1048576) : ∃ (m : Int) (t : List S74) (u : List Int), 0 ≤ m ∧ m ≤ 9000000 ∧ Ev (fun k => laws_markCircuit.f k n gs os 1) (m, t, u) := by
  unfold laws_markCircuit.f laws_markGateS.f
  obtain ⟨t, ht⟩ := markGateS_l0 gs [] 1 0 rfl (by simpa using hg) (by omega) (by omega)
  exact ⟨1 + 3 * gs.length + os.length, t, _, by omega, by omega, Ev.bind ht (Ev.bind (markIntS_ev os (1 + 3 * gs.length) (by omega) (by omega)) (Ev.now _))⟩

/-! #### heldIntS -/
theorem heldIntS_l0 (n : Nat) : ∀ (p : List Int) (s i : Int), i = p.length → p.length + n ≤ 9223372036854775807 → 0 ≤ s → s + n ≤ 9223372036854775807 →
    Ev (fun k => laws_heldIntS.l0 k (p ++ seqFrom s n) s i) (s + n) := by
  induction n with
  | zero =>
    intro p s i hi hb h0 hs
    apply ev_up
    simp only [laws_heldIntS.l0]
    refine ev_n (by simp [seqFrom]; omega) ?_
    simpa [seqFrom] using Ev.now s
  | succ n ih =>
    intro p s i hi hb h0 hs
    apply ev_up
    simp only [laws_heldIntS.l0]
    have hl := seqFrom_length s (n + 1)
    refine ev_p (by simp [hl]; omega) (ev_p (by omega) ?_)
    refine ev_p (by simp only [seqFrom]; exact rdA hi) ?_
    simp only [seqFrom]
    rw [appA, w64 (by omega) (by omega), w64 (by omega) (by omega)]
    refine ev_eq (ih (p ++ [s]) (s + 1) (i + 1) (by simp; omega) (by simp; omega) (by omega) (by omega)) ?_
    omega
theorem heldIntS_ev (n : Nat) (s : Int) (h0 : 0 ≤ s) (h : n + s ≤ 9223372036854775807) : Ev (fun k => laws_heldIntS.f k (seqFrom s n) s) (s + n) := by
  unfold laws_heldIntS.f
  exact heldIntS_l0 n [] s 0 rfl (by simp; omega) h0 (by omega)

/-! #### heldCircuit -/
def gateSeq : Int → Nat → List S74
  | _, 0 => []
  | s, d + 1 => ⟨s, s + 1, s + 1 + 1⟩ :: gateSeq (s + 1 + 1 + 1) d
theorem gateSeq_length (d : Nat) : ∀ s, (gateSeq s d).length = d := by
  induction d with
  | zero => intro s; rfl
  | succ d ih => intro s; rw [gateSeq, List.length_cons, ih]
theorem markGateS2_l0 (r : List S74) : ∀ (p : List S74) (s i : Int), i = p.length → p.length + r.length ≤ 1048576 → 0 ≤ s → s + 3 * r.length ≤ 8388608 →
    Ev (fun k => laws_markGateS.l0 k (p ++ r) s i) (s + 3 * r.length, p ++ gateSeq s r.length) := by
  induction r with
  | nil =>
    intro p s i hi hb h0 hs
    apply ev_up
    simp only [laws_markGateS.l0]
    refine ev_n (by simp; omega) ?_
    simpa [gateSeq] using Ev.now (s, p)
  | cons x r ih =>
    intro p s i hi hb h0 hs
    simp only [List.length_cons, Int.natCast_add] at hb hs
    have ht := ih (p ++ [⟨s, s + 1, s + 1 + 1⟩]) (s + 1 + 1 + 1) (i + 1) (by simp; omega) (by simp; omega) (by omega) (by omega)
    apply ev_up
    simp only [laws_markGateS.l0]
    refine ev_p (by simp; omega) (ev_p (by omega) (Ev.bind (ev_c rfl) (Ev.bind (ev_c rfl) ?_)))
    simp only [rdGateA hi, setB hi]
    rw [appA, w64 (n := s + 1) (by omega) (by omega), w64 (n := s + 1 + 1) (by omega) (by omega), w64 (n := s + 1 + 1 + 1) (by omega) (by omega), w64 (n := i + 1) (by omega) (by omega)]
    refine ev_eq ht ?_
    simp only [List.length_cons, Prod.mk.injEq, List.append_assoc]
    exact ⟨by omega, by rw [gateSeq]; rfl⟩
theorem heldGateS_l0 (d : Nat) : ∀ (p : List S74) (s i : Int), i = p.length → p.length + d ≤ 1048576 → 0 ≤ s → s + 3 * d ≤ 8388608 →
    Ev (fun k => laws_heldGateS.l0 k (p ++ gateSeq s d) s i) (s + 3 * d) := by
  induction d with
  | zero =>
    intro p s i hi hb h0 hs
    apply ev_up
    simp only [laws_heldGateS.l0]
    refine ev_n (by simp [gateSeq]; omega) (ev_eq (Ev.now _) (by simp))
  | succ d ih =>
    intro p s i hi hb h0 hs
    have ht := ih (p ++ [⟨s, s + 1, s + 1 + 1⟩]) (s + 1 + 1 + 1) (i + 1) (by simp; omega) (by simp; omega) (by omega) (by omega)
    apply ev_up
    simp only [laws_heldGateS.l0]
    refine ev_p (by simp [gateSeq_length]; omega) (ev_p (by omega) ?_)
    rw [gateSeq, rdGateA hi, w64 (n := s + 1) (by omega) (by omega), w64 (n := s + 1 + 1) (by omega) (by omega), w64 (n := s + 1 + 1 + 1) (by omega) (by omega), w64 (n := i + 1) (by omega) (by omega)]
    refine ev_p rfl (ev_p rfl (ev_p rfl ?_))
    rw [appA]
    refine ev_eq ht ?_
    omega
theorem markCircuit2_ev (n : Int) (gs : List S74) (os : List Int) (hg : gs.length ≤ 1048576) (ho : os.length ≤ 1048576) : Ev (fun k => laws_markCircuit.f k n gs os 1) (1 + 3 * gs.length + os.length, gateSeq 1 gs.length, seqFrom (1 + 3 * gs.length) os.length) := by
  unfold laws_markCircuit.f laws_markGateS.f
  exact Ev.bind (markGateS2_l0 gs [] 1 0 rfl (by simpa using hg) (by omega) (by omega)) (Ev.bind (markIntS_ev os (1 + 3 * gs.length) (by omega) (by omega)) (Ev.now _))
theorem heldCircuit_ev (n : Int) (g o : Nat) (hg : g ≤ 1048576) (ho : o ≤ 1048576) : Ev (fun k => laws_heldCircuit.f k n (gateSeq 1 g) (seqFrom (1 + 3 * g) o) 1) (1 + 3 * g + o) := by
  unfold laws_heldCircuit.f laws_heldGateS.f
  exact Ev.bind (heldGateS_l0 g [] 1 0 rfl (by simpa using hg) (by omega) (by omega)) (ev_n (by omega) (Ev.bind (heldIntS_ev o (1 + 3 * g) (by omega) (by omega)) (ev_n (by omega) (Ev.now _))))

/-! #### markTable1 -/
theorem markTable_ev (n : Int) (l : List Int) (h : l.length ≤ 1048576) : Ev (fun k => laws_markTable.f k n l 1) (1 + l.length, seqFrom 1 l.length) := by
  unfold laws_markTable.f
  exact Ev.bind (markIntS_ev l 1 (by omega) (by omega)) (Ev.now _)

/-! #### FnExactTermCircuit -/
theorem FnExactTermCircuit (a0_0 : Int) (l0_1 : (List Int)) : I64 a0_0 → (l0_1.length ≤ 9223372036854775807 ∧ ∀ y2 ∈ l0_1, I64 y2) → ∃ k, laws_FnExactTermCircuit.f k a0_0 l0_1 = some true := by
  rintro hn ⟨hl, _⟩
  apply ev_get
  unfold laws_FnExactTermCircuit.f
  rw [szTable_eq a0_0 l0_1 hl]
  refine Ev.bind (ev_c rfl) (ev_ite (fun _ => Ev.now _) (fun h => ?_))
  have hl2 := len_pre h
  have hto := toTable_ev a0_0 l0_1 hl2
  have heq := eqTable_same a0_0 l0_1 hl2
  have hs := spec_TermCircuit_ev a0_0 l0_1 hl2
  have hi := impl_TermCircuit_ev a0_0 l0_1 hl2
  obtain ⟨hl1_, hl2_⟩ := termCM_length a0_0 l0_1
  generalize termCM a0_0 l0_1 = R at hs hi hl1_ hl2_
  have heqR := eqCircuit_self R.1 R.2.1 R.2.2.1 (by omega) (by omega)
  have hmark := markCircuit2_ev R.1 R.2.1 R.2.2.1 (by omega) (by omega)
  have hheld := heldCircuit_ev R.1 R.2.1.length R.2.2.1.length (by omega) (by omega)
  have hmt := markTable_ev a0_0 l0_1 hl2
  repeat (first
    | (with_reducible exact Ev.now _)
    | (with_reducible refine Ev.bind hto ?_)
    | (with_reducible refine Ev.bind hs ?_)
    | (with_reducible refine Ev.bind hi ?_)
    | (with_reducible refine Ev.bind heq ?_)
    | (with_reducible refine Ev.bind heqR ?_)
    | (with_reducible refine Ev.bind hmark ?_)
    | (with_reducible refine Ev.bind hheld ?_)
    | (with_reducible refine Ev.bind hmt ?_)
    | (with_reducible refine ev_p rfl ?_)
    | (with_reducible refine ev_p True.intro ?_)
    | (refine ev_n ?h ?_; case h => (first | omega | (simp; done) | (simp; omega)))
    | (with_reducible refine ev_up (g := fun n => laws_FnExactTermCircuit.j0 n _ _ _ _ _ _ _ _ _ _ _ _ _) ?_; simp only [laws_FnExactTermCircuit.j0, bne_self_eq_false])
    | (with_reducible refine ev_up (g := fun n => laws_FnExactTermCircuit.j1 n _ _ _ _ _ _ _ _ _ _) ?_; simp only [laws_FnExactTermCircuit.j1, bne_self_eq_false])
    | (with_reducible refine ev_up (g := fun n => laws_FnExactTermCircuit.j2 n _ _ _ _ _) ?_; simp only [laws_FnExactTermCircuit.j2, bne_self_eq_false]))

end Go.Proofs.Yteefbjkhheghkaa.Pure
