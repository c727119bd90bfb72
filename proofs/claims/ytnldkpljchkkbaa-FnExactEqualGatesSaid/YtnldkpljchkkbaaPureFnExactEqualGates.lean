/- The pure part of the law FnExactEqualGates: what the program and the reference compute is the same, for all arguments. Conditions: the numbers are of Go's int, the lengths of slices are. -/
import Derived.Test.YtnldkpljchkkbaaWalkFnExactEqualGates
import Derived.Test.YtnldkpljchkkbaaVEGKit
set_option linter.unusedVariables false
set_option linter.unusedSimpArgs false
namespace Go.Proofs.Ytnldkpljchkkbaa.Pure
open Go.RowKit Go.Proofs.Ytnldkpljchkkbaa.QFnExactEqualGates Go.Proofs.YtnldkpljchkkbaaW.PrintWords Go.Proofs.YtnldkpljchkkbaaW.PrintLast Go.Proofs.Ytnldkpljchkkbaa.Open Go.Proofs.Ytnldkpljchkkbaa.Kit

/-! #### szIntS -/
theorem szIntS_eq (l : List Int) (a : Int) (ha : 0 ≤ a) (ha2 : a ≤ 1048576) (hl : l.length ≤ 9223372036854775807) : laws_szIntS.f l a = some (if l.length ≤ a then a - l.length else -1) := by
  unfold laws_szIntS.f
  rw [w64 (by omega) (by omega)]
  by_cases h : (l.length : Int) ≤ a
  · rw [if_neg (by omega), if_pos h]
  · rw [if_pos (by omega), if_neg h]

/-! #### szCircuit -/
theorem szGateS_eq (l : List S151) (a : Int) (ha : 0 ≤ a) (ha2 : a ≤ 1048576) (hl : l.length ≤ 9223372036854775807) : laws_szGateS.f l a = some (if l.length ≤ a then a - l.length else -1) := by
  unfold laws_szGateS.f
  rw [w64 (by omega) (by omega)]
  by_cases h : (l.length : Int) ≤ a
  · rw [if_neg (by omega), if_pos h]
  · rw [if_pos (by omega), if_neg h]
theorem szCircuit_eq (n : Int) (gs : List S151) (os : List Int) (hg : gs.length ≤ 9223372036854775807) (ho : os.length ≤ 9223372036854775807) :
    ∃ t, laws_szCircuit.f n gs os 1048576 = some t ∧ (¬ t < 0 → gs.length ≤ 1048576 ∧ os.length ≤ 1048576) := by
  unfold laws_szCircuit.f
  rw [szGateS_eq gs 1048576 (by omega) (by omega) hg, Option.bind_some]
  by_cases h : (gs.length : Int) ≤ 1048576
  · rw [if_pos h, if_neg (by omega), szIntS_eq os _ (by omega) (by omega) ho, Option.bind_some]
    by_cases h2 : (os.length : Int) ≤ 1048576 - gs.length
    · rw [if_pos h2, if_neg (by omega)]
      exact ⟨_, rfl, fun _ => by omega⟩
    · rw [if_neg h2, if_pos (by decide)]
      exact ⟨_, rfl, fun h => absurd (by decide) h⟩
  · rw [if_neg h, if_pos (by decide)]
    exact ⟨_, rfl, fun h => absurd (by decide) h⟩

/-! #### gateT -/
theorem rdLGateA {p r : List S151} {x : S151} {i : Int} (hi : i = p.length) : rd_T151 (p ++ x :: r) i = x := getDA hi
theorem rdGateA {p r : List S111} {x : S111} {i : Int} (hi : i = p.length) : rd_T111 (p ++ x :: r) i = x := getDA hi
/-- A gate of the laws as one of the program. -/
def cvGate (x : S151) : S111 := ⟨x.f0, x.f1, x.f2⟩

/-! #### toGateS -/
theorem toGateS_l0 (r : List S151) : ∀ (p : List S151) (z : List S111) (i : Int), i = p.length → z.length = r.length → p.length + r.length ≤ 9223372036854775806 →
    Ev (fun k => laws_toGateS.l0 k (p ++ r) (p.map cvGate ++ z) i) ((p ++ r).map cvGate) := by
  induction r with
  | nil =>
    intro p z i hi hz hb
    obtain rfl : z = [] := List.length_eq_zero_iff.1 hz
    apply ev_up
    simp only [laws_toGateS.l0]
    refine ev_n (by simp; omega) ?_
    simpa using Ev.now (p.map cvGate)
  | cons x r ih =>
    intro p z i hi hz hb
    match z, hz with
    | y :: z, hz =>
      simp only [List.length_cons] at hz hb
      apply ev_up
      simp only [laws_toGateS.l0]
      refine ev_p (by simp; omega) (ev_p (by omega) ?_)
      rw [rdLGateA hi]
      refine Ev.bind (ev_c (show laws_toGate.f x.f0 x.f1 x.f2 = some (x.f0, x.f1, x.f2) from rfl)) (ev_p (by simp; omega) ?_)
      rw [setA (by simpa using hi), w64 (by omega) (by omega), appA]
      have := ih (p ++ [x]) z (i + 1) (by simp; omega) (by omega) (by simp; omega)
      simpa [cvGate] using this
theorem toGateS_ev (a : List S151) (h : a.length ≤ 1048576) : Ev (fun k => laws_toGateS.f k a) (a.map cvGate) := by
  unfold laws_toGateS.f
  refine ev_p (by omega) (ev_p (by omega) ?_)
  exact toGateS_l0 a [] (List.replicate ((a.length : Int)).toNat z111) 0 rfl (by simp) (by simp; omega)

/-! #### toIntS -/
theorem toIntS_l0 (r : List Int) : ∀ (p z : List Int) (i : Int), i = p.length → z.length = r.length → p.length + r.length ≤ 9223372036854775806 →
    Ev (fun k => laws_toIntS.l0 k (p ++ r) (p ++ z) i) (p ++ r) := by
  induction r with
  | nil =>
    intro p z i hi hz hb
    obtain rfl : z = [] := List.length_eq_zero_iff.1 hz
    apply ev_up
    simp only [laws_toIntS.l0]
    refine ev_n (by simp; omega) ?_
    exact Ev.now _
  | cons x r ih =>
    intro p z i hi hz hb
    match z, hz with
    | y :: z, hz =>
      simp only [List.length_cons] at hz hb
      apply ev_up
      simp only [laws_toIntS.l0]
      refine ev_p (by simp; omega) (ev_p (by omega) (ev_p (by simp; omega) ?_))
      rw [rdA hi, setA hi, w64 (by omega) (by omega), appA]
      exact ih (p ++ [x]) z (i + 1) (by simp; omega) (by omega) (by simp; omega)
theorem toIntS_ev (a : List Int) (h : a.length ≤ 35184372088832) : Ev (fun k => laws_toIntS.f k a) a := by
  unfold laws_toIntS.f
  refine ev_p (by omega) (ev_p (by omega) ?_)
  exact toIntS_l0 a [] (List.replicate ((a.length : Int)).toNat 0) 0 rfl (by simp) (by simp; omega)
/-! #### toCircuit -/
theorem toCircuit_ev (n : Int) (gs : List S151) (os : List Int) (hg : gs.length ≤ 1048576) (ho : os.length ≤ 1048576) : Ev (fun k => laws_toCircuit.f k n gs os) (n, gs.map cvGate, os) := by
  unfold laws_toCircuit.f
  exact Ev.bind (toGateS_ev gs hg) (Ev.bind (toIntS_ev os (by omega)) (Ev.now _))

/-! #### eqGateS -/
theorem eqGateS_l0 (r : List S111) : ∀ (p : List S111) (i : Int), i = p.length → p.length + r.length ≤ 9223372036854775807 →
    Ev (fun k => laws_eqGateS.l0 k (p ++ r) (p ++ r) i) true := by
  induction r with
  | nil =>
    intro p i hi hb
    apply ev_up
    simp only [laws_eqGateS.l0]
    exact ev_n (by simp; omega) (Ev.now true)
  | cons x r ih =>
    intro p i hi hb
    simp only [List.length_cons] at hb
    apply ev_up
    simp only [laws_eqGateS.l0]
    refine ev_p (by simp; omega) (ev_p (by omega) (ev_p (by simp; omega) ?_))
    rw [rdGateA hi]
    refine Ev.bind (ev_c (show laws_eqGate.f x.f0 x.f1 x.f2 x.f0 x.f1 x.f2 = some true by unfold laws_eqGate.f; rw [if_pos rfl, if_pos rfl, if_pos rfl])) (ev_p rfl ?_)
    rw [w64 (by omega) (by omega), appA]
    exact ih (p ++ [x]) (i + 1) (by simp; omega) (by simp; omega)
theorem eqGateS_self (a : List S111) (h : a.length ≤ 9223372036854775807) : Ev (fun k => laws_eqGateS.f k a a) true := by
  unfold laws_eqGateS.f
  exact ev_p rfl (eqGateS_l0 a [] 0 rfl (by simpa using h))

/-! #### eqIntS -/
theorem eqIntS_l0 (r : List Int) : ∀ (s p q : List Int) (i : Int), i = p.length → p.length = q.length → r.length = s.length → p.length + r.length ≤ 9223372036854775807 →
    Ev (fun k => laws_eqIntS.l0 k (p ++ r) (q ++ s) i) (decide (r = s)) := by
  induction r with
  | nil =>
    intro s p q i hi hpq hrs hb
    obtain rfl : s = [] := List.length_eq_zero_iff.1 hrs.symm
    apply ev_up
    simp only [laws_eqIntS.l0]
    refine ev_n (by simp; omega) ?_
    simpa using Ev.now true
  | cons x r ih =>
    intro s p q i hi hpq hrs hb
    match s, hrs with
    | y :: s, hrs =>
      simp only [List.length_cons] at hrs hb
      apply ev_up
      simp only [laws_eqIntS.l0]
      refine ev_p (by simp; omega) (ev_p (by omega) (ev_p (by simp; omega) ?_))
      rw [rdA hi, rdA (by omega)]
      refine ev_ite (fun hxy => ?_) (fun hxy => ?_)
      · subst hxy
        rw [w64 (by omega) (by omega), appA, appA (p := q)]
        refine ev_eq (ih s (p ++ [x]) (q ++ [x]) (i + 1) (by simp; omega) (by simp; omega) (by omega) (by simp; omega)) ?_
        simp
      · refine ev_eq (Ev.now false) ?_
        simp [hxy]
theorem eqIntS_ev (a b : List Int) (h : a.length ≤ 9223372036854775807) : Ev (fun k => laws_eqIntS.f k a b) (decide (a = b)) := by
  unfold laws_eqIntS.f
  refine ev_ite (fun hl => ?_) (fun hl => ?_)
  · exact eqIntS_l0 a b [] [] 0 rfl rfl (by omega) (by simpa using h)
  · refine ev_eq (Ev.now false) ?_
    symm
    apply decide_eq_false
    rintro rfl
    exact hl rfl

/-! #### eqCircuit -/
theorem eqCircuit_self (n : Int) (gs : List S111) (os : List Int) (hg : gs.length ≤ 9223372036854775807) (ho : os.length ≤ 9223372036854775807) : Ev (fun k => laws_eqCircuit.f k n gs os n gs os) true := by
  unfold laws_eqCircuit.f
  have heq : Ev (fun k => laws_eqIntS.f k os os) true := by simpa using eqIntS_ev os os ho
  exact ev_p rfl (Ev.bind (eqGateS_self gs hg) (ev_p rfl (Ev.bind heq (ev_p rfl (Ev.now _)))))

/-! #### pairG -/
/-- The pairs i, j with f i j: j from a place on, d of them. -/
def pairG (f : Nat → Nat → Bool) (i : Nat) : Nat → Nat → List (List Int)
  | _, 0 => []
  | j, d + 1 => (if f i j = true then [[(i : Int), (j : Int)]] else []) ++ pairG f i (j + 1) d
theorem pairG_length (f : Nat → Nat → Bool) (i d : Nat) : ∀ j, (pairG f i j d).length ≤ d := by
  induction d with
  | zero => intro j; simp [pairG]
  | succ d ih =>
    intro j
    have := ih (j + 1)
    rw [pairG]
    split <;> simp <;> omega
theorem pairG_rows (f : Nat → Nat → Bool) (i d : Nat) : ∀ j, ∀ y ∈ pairG f i j d, y.length = 2 := by
  induction d with
  | zero => intro j y hy; simp [pairG] at hy
  | succ d ih =>
    intro j y hy
    rw [pairG, List.mem_append] at hy
    rcases hy with hy | hy
    · split at hy
      · rw [List.mem_singleton] at hy
        rw [hy]
        rfl
      · simp at hy
    · exact ih (j + 1) y hy
def pairsG (f : Nat → Nat → Bool) : Nat → Nat → List (List Int)
  | _, 0 => []
  | i, d + 1 => pairG f i (i + 1) d ++ pairsG f (i + 1) d
theorem pairsG_length (f : Nat → Nat → Bool) (N d : Nat) (hd : d ≤ N) : ∀ i, (pairsG f i d).length ≤ N * d := by
  induction d with
  | zero => intro i; simp [pairsG]
  | succ d ih =>
    intro i
    have h1 := ih (by omega) (i + 1)
    have h2 := pairG_length f i d (i + 1)
    have h3 : N * (d + 1) = N * d + N := Nat.mul_succ N d
    rw [pairsG, List.length_append]
    omega
theorem pairsG_rows (f : Nat → Nat → Bool) (d : Nat) : ∀ i, ∀ y ∈ pairsG f i d, y.length = 2 := by
  induction d with
  | zero => intro i y hy; simp [pairsG] at hy
  | succ d ih =>
    intro i y hy
    rw [pairsG, List.mem_append] at hy
    rcases hy with hy | hy
    · exact pairG_rows f i d (i + 1) y hy
    · exact ih (i + 1) y hy

/-! #### spec_l1Same -/
theorem spec_l1Same_l0 (a b : List Int) (hl : a.length = b.length) (hm : a.length ≤ 1048576) (r : List Int) : ∀ (s p q : List Int) (i : Int), i = p.length → p.length = q.length → a = p ++ r → b = q ++ s →
    Ev (fun k => spec_l1Same.l0 k a b a.length i) (decide (r = s)) := by
  induction r with
  | nil =>
    intro s p q i hi hpq ea eb
    have h1 : a.length = p.length := by rw [ea]; simp
    have h2 : b.length = q.length + s.length := by rw [eb]; simp
    obtain rfl : s = [] := List.length_eq_zero_iff.1 (by omega)
    apply ev_up
    simp only [spec_l1Same.l0]
    refine ev_n (by omega) ?_
    simpa using Ev.now true
  | cons x r ih =>
    intro s p q i hi hpq ea eb
    have h1 : a.length = p.length + r.length + 1 := by rw [ea]; simp; omega
    have h2 : b.length = q.length + s.length := by rw [eb]; simp
    match s, h2, eb with
    | [], h2, _ => simp at h2; omega
    | y :: s, h2, eb =>
      have hx : rd a i = x := by rw [ea]; exact rdA hi
      have hy : rd b i = y := by rw [eb]; exact rdA (by omega)
      have ih' := ih s (p ++ [x]) (q ++ [y]) (i + 1) (by simp; omega) (by simp; omega) (by rw [ea]; simp) (by rw [eb]; simp)
      simp only [List.length_cons] at h2
      apply ev_up
      simp only [spec_l1Same.l0]
      refine ev_p (by omega) (ev_p (by omega) (ev_p (by omega) (ev_p (by omega) ?_)))
      rw [hx, hy, w64 (by omega) (by omega)]
      refine ev_ite (fun hxy => ?_) (fun hxy => ?_)
      · refine ev_eq ih' ?_
        simp [hxy]
      · refine ev_eq (Ev.now false) ?_
        simp [hxy]
theorem spec_l1Same_ev (a b : List Int) (hm : a.length ≤ 1048576) : Ev (fun k => spec_l1Same.f k a b) (decide (a = b)) := by
  unfold spec_l1Same.f
  refine ev_ite (fun hl => ?_) (fun hl => ?_)
  · exact spec_l1Same_l0 a b (by omega) hm a b [] [] 0 rfl rfl rfl rfl
  · refine ev_eq (Ev.now false) ?_
    symm
    apply decide_eq_false
    rintro rfl
    exact hl rfl

/-! #### slices_Equal -/
theorem slices_Equal_l0 (a b : List Int) (hl : a.length = b.length) (hm : a.length ≤ 1048576) (r : List Int) : ∀ (s p q : List Int) (i : Int), i = p.length → p.length = q.length → a = p ++ r → b = q ++ s →
    Ev (fun k => slices_Equal_int_int.l0 k a b a.length i) (decide (r = s)) := by
  induction r with
  | nil =>
    intro s p q i hi hpq ea eb
    have h1 : a.length = p.length := by rw [ea]; simp
    have h2 : b.length = q.length + s.length := by rw [eb]; simp
    obtain rfl : s = [] := List.length_eq_zero_iff.1 (by omega)
    apply ev_up
    simp only [slices_Equal_int_int.l0]
    refine ev_n (by omega) ?_
    simpa using Ev.now true
  | cons x r ih =>
    intro s p q i hi hpq ea eb
    have h1 : a.length = p.length + r.length + 1 := by rw [ea]; simp; omega
    have h2 : b.length = q.length + s.length := by rw [eb]; simp
    match s, h2, eb with
    | [], h2, _ => simp at h2; omega
    | y :: s, h2, eb =>
      have hx : rd a i = x := by rw [ea]; exact rdA hi
      have hy : rd b i = y := by rw [eb]; exact rdA (by omega)
      have ih' := ih s (p ++ [x]) (q ++ [y]) (i + 1) (by simp; omega) (by simp; omega) (by rw [ea]; simp) (by rw [eb]; simp)
      simp only [List.length_cons] at h2
      apply ev_up
      simp only [slices_Equal_int_int.l0]
      refine ev_p (by omega) (ev_p (by omega) (ev_p (by omega) (ev_p (by omega) ?_)))
      rw [hx, hy, w64 (by omega) (by omega)]
      refine ev_ite (fun hxy => ?_) (fun hxy => ?_)
      · refine ev_eq ih' ?_
        simp [hxy]
      · refine ev_eq (Ev.now false) ?_
        simp [hxy]
theorem slices_Equal_ev (a b : List Int) (hm : a.length ≤ 1048576) : Ev (fun k => slices_Equal_int_int.f k a b) (decide (a = b)) := by
  unfold slices_Equal_int_int.f
  refine ev_ite (fun hl => ?_) (fun hl => ?_)
  · exact slices_Equal_l0 a b (by omega) hm a b [] [] 0 rfl rfl rfl rfl
  · refine ev_eq (Ev.now false) ?_
    symm
    apply decide_eq_false
    rintro rfl
    exact hl rfl

/-! #### l1In -/
theorem l1In_eq (a b c : Int) : spec_l1In.f a b c = some (decide (b ≤ a ∧ a ≤ c)) := by
  unfold spec_l1In.f
  by_cases h : b ≤ a
  · rw [if_pos h]; simp [h]
  · rw [if_neg h]; simp [h]

/-! #### l1All -/
def inB (a b : Int) (x : Int) : Bool := decide (a ≤ x ∧ x ≤ b)
theorem l1All_l0 (l : List Int) (a b : Int) (hl : l.length ≤ 9223372036854775807) (r : List Int) : ∀ (p : List Int) (i : Int), i = p.length → l = p ++ r →
    Ev (fun k => spec_l1All.l0 k a b l l.length i) (r.all (inB a b)) := by
  induction r with
  | nil =>
    intro p i hi e
    have hlen : l.length = p.length := by rw [e]; simp
    apply ev_up
    simp only [spec_l1All.l0]
    exact ev_n (by omega) (Ev.now _)
  | cons x r ih =>
    intro p i hi e
    have hlen : l.length = p.length + r.length + 1 := by rw [e]; simp; omega
    have hx : rd l i = x := by rw [e]; exact rdA hi
    have ih' := ih (p ++ [x]) (i + 1) (by simp; omega) (by rw [e]; simp)
    apply ev_up
    simp only [spec_l1All.l0]
    refine ev_p (by omega) (ev_p (by omega) (ev_p (by omega) ?_))
    rw [hx, l1In_eq]
    refine Ev.bind (ev_c rfl) ?_
    refine ev_ite (fun h => ?_) (fun h => ?_)
    · rw [w64 (by omega) (by omega)]
      refine ev_eq ih' ?_
      rw [List.all_cons, show inB a b x = true from h, Bool.true_and]
    · refine ev_eq (Ev.now _) ?_
      rw [List.all_cons, show inB a b x = false from decide_eq_false (fun hh => h (decide_eq_true hh)), Bool.false_and]
theorem l1All_ev (l : List Int) (a b : Int) (hl : l.length ≤ 9223372036854775807) : Ev (fun k => spec_l1All.f k l a b) (l.all (inB a b)) := by
  unfold spec_l1All.f
  exact l1All_l0 l a b hl l [] 0 rfl rfl

/-! #### ttInputs -/
theorem ttInputs_eq (a : Int) : spec_ttInputs.f a = some (decide (0 ≤ a ∧ a ≤ 4)) := by
  unfold spec_ttInputs.f
  rw [l1In_eq, Option.bind_some]

/-! #### circuitM -/
/-- A gate is good where there are w wires before it. -/
def gateOk (w : Int) (g : S111) : Bool := decide (1 ≤ g.f0 ∧ g.f0 ≤ 4 ∧ 0 ≤ g.f1 ∧ g.f1 < w ∧ 0 ≤ g.f2 ∧ g.f2 < w ∧ (g.f0 = 4 → g.f1 = g.f2))
def gatesOk (w : Int) : List S111 → Bool
  | [] => true
  | g :: r => gateOk w g && gatesOk (w + 1) r
def circuitM (n : Int) (gs : List S111) (os : List Int) : Bool := decide (0 ≤ n ∧ n ≤ 4 ∧ gs.length ≤ 16 ∧ 1 ≤ os.length ∧ os.length ≤ 4) && (gatesOk n gs && os.all (inB 0 (n + gs.length - 1)))

/-! #### gatesOkI -/
theorem circuitM_of {n : Int} {gs : List S111} {os : List Int} (h : circuitM n gs os = true) :
    ∃ a : Nat, n = a ∧ a ≤ 4 ∧ gs.length ≤ 16 ∧ 1 ≤ os.length ∧ os.length ≤ 4 ∧ gatesOk n gs = true ∧ ∀ o ∈ os, 0 ≤ o ∧ o < n + gs.length := by
  unfold circuitM at h
  rw [Bool.and_eq_true, Bool.and_eq_true, List.all_eq_true] at h
  obtain ⟨h1, h2, h3⟩ := h
  obtain ⟨h4, h5, h6, h7, h8⟩ := of_decide_eq_true h1
  obtain ⟨a, rfl⟩ := nat_of h4
  refine ⟨a, rfl, by omega, h6, h7, h8, h2, fun o ho => ?_⟩
  have := of_decide_eq_true (h3 o ho)
  omega

/-! #### rdMem -/
theorem rd_mem {ds : List Int} {i : Int} (h0 : 0 ≤ i) (h1 : i < ds.length) : rd ds i ∈ ds := by
  obtain ⟨n, rfl⟩ := nat_of h0
  have hn : n < ds.length := by omega
  rw [rdN hn]
  exact List.getElem_mem hn


/-! #### wiresM -/
def gateV (k a b : Int) : Int := if k = 1 then a * b else if k = 2 then (if a < b then b else a) else if k = 3 then (a + b) % 2 else 1 - a
def wiresM : List Int → List S111 → List Int
  | xs, [] => xs
  | xs, g :: r => wiresM (xs ++ [gateV g.f0 (rd xs g.f1) (rd xs g.f2)]) r
theorem wiresM_length (r : List S111) : ∀ xs, (wiresM xs r).length = xs.length + r.length := by
  induction r with
  | nil => intro xs; rfl
  | cons g r ih =>
    intro xs
    rw [wiresM, ih]
    simp
    omega
theorem gateV_bit (k a b : Int) (ha : a = 0 ∨ a = 1) (hb : b = 0 ∨ b = 1) : gateV k a b = 0 ∨ gateV k a b = 1 := by
  unfold gateV
  rcases ha with rfl | rfl <;> rcases hb with rfl | rfl <;> (repeat' split) <;> simp
theorem wiresM_bits (r : List S111) : ∀ (xs : List Int) (w : Int), (xs.length : Int) = w → gatesOk w r = true → (∀ b ∈ xs, b = 0 ∨ b = 1) → ∀ b ∈ wiresM xs r, b = 0 ∨ b = 1 := by
  induction r with
  | nil => intro xs w _ _ h; exact h
  | cons g r ih =>
    intro xs w hw hk hb
    rw [gatesOk, Bool.and_eq_true] at hk
    have hk1 := of_decide_eq_true hk.1
    rw [wiresM]
    refine ih _ (w + 1) (by simp; omega) hk.2 (fun b h => ?_)
    rw [List.mem_append] at h
    rcases h with h | h
    · exact hb b h
    · simp only [List.mem_singleton] at h
      rw [h]
      exact gateV_bit _ _ _ (hb _ (rd_mem (by omega) (by omega))) (hb _ (rd_mem (by omega) (by omega)))

/-! #### bitN -/
theorem bit_and1 (a n : Nat) (ha : a < 2 ^ 62) (hn : n ≤ 62) : Go.bits .and .i64 (shr .i64 (a : Int) (n : Int)) 1 = (((a >>> n) % 2 : Nat) : Int) := by
  rw [shrN a n hn]
  have h : a >>> n ≤ a := Nat.shiftRight_le a n
  have := andN (a >>> n) 1 (by omega) (by omega)
  rw [Nat.and_one_is_mod] at this
  exact this

/-! #### bitsL -/
/-- The inputs of an index. -/
def bitsL (x n : Nat) : List Int := rmap n (fun i => (((x >>> i) % 2 : Nat) : Int))
theorem bitsL_length (x n : Nat) : (bitsL x n).length = n := rmap_length _ _
theorem bitsL_bits (x n : Nat) : ∀ b ∈ bitsL x n, b = 0 ∨ b = 1 := by
  intro b hb
  unfold bitsL rmap at hb
  obtain ⟨i, _, rfl⟩ := List.mem_map.1 hb
  omega
/-- The index of inputs. -/
def idxOf : List Int → Nat
  | [] => 0
  | b :: r => b.toNat + 2 * idxOf r
theorem idxOf_lt (l : List Int) (h : ∀ b ∈ l, 0 ≤ b ∧ b ≤ 1) : idxOf l < 2 ^ l.length := by
  induction l with
  | nil => simp [idxOf]
  | cons b r ih =>
    have h1 := ih (fun x hx => h x (by simp [hx]))
    have h2 := h b (by simp)
    rw [idxOf, List.length_cons, Nat.pow_succ]
    omega
theorem bitsL_idxOf (l : List Int) (h : ∀ b ∈ l, 0 ≤ b ∧ b ≤ 1) : bitsL (idxOf l) l.length = l := by
  induction l with
  | nil => rfl
  | cons b r ih =>
    have h1 := ih (fun x hx => h x (by simp [hx]))
    have h2 := h b (by simp)
    have e : bitsL (idxOf (b :: r)) (b :: r).length = ((((idxOf (b :: r)) >>> 0) % 2 : Nat) : Int) :: bitsL (idxOf r) r.length := by
      unfold bitsL rmap
      rw [List.length_cons, List.range_succ_eq_map, List.map_cons, List.map_map]
      congr 1
      apply List.map_congr_left
      intro i _
      simp only [Function.comp, Nat.succ_eq_add_one]
      have : idxOf (b :: r) >>> (i + 1) = idxOf r >>> i := by
        rw [Nat.add_comm i 1, Nat.shiftRight_add]
        congr 1
        rw [Nat.shiftRight_eq_div_pow, idxOf]
        omega
      rw [this]
    rw [e, h1]
    congr 1
    rw [idxOf, Nat.shiftRight_zero]
    omega

/-! #### ctabM -/
/-- The value of wire w for the inputs of index x. -/
def wval (n : Nat) (gs : List S111) (x : Nat) (w : Int) : Int := rd (wiresM (bitsL x n) gs) w
def ctabV (n : Nat) (gs : List S111) (w : Int) : List Int := rmap (2 ^ n) (fun x => wval n gs x w)
theorem ctabV_length (n : Nat) (gs : List S111) (w : Int) : (ctabV n gs w).length = 2 ^ n := rmap_length _ _
theorem wval_bit {n : Nat} {gs : List S111} (hk : gatesOk n gs = true) {w : Int} (h0 : 0 ≤ w) (h1 : w < n + gs.length) (x : Nat) : wval n gs x w = 0 ∨ wval n gs x w = 1 :=
  wiresM_bits gs (bitsL x n) n (by rw [bitsL_length]) hk (bitsL_bits x n) _ (rd_mem h0 (by rw [wiresM_length, bitsL_length]; omega))

/-! #### spec_ttBit -/
theorem spec_ttBit_eq (a n : Nat) (ha : a < 2 ^ 62) (hn : n ≤ 62) : spec_ttBit.f (a : Int) (n : Int) = some (((a >>> n) % 2 : Nat) : Int) := by
  unfold spec_ttBit.f
  rw [u64w (by omega) (by omega), if_pos (by omega), bit_and1 a n ha hn]

/-! #### spec_ciWires -/
theorem l1MostW_eq (a b : Int) : spec_l1Most.f a b = some (if a < b then b else a) := by
  unfold spec_l1Most.f
  by_cases h : a > b
  · rw [if_pos h, if_neg (by omega)]
  · rw [if_neg h]
    by_cases h2 : a < b
    · rw [if_pos h2]
    · rw [if_neg h2]
      congr 1
      omega
theorem spec_ciWires_l1 (gs : List S111) (hg : gs.length ≤ 16) (r : List S111) : ∀ (p : List S111) (xs : List Int) (w i : Int), i = p.length → gs = p ++ r → (xs.length : Int) = w → w + r.length ≤ 1000 → gatesOk w r = true → (∀ b ∈ xs, b = 0 ∨ b = 1) →
    Ev (fun k => spec_ciWires.l1 k xs gs gs.length i) (wiresM xs r) := by
  induction r with
  | nil =>
    intro p xs w i hi e hw hwl hk hb
    have hlen : gs.length = p.length := by rw [e]; simp
    apply ev_up
    simp only [spec_ciWires.l1]
    exact ev_n (by omega) (Ev.now _)
  | cons g r ih =>
    intro p xs w i hi e hw hwl hk hb
    have hlen : gs.length = p.length + r.length + 1 := by rw [e]; simp; omega
    simp only [List.length_cons, Int.natCast_add] at hwl
    have hx : rd_T111 gs i = g := by rw [e]; exact rdGateA hi
    rw [gatesOk, Bool.and_eq_true] at hk
    have hk1 := of_decide_eq_true hk.1
    have b1 := hb _ (rd_mem (i := g.f1) (by omega) (by omega))
    have b2 := hb _ (rd_mem (i := g.f2) (by omega) (by omega))
    have b3 := gateV_bit g.f0 _ _ b1 b2
    have next : Ev (fun k => spec_ciWires.l1 k (xs ++ [gateV g.f0 (rd xs g.f1) (rd xs g.f2)]) gs gs.length (i + 1)) (wiresM xs (g :: r)) := by
      rw [wiresM]
      refine ih (p ++ [g]) _ (w + 1) (i + 1) (by simp; omega) (by rw [e]; simp) (by simp; omega) (by omega) hk.2 (fun b h => ?_)
      rw [List.mem_append] at h
      rcases h with h | h
      · exact hb b h
      · simp only [List.mem_singleton] at h
        rw [h]
        exact b3
    apply ev_up
    simp only [spec_ciWires.l1]
    refine ev_p (by omega) (ev_p (by omega) (ev_p (by omega) ?_))
    rw [hx, w64 (n := i + 1) (by omega) (by omega)]
    refine ev_p (by omega) (ev_p (by omega) (ev_p (by omega) (ev_p (by omega) ?_)))
    generalize rd xs g.f1 = a at *
    generalize rd xs g.f2 = b at *
    refine ev_ite (fun c1 => ev_p (by omega) ?_) (fun c1 => ev_ite (fun c2 => ?_) (fun c2 => ev_ite (fun c3 => ev_p (by omega) ?_) (fun c3 => ev_p (by omega) ?_)))
    · have e1 : wrap64 (a * b) = gateV g.f0 a b := by
        unfold gateV
        rw [if_pos c1]
        rcases b1 with rfl | rfl <;> rcases b2 with rfl | rfl <;> exact w64 (by decide) (by decide)
      rw [e1]
      exact next
    · have e1 : (if a < b then b else a) = gateV g.f0 a b := by
        unfold gateV
        rw [if_neg c1, if_pos c2]
      rw [l1MostW_eq, e1]
      exact Ev.bind (ev_c rfl) (ev_p (by omega) next)
    · have e1 : Int.tmod (wrap64 (a + b)) 2 = gateV g.f0 a b := by
        unfold gateV
        rw [if_neg c1, if_neg c2, if_pos c3, w64 (by omega) (by omega)]
        rcases b1 with rfl | rfl <;> rcases b2 with rfl | rfl <;> rfl
      rw [e1]
      exact next
    · have e1 : wrap64 (1 - a) = gateV g.f0 a b := by
        unfold gateV
        rw [if_neg c1, if_neg c2, if_neg c3, w64 (by omega) (by omega)]
      rw [e1]
      exact next
theorem spec_ciWires_l0 (n : Nat) (hn : n ≤ 4) (gs : List S111) (os : List Int) (hg : gs.length ≤ 16) (hk : gatesOk n gs = true) (x : Nat) (hx : x < 65536) (d : Nat) : ∀ (i : Nat), i + d = n →
    Ev (fun k => spec_ciWires.l0 k x (rmap i (fun i => (((x >>> i) % 2 : Nat) : Int))) i n gs os) (wiresM (bitsL x n) gs) := by
  induction d with
  | zero =>
    intro i hi
    have e : i = n := by omega
    subst e
    apply ev_up
    simp only [spec_ciWires.l0]
    refine ev_n (by omega) ?_
    exact spec_ciWires_l1 gs hg gs [] (bitsL x i) i 0 rfl rfl (by rw [bitsL_length]) (by omega) hk (bitsL_bits x i)
  | succ d ih =>
    intro i hi
    apply ev_up
    simp only [spec_ciWires.l0]
    rw [spec_ttBit_eq x i (by omega) (by omega), wN (n := (i : Int) + 1) (m := i + 1) (by omega) (by omega)]
    refine ev_p (by omega) (Ev.bind (ev_c rfl) (ev_p (by rw [rmap_length]; omega) ?_))
    have := ih (i + 1) (by omega)
    rw [rmap_succ] at this
    exact this
theorem spec_ciWires_ev (n : Nat) (gs : List S111) (os : List Int) (h : circuitM n gs os = true) (x : Nat) (hx : x < 65536) : Ev (fun k => spec_ciWires.f k n gs os x) (wiresM (bitsL x n) gs) := by
  obtain ⟨b, hab, ha, hg, _, _, hk, _⟩ := circuitM_of h
  obtain rfl : n = b := by omega
  unfold spec_ciWires.f
  exact spec_ciWires_l0 n ha gs os hg hk x hx n 0 (by omega)

/-! #### spec_ciTable -/
theorem spec_ciTable_l0 (n : Nat) (gs : List S111) (os : List Int) (h : circuitM n gs os = true) (hn : n ≤ 4) (w : Int) (h0 : 0 ≤ w) (h1 : w < n + gs.length) (hg : gs.length ≤ 16) (d : Nat) : ∀ (x : Nat), x + d = 2 ^ n →
    Ev (fun k => spec_ciTable.l0 k w x n gs os n (rmap x (fun x => wval n gs x w))) ((n : Int), ctabV n gs w) := by
  have h8 : 2 ^ n ≤ 2 ^ 4 := Nat.pow_le_pow_right (by decide) hn
  induction d with
  | zero =>
    intro x hx
    have e : x = 2 ^ n := by omega
    apply ev_up
    simp only [spec_ciTable.l0]
    rw [u64w (by omega) (by omega), shl1 n (by omega), e]
    exact ev_p (by omega) (ev_n (by omega) (Ev.now _))
  | succ d ih =>
    intro x hx
    apply ev_up
    simp only [spec_ciTable.l0]
    rw [u64w (by omega) (by omega), shl1 n (by omega), wN (n := (x : Int) + 1) (m := x + 1) (by omega) (by omega)]
    refine ev_p (by omega) (ev_p (by omega) (Ev.bind (spec_ciWires_ev n gs os h x (by omega)) (ev_p h0 (ev_p (by rw [wiresM_length, bitsL_length]; omega) (ev_p (by rw [rmap_length]; omega) ?_)))))
    have := ih (x + 1) (by omega)
    rw [rmap_succ] at this
    exact this
theorem spec_ciTable_ev (n : Nat) (gs : List S111) (os : List Int) (h : circuitM n gs os = true) (w : Int) (h0 : 0 ≤ w) (h1 : w < n + gs.length) : Ev (fun k => spec_ciTable.f k n gs os w) ((n : Int), ctabV n gs w) := by
  obtain ⟨b, hab, ha, hg, _⟩ := circuitM_of h
  unfold spec_ciTable.f
  exact spec_ciTable_l0 n gs os h (by omega) w h0 h1 hg (2 ^ n) 0 (by omega)

/-! #### impl_bitList -/
theorem impl_bitList_l0 (x n : Nat) (hn : n ≤ 4) (hx : x < 65536) (d : Nat) : ∀ (i : Nat), i + d = n →
    Ev (fun k => impl_bitList.l0 k x (rmap n (fun j => if j < i then (((x >>> j) % 2 : Nat) : Int) else 0)) n i) (bitsL x n) := by
  induction d with
  | zero =>
    intro i hi
    apply ev_up
    simp only [impl_bitList.l0]
    refine ev_n (by omega) (ev_eq (Ev.now _) ?_)
    exact rmap_congr (fun k hk => by rw [if_pos (by omega)])
  | succ d ih =>
    intro i hi
    apply ev_up
    simp only [impl_bitList.l0]
    refine ev_p (by omega) (ev_p (by omega) (ev_p (by rw [rmap_length]; omega) ?_))
    rw [bit_and1 x i (by omega) (by omega), Int.toNat_natCast, rmap_set (show i < n by omega), wN (n := (i : Int) + 1) (m := i + 1) (by omega) (by omega)]
    have e : rmap n (fun j => if j = i then (((x >>> i) % 2 : Nat) : Int) else if j < i then (((x >>> j) % 2 : Nat) : Int) else 0) = rmap n (fun j => if j < i + 1 then (((x >>> j) % 2 : Nat) : Int) else 0) := by
      apply rmap_congr
      intro j _
      by_cases h : j = i
      · rw [if_pos h, if_pos (show j < i + 1 by omega), h]
      · by_cases h2 : j < i
        · rw [if_neg h, if_pos h2, if_pos (show j < i + 1 by omega)]
        · rw [if_neg h, if_neg h2, if_neg (show ¬ j < i + 1 by omega)]
    rw [e]
    exact ih (i + 1) (by omega)
theorem impl_bitList_ev (x n : Nat) (hn : n ≤ 4) (hx : x < 65536) : Ev (fun k => impl_bitList.f k x n) (bitsL x n) := by
  unfold impl_bitList.f
  refine ev_p (by omega) (ev_p (by omega) (Ev.bind (ev_c rfl) ?_))
  rw [Int.toNat_natCast, rmap_const, rmap_length]
  have := impl_bitList_l0 x n hn hx n 0 (by omega)
  have e : rmap n (fun j => if j < 0 then (((x >>> j) % 2 : Nat) : Int) else 0) = rmap n (fun _ => (0 : Int)) := rmap_congr (fun j _ => by rw [if_neg (by omega)])
  rw [e] at this
  exact this

/-! #### impl_wireValues -/
theorem gateValue_eq (k a b : Int) (ha : a = 0 ∨ a = 1) (hb : b = 0 ∨ b = 1) : impl_gateValue.f k a b = some (gateV k a b) := by
  unfold impl_gateValue.f gateV
  have e1 : Go.bits .and .i64 a b = a * b := by
    rcases ha with rfl | rfl <;> rcases hb with rfl | rfl <;> decide
  have e2 : Go.bits .or .i64 a b = if a < b then b else a := by
    rcases ha with rfl | rfl <;> rcases hb with rfl | rfl <;> decide
  have e3 : Go.bits .xor .i64 a b = (a + b) % 2 := by
    rcases ha with rfl | rfl <;> rcases hb with rfl | rfl <;> decide
  have e4 : wrap64 (1 - a) = 1 - a := w64 (by omega) (by omega)
  rw [e1, e2, e3, e4]
  (repeat' split) <;> rfl
theorem impl_wireValues_l0 (gs : List S111) (hg : gs.length ≤ 16) (r : List S111) : ∀ (p : List S111) (xs : List Int) (w i : Int), i = p.length → gs = p ++ r → (xs.length : Int) = w → w + r.length ≤ 1000 → gatesOk w r = true → (∀ b ∈ xs, b = 0 ∨ b = 1) →
    Ev (fun k => impl_wireValues.l0 k xs gs gs.length i) (wiresM xs r) := by
  induction r with
  | nil =>
    intro p xs w i hi e hw hwl hk hb
    have hlen : gs.length = p.length := by rw [e]; simp
    apply ev_up
    simp only [impl_wireValues.l0]
    exact ev_n (by omega) (Ev.now _)
  | cons g r ih =>
    intro p xs w i hi e hw hwl hk hb
    have hlen : gs.length = p.length + r.length + 1 := by rw [e]; simp; omega
    simp only [List.length_cons, Int.natCast_add] at hwl
    have hx : rd_T111 gs i = g := by rw [e]; exact rdGateA hi
    rw [gatesOk, Bool.and_eq_true] at hk
    have hk1 := of_decide_eq_true hk.1
    have b1 := hb _ (rd_mem (i := g.f1) (by omega) (by omega))
    have b2 := hb _ (rd_mem (i := g.f2) (by omega) (by omega))
    have b3 := gateV_bit g.f0 _ _ b1 b2
    apply ev_up
    simp only [impl_wireValues.l0]
    refine ev_p (by omega) (ev_p (by omega) (ev_p (by omega) ?_))
    rw [hx, w64 (n := i + 1) (by omega) (by omega)]
    refine ev_p (by omega) (ev_p (by omega) (ev_p (by omega) (ev_p (by omega) ?_)))
    rw [gateValue_eq _ _ _ b1 b2]
    refine Ev.bind (ev_c rfl) (ev_p (by omega) ?_)
    rw [wiresM]
    refine ih (p ++ [g]) _ (w + 1) (i + 1) (by simp; omega) (by rw [e]; simp) (by simp; omega) (by omega) hk.2 (fun b h => ?_)
    rw [List.mem_append] at h
    rcases h with h | h
    · exact hb b h
    · simp only [List.mem_singleton] at h
      rw [h]
      exact b3
theorem impl_wireValues_ev (n : Nat) (gs : List S111) (os : List Int) (h : circuitM n gs os = true) (xs : List Int) (hx : xs.length = n) (hb : ∀ b ∈ xs, b = 0 ∨ b = 1) : Ev (fun k => impl_wireValues.f k n gs os xs) (wiresM xs gs) := by
  obtain ⟨b, hab, ha, hg, _, _, hk, _⟩ := circuitM_of h
  obtain rfl : n = b := by omega
  unfold impl_wireValues.f
  refine Ev.bind (ev_c rfl) (ev_p (by simp; omega) ?_)
  rw [List.nil_append]
  exact impl_wireValues_l0 gs hg gs [] xs n 0 rfl rfl (by omega) (by omega) hk hb

/-! #### impl_wireTables -/
theorem rdTable_get {m : Nat} {f : Nat → S58} {k : Nat} (h : k < m) : rd_T58 (rmap m f) (k : Int) = f k := rmap_get h _
/-- The table of wire w after x rounds. -/
def tabW (n : Nat) (gs : List S111) (x w : Nat) : S58 := ⟨if x = 0 then 0 else n, rmap x (fun y => wval n gs y w)⟩
theorem tabW_succ (n : Nat) (gs : List S111) (x w : Nat) : tabW n gs (x + 1) w = ⟨n, (tabW n gs x w).f1 ++ [wval n gs x w]⟩ := by
  unfold tabW
  rw [if_neg (by omega), rmap_succ]
theorem impl_wireTables_l1 (n : Nat) (gs : List S111) (os : List Int) (W : Nat) (hW : W = n + gs.length) (hWs : W ≤ 20) (x : Nat) (hx : x < 65536) (ws : List Int) (hws : ws = wiresM (bitsL x n) gs) (res : List S58) (d : Nat) : ∀ (j : Nat), j + d = W →
    Ev (fun k => impl_wireTables.l0 k (rmap W (tabW n gs (x + 1))) (wrap64 ((x : Int) + 1)) n gs os) res → Ev (fun k => impl_wireTables.l1 k (rmap W (fun w => tabW n gs (if w < j then x + 1 else x) w)) x ws ws.length j n gs os) res := by
  have hwl : ws.length = W := by rw [hws, wiresM_length, bitsL_length, hW]
  induction d with
  | zero =>
    intro j hj h
    apply ev_up
    simp only [impl_wireTables.l1]
    have e : rmap W (fun w => tabW n gs (if w < j then x + 1 else x) w) = rmap W (tabW n gs (x + 1)) := rmap_congr (fun w hw => by rw [if_pos (by omega)])
    rw [e]
    exact ev_n (by omega) h
  | succ d ih =>
    intro j hj h
    apply ev_up
    simp only [impl_wireTables.l1]
    refine ev_p (by omega) (ev_p (by omega) (ev_p (by omega) (ev_p (by rw [rmap_length]; omega) (Ev.bind (ev_c rfl) ?_))))
    have hjW : j < W := by omega
    simp only [rdTable_get hjW, Int.toNat_natCast, rmap_set hjW, if_true]
    rw [if_neg (Nat.lt_irrefl j), wN (n := (j : Int) + 1) (m := j + 1) (by omega) (by omega)]
    refine ev_p (by unfold tabW; rw [rmap_length]; omega) ?_
    have ev : rd ws (j : Int) = wval n gs x j := by rw [hws]; rfl
    rw [ev]
    have e : rmap W (fun w => if w = j then (⟨(n : Int), (tabW n gs x j).f1 ++ [wval n gs x j]⟩ : S58) else if w = j then ⟨(n : Int), (tabW n gs x j).f1⟩ else tabW n gs (if w < j then x + 1 else x) w) = rmap W (fun w => tabW n gs (if w < j + 1 then x + 1 else x) w) := by
      apply rmap_congr
      intro w _
      by_cases h1 : w = j
      · rw [if_pos h1, if_pos (show w < j + 1 by omega), tabW_succ, h1]
      · by_cases h2 : w < j
        · rw [if_neg h1, if_neg h1, if_pos h2, if_pos (show w < j + 1 by omega)]
        · rw [if_neg h1, if_neg h1, if_neg h2, if_neg (show ¬ w < j + 1 by omega)]
    rw [e]
    exact ih (j + 1) (by omega) h
theorem impl_wireTables_l0 (n : Nat) (gs : List S111) (os : List Int) (h : circuitM n gs os = true) (hn : n ≤ 4) (W : Nat) (hW : W = n + gs.length) (hWs : W ≤ 20) (d : Nat) : ∀ (x : Nat), x + d = 2 ^ n →
    Ev (fun k => impl_wireTables.l0 k (rmap W (tabW n gs x)) x n gs os) (rmap W (tabW n gs (2 ^ n))) := by
  have h8 : 2 ^ n ≤ 2 ^ 4 := Nat.pow_le_pow_right (by decide) hn
  induction d with
  | zero =>
    intro x hx
    have e : x = 2 ^ n := by omega
    apply ev_up
    simp only [impl_wireTables.l0]
    rw [shl1 n (by omega), e]
    exact ev_p (by omega) (ev_n (by omega) (Ev.now _))
  | succ d ih =>
    intro x hx
    apply ev_up
    simp only [impl_wireTables.l0]
    rw [shl1 n (by omega)]
    refine ev_p (by omega) (ev_p (by omega) (Ev.bind (impl_bitList_ev x n hn (by omega)) (Ev.bind (impl_wireValues_ev n gs os h _ (bitsL_length x n) (bitsL_bits x n)) ?_)))
    have := impl_wireTables_l1 n gs os W hW hWs x (by omega) _ rfl (rmap W (tabW n gs (2 ^ n))) W 0 (by omega) (by
      rw [wN (n := (x : Int) + 1) (m := x + 1) (by omega) (by omega)]
      exact ih (x + 1) (by omega))
    have e : rmap W (fun w => tabW n gs (if w < 0 then x + 1 else x) w) = rmap W (tabW n gs x) := rmap_congr (fun w _ => by rw [if_neg (by omega)])
    rw [e] at this
    exact this
def tablesM (n : Nat) (gs : List S111) : List S58 := rmap (n + gs.length) (fun w => (⟨(n : Int), ctabV n gs w⟩ : S58))
theorem impl_wireTables_ev (n : Nat) (gs : List S111) (os : List Int) (h : circuitM n gs os = true) : Ev (fun k => impl_wireTables.f k n gs os) (tablesM n gs) := by
  obtain ⟨b, hab, ha, hg, _⟩ := circuitM_of h
  have hn : n ≤ 4 := by omega
  unfold impl_wireTables.f
  rw [wN (n := (n : Int) + gs.length) (m := n + gs.length) (by omega) (by omega), Int.toNat_natCast, rmap_const]
  have h9 : 0 < 2 ^ n := Nat.two_pow_pos n
  have := impl_wireTables_l0 n gs os h hn (n + gs.length) rfl (by omega) (2 ^ n) 0 (by omega)
  have e : rmap (n + gs.length) (tabW n gs 0) = rmap (n + gs.length) (fun _ => z58) := rmap_congr (fun w _ => rfl)
  have e2 : rmap (n + gs.length) (tabW n gs (2 ^ n)) = tablesM n gs := rmap_congr (fun w _ => by unfold tabW ctabV; rw [if_neg (by omega)])
  rw [e, e2] at this
  exact ev_p (by omega) (ev_p (by omega) this)
theorem tablesM_length (n : Nat) (gs : List S111) : (tablesM n gs).length = n + gs.length := rmap_length _ _
theorem tablesM_rd {n : Nat} {gs : List S111} {w : Nat} (h : w < n + gs.length) : rd_T58 (tablesM n gs) (w : Int) = ⟨n, ctabV n gs w⟩ := rdTable_get h

/-! #### spec_ciGood -/
theorem spec_ciGood_end (n : Int) (gs : List S111) (os : List Int) (hn : I64 n) (hg : gs.length ≤ 1048576) (ho : os.length ≤ 1048576) :
    Ev (fun k => (spec_ttInputs.f n).bind fun t108 => (if t108 = true then (if (gs.length : Int) ≤ 16 then ((spec_l1In.f (os.length : Int) 1 4).bind fun t109 => (if t109 = true then ((spec_l1All.f k os 0 (wrap64 ((wrap64 (n + (gs.length : Int))) - 1))).bind fun t110 => (some t110)) else (some false))) else (some false)) else (some false)))
      (decide (0 ≤ n ∧ n ≤ 4 ∧ gs.length ≤ 16 ∧ 1 ≤ os.length ∧ os.length ≤ 4) && os.all (inB 0 (n + gs.length - 1))) := by
  rw [ttInputs_eq, l1In_eq]
  refine Ev.bind (ev_c rfl) (ev_ite (fun h1 => ?_) (fun h1 => ?_))
  · have h1' := of_decide_eq_true h1
    refine ev_ite (fun h2 => ?_) (fun h2 => ?_)
    · refine Ev.bind (ev_c rfl) (ev_ite (fun h3 => ?_) (fun h3 => ?_))
      · have h3' := of_decide_eq_true h3
        rw [w64 (n := n + gs.length) (by omega) (by omega), w64 (by omega) (by omega), decide_eq_true (by omega), Bool.true_and]
        exact Ev.bind (l1All_ev os 0 _ (by omega)) (Ev.now _)
      · rw [decide_eq_false (fun hh => h3 (decide_eq_true (by omega))), Bool.false_and]
        exact Ev.now _
    · rw [decide_eq_false (by omega), Bool.false_and]
      exact Ev.now _
  · rw [decide_eq_false (fun hh => h1 (decide_eq_true (by omega))), Bool.false_and]
    exact Ev.now _
theorem spec_ciGood_l0 (n : Int) (gs : List S111) (os : List Int) (hn : I64 n) (hg : gs.length ≤ 1048576) (ho : os.length ≤ 1048576) (r : List S111) : ∀ (p : List S111) (i : Int), i = p.length → gs = p ++ r →
    Ev (fun k => spec_ciGood.l0 k gs gs.length i n gs os) (decide (0 ≤ n ∧ n ≤ 4 ∧ gs.length ≤ 16 ∧ 1 ≤ os.length ∧ os.length ≤ 4) && (gatesOk (n + i) r && os.all (inB 0 (n + gs.length - 1)))) := by
  have hn' := hn
  unfold I64 at hn'
  induction r with
  | nil =>
    intro p i hi e
    have hlen : gs.length = p.length := by rw [e]; simp
    apply ev_up
    simp only [spec_ciGood.l0]
    refine ev_n (by omega) ?_
    rw [gatesOk, Bool.true_and]
    exact spec_ciGood_end n gs os hn hg ho
  | cons x r ih =>
    intro p i hi e
    have hlen : gs.length = p.length + r.length + 1 := by rw [e]; simp; omega
    have hx : rd_T111 gs i = x := by rw [e]; exact rdGateA hi
    have ih' := ih (p ++ [x]) (i + 1) (by simp; omega) (by rw [e]; simp)
    apply ev_up
    simp only [spec_ciGood.l0]
    refine ev_p (by omega) (ev_p (by omega) (ev_p (by omega) ?_))
    rw [hx, w64 (n := i + 1) (by omega) (by omega)]
    simp only [l1In_eq]
    by_cases hv : 0 ≤ n ∧ n ≤ 4
    · rw [w64 (n := n + i) (by omega) (by omega), w64 (n := n + i - 1) (by omega) (by omega)]
      have no : gateOk (n + i) x = false → Ev (fun _ => some false) (decide (0 ≤ n ∧ n ≤ 4 ∧ gs.length ≤ 16 ∧ 1 ≤ os.length ∧ os.length ≤ 4) && (gatesOk (n + i) (x :: r) && os.all (inB 0 (n + gs.length - 1)))) := fun h => by
        rw [gatesOk, h, Bool.false_and, Bool.false_and, Bool.and_false]
        exact Ev.now _
      have yes : gateOk (n + i) x = true → Ev (fun k => spec_ciGood.l0 k gs gs.length (i + 1) n gs os) (decide (0 ≤ n ∧ n ≤ 4 ∧ gs.length ≤ 16 ∧ 1 ≤ os.length ∧ os.length ≤ 4) && (gatesOk (n + i) (x :: r) && os.all (inB 0 (n + gs.length - 1)))) := fun h => by
        rw [gatesOk, h, Bool.true_and, Int.add_assoc]
        exact ih'
      refine Ev.bind (ev_c rfl) (ev_ite (fun h1 => Ev.bind (ev_c rfl) (ev_ite (fun h2 => Ev.bind (ev_c rfl) (ev_ite (fun h3 => ev_ite (fun h4 => ev_ite (fun h5 => ?_) (fun h5 => ?_)) (fun h4 => ?_)) (fun h3 => ?_))) (fun h2 => ?_))) (fun h1 => ?_))
      · simp only [decide_eq_true_eq] at h1 h2 h3
        exact yes (decide_eq_true (by omega))
      · exact no (decide_eq_false (fun hh => h5 (hh.2.2.2.2.2.2 h4).symm))
      · simp only [decide_eq_true_eq] at h1 h2 h3
        exact yes (decide_eq_true (by omega))
      · simp only [decide_eq_true_eq] at h3
        exact no (decide_eq_false (by omega))
      · simp only [decide_eq_true_eq] at h2
        exact no (decide_eq_false (by omega))
      · simp only [decide_eq_true_eq] at h1
        exact no (decide_eq_false (by omega))
    · have ef : decide (0 ≤ n ∧ n ≤ 4 ∧ gs.length ≤ 16 ∧ 1 ≤ os.length ∧ os.length ≤ 4) = false := decide_eq_false (by omega)
      rw [ef, Bool.false_and] at ih' ⊢
      refine Ev.bind (ev_c rfl) (ev_ite (fun h1 => Ev.bind (ev_c rfl) (ev_ite (fun h2 => Ev.bind (ev_c rfl) (ev_ite (fun h3 => ev_ite (fun h4 => ev_ite (fun h5 => ih') (fun h5 => Ev.now _)) (fun h4 => ih')) (fun h3 => Ev.now _))) (fun h2 => Ev.now _))) (fun h1 => Ev.now _))
theorem spec_ciGood_ev (n : Int) (gs : List S111) (os : List Int) (hn : I64 n) (hg : gs.length ≤ 1048576) (ho : os.length ≤ 1048576) : Ev (fun k => spec_ciGood.f k n gs os) (circuitM n gs os) := by
  unfold spec_ciGood.f circuitM
  have := spec_ciGood_l0 n gs os hn hg ho gs [] 0 rfl rfl
  rwa [Int.add_zero] at this

/-! #### impl_IsCircuit -/
theorem impl_IsCircuit_l1 (n : Int) (gs : List S111) (os : List Int) (h0 : 0 ≤ n) (h4 : n ≤ 4) (hg : gs.length ≤ 1048576) (ho : os.length ≤ 1048576) (r : List Int) : ∀ (p : List Int) (i : Int), i = p.length → os = p ++ r →
    Ev (fun k => impl_IsCircuit.l1 k os os.length i n gs os) (r.all (inB 0 (n + gs.length - 1))) := by
  induction r with
  | nil =>
    intro p i hi e
    have hlen : os.length = p.length := by rw [e]; simp
    apply ev_up
    simp only [impl_IsCircuit.l1]
    exact ev_n (by omega) (Ev.now _)
  | cons x r ih =>
    intro p i hi e
    have hlen : os.length = p.length + r.length + 1 := by rw [e]; simp; omega
    have hx : rd os i = x := by rw [e]; exact rdA hi
    have ih' := ih (p ++ [x]) (i + 1) (by simp; omega) (by rw [e]; simp)
    apply ev_up
    simp only [impl_IsCircuit.l1]
    refine ev_p (by omega) (ev_p (by omega) (ev_p (by omega) ?_))
    rw [hx, w64 (n := i + 1) (by omega) (by omega), w64 (n := n + gs.length) (by omega) (by omega)]
    refine ev_ite (fun h1 => ?_) (fun h1 => ev_ite (fun h2 => ?_) (fun h2 => ?_))
    · rw [List.all_cons, show inB 0 (n + gs.length - 1) x = false from decide_eq_false (by omega), Bool.false_and]
      exact Ev.now _
    · rw [List.all_cons, show inB 0 (n + gs.length - 1) x = false from decide_eq_false (by omega), Bool.false_and]
      exact Ev.now _
    · rw [List.all_cons, show inB 0 (n + gs.length - 1) x = true from decide_eq_true (by omega), Bool.true_and]
      exact ih'
theorem impl_IsCircuit_l0 (n : Int) (gs : List S111) (os : List Int) (h0 : 0 ≤ n) (h4 : n ≤ 4) (hg : gs.length ≤ 1048576) (ho : os.length ≤ 1048576) (r : List S111) : ∀ (p : List S111) (i : Int), i = p.length → gs = p ++ r →
    Ev (fun k => impl_IsCircuit.l0 k gs gs.length i n gs os) (gatesOk (n + i) r && os.all (inB 0 (n + gs.length - 1))) := by
  induction r with
  | nil =>
    intro p i hi e
    have hlen : gs.length = p.length := by rw [e]; simp
    apply ev_up
    simp only [impl_IsCircuit.l0]
    refine ev_n (by omega) ?_
    rw [gatesOk, Bool.true_and]
    exact impl_IsCircuit_l1 n gs os h0 h4 hg ho os [] 0 rfl rfl
  | cons x r ih =>
    intro p i hi e
    have hlen : gs.length = p.length + r.length + 1 := by rw [e]; simp; omega
    have hx : rd_T111 gs i = x := by rw [e]; exact rdGateA hi
    have ih' := ih (p ++ [x]) (i + 1) (by simp; omega) (by rw [e]; simp)
    apply ev_up
    simp only [impl_IsCircuit.l0]
    refine ev_p (by omega) (ev_p (by omega) (ev_p (by omega) ?_))
    rw [hx, w64 (n := i + 1) (by omega) (by omega), w64 (n := n + i) (by omega) (by omega)]
    have no : gateOk (n + i) x = false → Ev (fun _ => some false) (gatesOk (n + i) (x :: r) && os.all (inB 0 (n + gs.length - 1))) := fun h => by
      rw [gatesOk, h, Bool.false_and, Bool.false_and]
      exact Ev.now _
    have yes : gateOk (n + i) x = true → Ev (fun k => impl_IsCircuit.l0 k gs gs.length (i + 1) n gs os) (gatesOk (n + i) (x :: r) && os.all (inB 0 (n + gs.length - 1))) := fun h => by
      rw [gatesOk, h, Bool.true_and, Int.add_assoc]
      exact ih'
    refine ev_ite (fun c => no (decide_eq_false (by omega))) (fun c1 => ev_ite (fun c => no (decide_eq_false (by omega))) (fun c2 => ev_ite (fun c => no (decide_eq_false (by omega))) (fun c3 => ev_ite (fun c => no (decide_eq_false (by omega))) (fun c4 => ev_ite (fun c => no (decide_eq_false (by omega))) (fun c5 => ev_ite (fun c => no (decide_eq_false (by omega))) (fun c6 => ev_ite (fun c7 => ev_ite (fun c8 => yes (decide_eq_true (by omega))) (fun c8 => no (decide_eq_false (fun hh => c8 (hh.2.2.2.2.2.2 c7))))) (fun c7 => yes (decide_eq_true (by omega)))))))))
theorem impl_IsCircuit_ev (n : Int) (gs : List S111) (os : List Int) (hg : gs.length ≤ 1048576) (ho : os.length ≤ 1048576) : Ev (fun k => impl_IsCircuit.f k n gs os) (circuitM n gs os) := by
  have bad : ¬ (0 ≤ n ∧ n ≤ 4 ∧ gs.length ≤ 16 ∧ 1 ≤ os.length ∧ os.length ≤ 4) → Ev (fun k => impl_IsCircuit.j0 k true n gs os) (circuitM n gs os) := fun h => by
    apply ev_up
    simp only [impl_IsCircuit.j0]
    unfold circuitM
    rw [decide_eq_false h, Bool.false_and]
    exact ev_p (by trivial) (Ev.now _)
  unfold impl_IsCircuit.f
  refine ev_ite (fun c1 => bad (by omega)) (fun c1 => ev_ite (fun c2 => bad (by omega)) (fun c2 => ev_ite (fun c3 => bad (by omega)) (fun c3 => ev_ite (fun c4 => bad (by omega)) (fun c4 => ?_))))
  apply ev_up
  simp only [impl_IsCircuit.j0]
  refine ev_ite (fun c5 => ?_) (fun c5 => ?_)
  · have c5' := of_decide_eq_true c5
    unfold circuitM
    rw [decide_eq_false (by omega), Bool.false_and]
    exact Ev.now _
  · have c5' : ¬ (os.length : Int) > 4 := fun h => c5 (decide_eq_true h)
    unfold circuitM
    rw [decide_eq_true (by omega), Bool.true_and]
    have := impl_IsCircuit_l0 n gs os (by omega) (by omega) hg ho gs [] 0 rfl rfl
    rwa [Int.add_zero] at this

/-! #### equalGates -/
def eqgB (n : Nat) (gs : List S111) (i j : Nat) : Bool := decide (ctabV n gs ((n + i : Nat) : Int) = ctabV n gs ((n + j : Nat) : Int))
def equalGatesM (n : Int) (gs : List S111) (os : List Int) : List (List Int) × Bool := if circuitM n gs os = true then (pairsG (eqgB n.toNat gs) 0 gs.length, true) else ([], false)
theorem equalGatesM_length (n : Int) (gs : List S111) (os : List Int) : (equalGatesM n gs os).1.length ≤ 400 ∧ ∀ y ∈ (equalGatesM n gs os).1, y.length ≤ 2 := by
  unfold equalGatesM
  split
  · rename_i h
    obtain ⟨a, rfl, ha, hg, _⟩ := circuitM_of h
    have := pairsG_length (eqgB a gs) 16 gs.length hg 0
    simp only [Int.toNat_natCast]
    exact ⟨by omega, fun y hy => by rw [pairsG_rows _ gs.length 0 y hy]; exact Nat.le_refl _⟩
  · simp
theorem spec_EqualGates_l1 (n : Nat) (gs : List S111) (os : List Int) (h : circuitM n gs os = true) (hn : n ≤ 4) (hg : gs.length ≤ 16) (i : Nat) (hi : i < gs.length) (R : List (List Int) × Bool) (d : Nat) : ∀ (j : Nat) (acc : List (List Int)), j + d = gs.length → acc.length + d ≤ 1000000 →
    Ev (fun k => spec_EqualGates.l0 k (acc ++ pairG (eqgB n gs) i j d) gs.length (wrap64 ((i : Int) + 1)) n gs os) R → Ev (fun k => spec_EqualGates.l1 k acc i j gs.length i n gs os) R := by
  have h8 : 2 ^ n ≤ 2 ^ 4 := Nat.pow_le_pow_right (by decide) hn
  induction d with
  | zero =>
    intro j acc hj ha hh
    rw [pairG, List.append_nil] at hh
    apply ev_up
    simp only [spec_EqualGates.l1]
    exact ev_n (by omega) hh
  | succ d ih =>
    intro j acc hj ha hh
    rw [pairG] at hh
    apply ev_up
    simp only [spec_EqualGates.l1]
    rw [wN (n := (n : Int) + i) (m := n + i) (by omega) (by omega), wN (n := (n : Int) + j) (m := n + j) (by omega) (by omega), wN (n := (j : Int) + 1) (m := j + 1) (by omega) (by omega)]
    refine ev_p (by omega) (Ev.bind (spec_ciTable_ev n gs os h _ (by omega) (by omega)) (Ev.bind (spec_ciTable_ev n gs os h _ (by omega) (by omega)) (Ev.bind (spec_l1Same_ev _ _ (by rw [ctabV_length]; omega)) ?_)))
    refine ev_ite (fun c => ev_p (by omega) ?_) (fun c => ?_)
    · rw [if_pos (show eqgB n gs i j = true from c)] at hh
      refine ih (j + 1) _ (by omega) (by simp; omega) ?_
      simpa using hh
    · rw [if_neg (show ¬ eqgB n gs i j = true from c), List.nil_append] at hh
      exact ih (j + 1) acc (by omega) (by omega) hh
theorem spec_EqualGates_l0 (n : Nat) (gs : List S111) (os : List Int) (h : circuitM n gs os = true) (hn : n ≤ 4) (hg : gs.length ≤ 16) (d : Nat) : ∀ (i : Nat) (acc : List (List Int)), i + d = gs.length → acc.length ≤ 20 * i →
    Ev (fun k => spec_EqualGates.l0 k acc gs.length i n gs os) (acc ++ pairsG (eqgB n gs) i d, true) := by
  induction d with
  | zero =>
    intro i acc hi ha
    apply ev_up
    simp only [spec_EqualGates.l0]
    rw [pairsG, List.append_nil]
    exact ev_n (by omega) (Ev.now _)
  | succ d ih =>
    intro i acc hi ha
    have hp := pairG_length (eqgB n gs) i d (i + 1)
    apply ev_up
    simp only [spec_EqualGates.l0]
    rw [wN (n := (i : Int) + 1) (m := i + 1) (by omega) (by omega)]
    refine ev_p (by omega) ?_
    refine spec_EqualGates_l1 n gs os h hn hg i (by omega) _ d (i + 1) acc (by omega) (by omega) ?_
    rw [wN (n := (i : Int) + 1) (m := i + 1) (by omega) (by omega)]
    refine ev_eq (ih (i + 1) _ (by omega) (by simp; omega)) ?_
    rw [pairsG, List.append_assoc]
theorem spec_EqualGates_ev (n : Int) (gs : List S111) (os : List Int) (hn : I64 n) (hg : gs.length ≤ 1048576) (ho : os.length ≤ 1048576) : Ev (fun g => spec_EqualGates.f g n gs os) (equalGatesM n gs os) := by
  unfold spec_EqualGates.f equalGatesM
  refine Ev.bind (spec_ciGood_ev n gs os hn hg ho) (ev_ite (fun h => ?_) (fun h => ?_))
  · obtain ⟨a, rfl, ha, hg', _⟩ := circuitM_of h
    rw [if_pos h, Int.toNat_natCast]
    have := spec_EqualGates_l0 a gs os h ha hg' gs.length 0 [] (by omega) (by simp)
    rw [List.nil_append] at this
    exact this
  · rw [if_neg h]
    exact Ev.now _
theorem impl_EqualGates_l1 (n : Nat) (gs : List S111) (hn : n ≤ 4) (hg : gs.length ≤ 16) (ts : List S58) (hts : ts = (tablesM n gs).drop n) (i : Nat) (hi : i < gs.length) (R : List (List Int) × Bool) (d : Nat) : ∀ (j : Nat) (acc : List (List Int)), j + d = gs.length → acc.length + d ≤ 1000000 →
    Ev (fun k => impl_EqualGates.l0 k ts (acc ++ pairG (eqgB n gs) i j d) gs.length (wrap64 ((i : Int) + 1))) R → Ev (fun k => impl_EqualGates.l1 k ts acc i j gs.length i) R := by
  have h8 : 2 ^ n ≤ 2 ^ 4 := Nat.pow_le_pow_right (by decide) hn
  have hl : ts.length = gs.length := by rw [hts, List.length_drop, tablesM_length]; omega
  have hr : ∀ i : Nat, i < gs.length → rd_T58 ts (i : Int) = ⟨n, ctabV n gs ((n + i : Nat) : Int)⟩ := fun i hi => by
    have e1 : rd_T58 ts (i : Int) = rd_T58 (tablesM n gs) ((n + i : Nat) : Int) := by
      unfold rd_T58
      rw [hts, Int.toNat_natCast, Int.toNat_natCast, List.getD_eq_getElem?_getD, List.getD_eq_getElem?_getD, List.getElem?_drop]
    rw [e1, tablesM_rd (by omega)]
  induction d with
  | zero =>
    intro j acc hj ha hh
    rw [pairG, List.append_nil] at hh
    apply ev_up
    simp only [impl_EqualGates.l1]
    exact ev_n (by omega) hh
  | succ d ih =>
    intro j acc hj ha hh
    rw [pairG] at hh
    apply ev_up
    simp only [impl_EqualGates.l1]
    rw [hr i hi, hr j (by omega), wN (n := (j : Int) + 1) (m := j + 1) (by omega) (by omega)]
    refine ev_p (by omega) (ev_p (by omega) (ev_p (by omega) (ev_p (by omega) (Ev.bind (slices_Equal_ev _ _ (by dsimp only; rw [ctabV_length]; omega)) ?_))))
    refine ev_ite (fun c => ev_p (by omega) ?_) (fun c => ?_)
    · rw [if_pos (show eqgB n gs i j = true from c)] at hh
      refine ih (j + 1) _ (by omega) (by simp; omega) ?_
      simpa using hh
    · rw [if_neg (show ¬ eqgB n gs i j = true from c), List.nil_append] at hh
      exact ih (j + 1) acc (by omega) (by omega) hh
theorem impl_EqualGates_l0 (n : Nat) (gs : List S111) (hn : n ≤ 4) (hg : gs.length ≤ 16) (ts : List S58) (hts : ts = (tablesM n gs).drop n) (d : Nat) : ∀ (i : Nat) (acc : List (List Int)), i + d = gs.length → acc.length ≤ 20 * i →
    Ev (fun k => impl_EqualGates.l0 k ts acc gs.length i) (acc ++ pairsG (eqgB n gs) i d, true) := by
  induction d with
  | zero =>
    intro i acc hi ha
    apply ev_up
    simp only [impl_EqualGates.l0]
    rw [pairsG, List.append_nil]
    exact ev_n (by omega) (Ev.now _)
  | succ d ih =>
    intro i acc hi ha
    have hp := pairG_length (eqgB n gs) i d (i + 1)
    apply ev_up
    simp only [impl_EqualGates.l0]
    rw [wN (n := (i : Int) + 1) (m := i + 1) (by omega) (by omega)]
    refine ev_p (by omega) ?_
    refine impl_EqualGates_l1 n gs hn hg ts hts i (by omega) _ d (i + 1) acc (by omega) (by omega) ?_
    rw [wN (n := (i : Int) + 1) (m := i + 1) (by omega) (by omega)]
    refine ev_eq (ih (i + 1) _ (by omega) (by simp; omega)) ?_
    rw [pairsG, List.append_assoc]
theorem impl_EqualGates_ev (n : Int) (gs : List S111) (os : List Int) (hg : gs.length ≤ 1048576) (ho : os.length ≤ 1048576) : Ev (fun g => impl_EqualGates.f g n gs os) (equalGatesM n gs os) := by
  unfold impl_EqualGates.f equalGatesM
  refine Ev.bind (impl_IsCircuit_ev n gs os hg ho) (ev_ite (fun h => ?_) (fun h => ?_))
  · obtain ⟨a, rfl, ha, hg', _, _, hk, _⟩ := circuitM_of h
    rw [if_pos h, Int.toNat_natCast]
    refine Ev.bind (impl_wireTables_ev a gs os h) (ev_p (by omega) (ev_p (by rw [tablesM_length]; omega) (Ev.bind (ev_c rfl) ?_)))
    have hl : ((tablesM a gs).drop a).length = gs.length := by rw [List.length_drop, tablesM_length]; omega
    have := impl_EqualGates_l0 a gs ha hg' _ rfl gs.length 0 [] (by omega) (by simp)
    rw [List.nil_append] at this
    rw [hl]
    exact this
  · rw [if_neg h]
    exact Ev.now _

/-! #### markIntS -/
theorem markIntS_l0 (r : List Int) : ∀ (p : List Int) (s i : Int), i = p.length → p.length + r.length ≤ 9223372036854775807 → 0 ≤ s → s + r.length ≤ 9223372036854775807 →
    Ev (fun k => laws_markIntS.l0 k (p ++ r) s i) (s + r.length, p ++ seqFrom s r.length) := by
  induction r with
  | nil =>
    intro p s i hi hb h0 hs
    apply ev_up
    simp only [laws_markIntS.l0]
    refine ev_n (by simp; omega) ?_
    simpa [seqFrom] using Ev.now (s, p)
  | cons x r ih =>
    intro p s i hi hb h0 hs
    simp only [List.length_cons, Int.natCast_add] at hb hs
    apply ev_up
    simp only [laws_markIntS.l0]
    refine ev_p (by simp; omega) (ev_p (by omega) ?_)
    rw [setA hi, w64 (by omega) (by omega), w64 (by omega) (by omega)]
    refine ev_eq (ih (p ++ [s]) (s + 1) (i + 1) (by simp; omega) (by simp; omega) (by omega) (by omega)) ?_
    simp [seqFrom]
    omega
theorem markIntS_ev (a : List Int) (s : Int) (h0 : 0 ≤ s) (h : a.length + s ≤ 9223372036854775807) : Ev (fun k => laws_markIntS.f k a s) (s + a.length, seqFrom s a.length) := by
  unfold laws_markIntS.f
  exact markIntS_l0 a [] s 0 rfl (by simp; omega) h0 (by omega)

/-! #### markCircuit -/
theorem markGateS_l0 (r : List S111) : ∀ (p : List S111) (s i : Int), i = p.length → p.length + r.length ≤ 1048576 → 0 ≤ s → s + 3 * r.length ≤ 8388608 →
    ∃ t, Ev (fun k => laws_markGateS.l0 k (p ++ r) s i) (s + 3 * r.length, t) := by
  induction r with
  | nil =>
    intro p s i hi hb h0 hs
    refine ⟨p, ?_⟩
    apply ev_up
    simp only [laws_markGateS.l0]
    refine ev_n (by simp; omega) ?_
    simpa using Ev.now (s, p)
  | cons x r ih =>
    intro p s i hi hb h0 hs
    simp only [List.length_cons, Int.natCast_add] at hb hs
    obtain ⟨t, ht⟩ := ih (p ++ [⟨s, s + 1, s + 1 + 1⟩]) (s + 1 + 1 + 1) (i + 1) (by simp; omega) (by simp; omega) (by omega) (by omega)
    refine ⟨t, ?_⟩
    apply ev_up
    simp only [laws_markGateS.l0]
    refine ev_p (by simp; omega) (ev_p (by omega) (Ev.bind (ev_c rfl) (Ev.bind (ev_c rfl) ?_)))
    simp only [rdGateA hi, setB hi]
    rw [appA, w64 (n := s + 1) (by omega) (by omega), w64 (n := s + 1 + 1) (by omega) (by omega), w64 (n := s + 1 + 1 + 1) (by omega) (by omega), w64 (n := i + 1) (by omega) (by omega)]
    refine ev_eq ht ?_
    simp only [List.length_cons, Prod.mk.injEq, and_true]
    omega
theorem markCircuit_ev (n : Int) (gs : List S111) (os : List Int) (hg : gs.length ≤ 1048576) (ho : os.length ≤ 1048576) : ∃ (m : Int) (t : List S111) (u : List Int), 0 ≤ m ∧ m ≤ 9000000 ∧ Ev (fun k => laws_markCircuit.f k n gs os 1) (m, t, u) := by
  unfold laws_markCircuit.f laws_markGateS.f
  obtain ⟨t, ht⟩ := markGateS_l0 gs [] 1 0 rfl (by simpa using hg) (by omega) (by omega)
  exact ⟨1 + 3 * gs.length + os.length, t, _, by omega, by omega, Ev.bind ht (Ev.bind (markIntS_ev os (1 + 3 * gs.length) (by omega) (by omega)) (Ev.now _))⟩

/-! #### heldIntS -/
theorem heldIntS_l0 (n : Nat) : ∀ (p : List Int) (s i : Int), i = p.length → p.length + n ≤ 9223372036854775807 → 0 ≤ s → s + n ≤ 9223372036854775807 →
    Ev (fun k => laws_heldIntS.l0 k (p ++ seqFrom s n) s i) (s + n) := by
  induction n with
  | zero =>
    intro p s i hi hb h0 hs
    apply ev_up
    simp only [laws_heldIntS.l0]
    refine ev_n (by simp [seqFrom]; omega) ?_
    simpa [seqFrom] using Ev.now s
  | succ n ih =>
    intro p s i hi hb h0 hs
    apply ev_up
    simp only [laws_heldIntS.l0]
    have hl := seqFrom_length s (n + 1)
    refine ev_p (by simp [hl]; omega) (ev_p (by omega) ?_)
    refine ev_p (by simp only [seqFrom]; exact rdA hi) ?_
    simp only [seqFrom]
    rw [appA, w64 (by omega) (by omega), w64 (by omega) (by omega)]
    refine ev_eq (ih (p ++ [s]) (s + 1) (i + 1) (by simp; omega) (by simp; omega) (by omega) (by omega)) ?_
    omega
theorem heldIntS_ev (n : Nat) (s : Int) (h0 : 0 ≤ s) (h : n + s ≤ 9223372036854775807) : Ev (fun k => laws_heldIntS.f k (seqFrom s n) s) (s + n) := by
  unfold laws_heldIntS.f
  exact heldIntS_l0 n [] s 0 rfl (by simp; omega) h0 (by omega)

/-! #### rdII -/
theorem rdIIA {p r : List (List Int)} {x : List Int} {i : Int} (hi : i = p.length) : rd_L3 (p ++ x :: r) i = x := getDA hi

/-! #### markIntSS -/
def totL : List (List Int) → Nat
  | [] => 0
  | x :: r => x.length + totL r
theorem totL_le {l : List (List Int)} {M : Nat} (h : ∀ y ∈ l, y.length ≤ M) : totL l ≤ l.length * M := by
  induction l with
  | nil => simp [totL]
  | cons x r ih =>
    have h1 := h x (by simp)
    have h2 := ih (fun y hy => h y (by simp [hy]))
    rw [totL, List.length_cons, Nat.succ_mul]
    omega
/-- The marks: rows as long as before, the numbers from s on. -/
def markSS : Int → List (List Int) → List (List Int)
  | _, [] => []
  | s, x :: r => seqFrom s x.length :: markSS (s + x.length) r
theorem markSS_length (r : List (List Int)) : ∀ s, (markSS s r).length = r.length := by
  induction r with
  | nil => intro s; rfl
  | cons x r ih => intro s; rw [markSS, List.length_cons, List.length_cons, ih]
theorem markIntSS_l0 (r : List (List Int)) : ∀ (p : List (List Int)) (s i : Int), i = p.length → p.length + r.length ≤ 1048576 → 0 ≤ s → s + totL r ≤ 9000000000000000000 →
    Ev (fun k => laws_markIntSS.l0 k (p ++ r) s i) (s + totL r, p ++ markSS s r) := by
  induction r with
  | nil =>
    intro p s i hi hb h0 hs
    apply ev_up
    simp only [laws_markIntSS.l0]
    refine ev_n (by simp; omega) ?_
    simpa [markSS, totL] using Ev.now (s, p)
  | cons x r ih =>
    intro p s i hi hb h0 hs
    rw [totL] at hs
    simp only [List.length_cons] at hb
    have ht := ih (p ++ [seqFrom s x.length]) (s + x.length) (i + 1) (by simp; omega) (by simp; omega) (by omega) (by omega)
    apply ev_up
    simp only [laws_markIntSS.l0]
    refine ev_p (by simp; omega) (ev_p (by omega) ?_)
    rw [rdIIA hi]
    have e : ∀ v : List Int, (p ++ x :: r).set (i : Int).toNat v = p ++ [v] ++ r := fun v => by rw [setA hi]
    refine Ev.bind (markIntS_ev x s h0 (by omega)) ?_
    dsimp only
    rw [e, w64 (n := i + 1) (by omega) (by omega)]
    refine ev_eq ht ?_
    rw [totL, markSS, List.append_assoc]
    refine Prod.ext ?_ rfl
    simp only
    omega
theorem markIntSS_ev (a : List (List Int)) (h : a.length ≤ 1048576) (hy : ∀ y ∈ a, y.length ≤ 1048576) : Ev (fun k => laws_markIntSS.f k a 1) (1 + totL a, markSS 1 a) := by
  unfold laws_markIntSS.f
  have := totL_le hy
  exact markIntSS_l0 a [] 1 0 rfl (by simpa using h) (by omega) (by omega)

/-! #### heldIntSS -/
theorem heldIntSS_l0 (r : List (List Int)) : ∀ (p : List (List Int)) (s i : Int), i = p.length → p.length + r.length ≤ 1048576 → 0 ≤ s → s + totL r ≤ 9000000000000000000 →
    Ev (fun k => laws_heldIntSS.l0 k (p ++ markSS s r) s i) (s + totL r) := by
  induction r with
  | nil =>
    intro p s i hi hb h0 hs
    apply ev_up
    simp only [laws_heldIntSS.l0]
    exact ev_n (by simp [markSS]; omega) (ev_eq (Ev.now _) (by simp [totL]))
  | cons x r ih =>
    intro p s i hi hb h0 hs
    rw [totL] at hs
    simp only [List.length_cons] at hb
    have ht := ih (p ++ [seqFrom s x.length]) (s + x.length) (i + 1) (by simp; omega) (by simp; omega) (by omega) (by omega)
    apply ev_up
    simp only [laws_heldIntSS.l0]
    refine ev_p (by simp [markSS]; omega) (ev_p (by omega) ?_)
    rw [markSS, rdIIA hi]
    refine Ev.bind (heldIntS_ev x.length s h0 (by omega)) (ev_n (by omega) ?_)
    rw [w64 (n := i + 1) (by omega) (by omega), appA]
    refine ev_eq ht ?_
    rw [totL]
    omega
theorem heldIntSS_ev (a : List (List Int)) (h : a.length ≤ 1048576) (hy : ∀ y ∈ a, y.length ≤ 1048576) : Ev (fun k => laws_heldIntSS.f k (markSS 1 a) 1) (1 + totL a) := by
  unfold laws_heldIntSS.f
  have := totL_le hy
  exact heldIntSS_l0 a [] 1 0 rfl (by simpa using h) (by omega) (by omega)

/-! #### eqIntSS -/
theorem eqIntSS_l0 (r : List (List Int)) : ∀ (s p q : List (List Int)) (i : Int), i = p.length → p.length = q.length → r.length = s.length → p.length + r.length ≤ 9223372036854775807 → (∀ y ∈ r, y.length ≤ 9223372036854775807) →
    Ev (fun k => laws_eqIntSS.l0 k (p ++ r) (q ++ s) i) (decide (r = s)) := by
  induction r with
  | nil =>
    intro s p q i hi hpq hrs hb hy
    obtain rfl : s = [] := List.length_eq_zero_iff.1 hrs.symm
    apply ev_up
    simp only [laws_eqIntSS.l0]
    refine ev_n (by simp; omega) ?_
    simpa using Ev.now true
  | cons x r ih =>
    intro s p q i hi hpq hrs hb hy
    match s, hrs with
    | y :: s, hrs =>
      simp only [List.length_cons] at hrs hb
      apply ev_up
      simp only [laws_eqIntSS.l0]
      refine ev_p (by simp; omega) (ev_p (by omega) (ev_p (by simp; omega) ?_))
      rw [rdIIA hi, rdIIA (by omega)]
      refine Ev.bind (eqIntS_ev x y (hy x (by simp))) ?_
      refine ev_ite (fun hxy => ?_) (fun hxy => ?_)
      · obtain rfl := of_decide_eq_true hxy
        rw [w64 (by omega) (by omega), appA, appA (p := q)]
        refine ev_eq (ih s (p ++ [x]) (q ++ [x]) (i + 1) (by simp; omega) (by simp; omega) (by omega) (by simp; omega) (fun y h => hy y (by simp [h]))) ?_
        simp
      · refine ev_eq (Ev.now false) ?_
        have hxy' : ¬ x = y := fun e => hxy (decide_eq_true e)
        simp [hxy']
theorem eqIntSS_ev (a b : List (List Int)) (h : a.length ≤ 9223372036854775807) (hy : ∀ y ∈ a, y.length ≤ 9223372036854775807) : Ev (fun k => laws_eqIntSS.f k a b) (decide (a = b)) := by
  unfold laws_eqIntSS.f
  refine ev_ite (fun hl => ?_) (fun hl => ?_)
  · exact eqIntSS_l0 a b [] [] 0 rfl rfl (by omega) (by simpa using h) hy
  · refine ev_eq (Ev.now false) ?_
    symm
    apply decide_eq_false
    rintro rfl
    exact hl rfl

/-! #### FnExactEqualGates -/
theorem FnExactEqualGates (a0_0 : Int) (l0_1 : (List (S151))) (l0_2 : (List Int)) : I64 a0_0 → (l0_1.length ≤ 9223372036854775807 ∧ ∀ y2 ∈ l0_1, I64 y2.f0 ∧ I64 y2.f1 ∧ I64 y2.f2) → (l0_2.length ≤ 9223372036854775807 ∧ ∀ y2 ∈ l0_2, I64 y2) → ∃ k, laws_FnExactEqualGates.f k a0_0 l0_1 l0_2 = some true := by
  rintro hn ⟨hg, _⟩ ⟨ho, _⟩
  apply ev_get
  obtain ⟨t, ht, hq⟩ := szCircuit_eq a0_0 l0_1 l0_2 hg ho
  unfold laws_FnExactEqualGates.f
  rw [ht]
  refine Ev.bind (ev_c rfl) (ev_ite (fun _ => Ev.now _) (fun h => ?_))
  obtain ⟨hg2, ho2⟩ := hq h
  have hto := toCircuit_ev a0_0 l0_1 l0_2 hg2 ho2
  have hgm : (l0_1.map cvGate).length ≤ 1048576 := by simpa using hg2
  have heq := eqCircuit_self a0_0 (l0_1.map cvGate) l0_2 (by omega) (by omega)
  have hs := spec_EqualGates_ev a0_0 (l0_1.map cvGate) l0_2 hn hgm ho2
  have hi := impl_EqualGates_ev a0_0 (l0_1.map cvGate) l0_2 hgm ho2
  obtain ⟨hR1, hR2⟩ := equalGatesM_length a0_0 (l0_1.map cvGate) l0_2
  generalize equalGatesM a0_0 (l0_1.map cvGate) l0_2 = R at hs hi hR1 hR2
  have heqR : Ev (fun k => laws_eqIntSS.f k R.1 R.1) true := by simpa using eqIntSS_ev R.1 R.1 (by omega) (fun y h => by have := hR2 y h; omega)
  have hmr := markIntSS_ev R.1 (by omega) (fun y h => by have := hR2 y h; omega)
  have hhr := heldIntSS_ev R.1 (by omega) (fun y h => by have := hR2 y h; omega)
  obtain ⟨m, u, v, hm0, _, hmc⟩ := markCircuit_ev a0_0 (l0_1.map cvGate) l0_2 hgm ho2
  repeat (first
    | (with_reducible exact Ev.now _)
    | (with_reducible refine Ev.bind hto ?_)
    | (with_reducible refine Ev.bind hs ?_)
    | (with_reducible refine Ev.bind hi ?_)
    | (with_reducible refine Ev.bind heq ?_)
    | (with_reducible refine Ev.bind heqR ?_)
    | (with_reducible refine Ev.bind hmr ?_)
    | (with_reducible refine Ev.bind hhr ?_)
    | (with_reducible refine Ev.bind hmc ?_)
    | (with_reducible refine ev_p rfl ?_)
    | (with_reducible refine ev_p True.intro ?_)
    | (refine ev_n ?h ?_; case h => (first | omega | (simp; done) | (simp; omega))))

end Go.Proofs.Ytnldkpljchkkbaa.Pure
