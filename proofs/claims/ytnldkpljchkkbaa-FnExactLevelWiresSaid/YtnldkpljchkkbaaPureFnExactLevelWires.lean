/- The pure part of the law FnExactLevelWires: what the program and the reference compute is the same, for all arguments. Conditions: the numbers are of Go's int, the lengths of slices are. -/
import Derived.Test.YtnldkpljchkkbaaWalkFnExactLevelWires
import Derived.Test.YtnldkpljchkkbaaVLWKit
set_option linter.unusedVariables false
set_option linter.unusedSimpArgs false
namespace Go.Proofs.Ytnldkpljchkkbaa.Pure
open Go.RowKit Go.Proofs.Ytnldkpljchkkbaa.QFnExactLevelWires Go.Proofs.YtnldkpljchkkbaaW.PrintWords Go.Proofs.YtnldkpljchkkbaaW.PrintLast Go.Proofs.Ytnldkpljchkkbaa.Open Go.Proofs.Ytnldkpljchkkbaa.Kit

/-! #### szIntS -/
theorem szIntS_eq (l : List Int) (a : Int) (ha : 0 ≤ a) (ha2 : a ≤ 1048576) (hl : l.length ≤ 9223372036854775807) : laws_szIntS.f l a = some (if l.length ≤ a then a - l.length else -1) := by
  unfold laws_szIntS.f
  rw [w64 (by omega) (by omega)]
  by_cases h : (l.length : Int) ≤ a
  · rw [if_neg (by omega), if_pos h]
  · rw [if_pos (by omega), if_neg h]

/-! #### szCircuit -/
theorem szGateS_eq (l : List S151) (a : Int) (ha : 0 ≤ a) (ha2 : a ≤ 1048576) (hl : l.length ≤ 9223372036854775807) : laws_szGateS.f l a = some (if l.length ≤ a then a - l.length else -1) := by
  unfold laws_szGateS.f
  rw [w64 (by omega) (by omega)]
  by_cases h : (l.length : Int) ≤ a
  · rw [if_neg (by omega), if_pos h]
  · rw [if_pos (by omega), if_neg h]
theorem szCircuit_eq (n : Int) (gs : List S151) (os : List Int) (hg : gs.length ≤ 9223372036854775807) (ho : os.length ≤ 9223372036854775807) :
    ∃ t, laws_szCircuit.f n gs os 1048576 = some t ∧ (¬ t < 0 → gs.length ≤ 1048576 ∧ os.length ≤ 1048576) := by
  unfold laws_szCircuit.f
  rw [szGateS_eq gs 1048576 (by omega) (by omega) hg, Option.bind_some]
  by_cases h : (gs.length : Int) ≤ 1048576
  · rw [if_pos h, if_neg (by omega), szIntS_eq os _ (by omega) (by omega) ho, Option.bind_some]
    by_cases h2 : (os.length : Int) ≤ 1048576 - gs.length
    · rw [if_pos h2, if_neg (by omega)]
      exact ⟨_, rfl, fun _ => by omega⟩
    · rw [if_neg h2, if_pos (by decide)]
      exact ⟨_, rfl, fun h => absurd (by decide) h⟩
  · rw [if_neg h, if_pos (by decide)]
    exact ⟨_, rfl, fun h => absurd (by decide) h⟩

/-! #### gateT -/
theorem rdLGateA {p r : List S151} {x : S151} {i : Int} (hi : i = p.length) : rd_T151 (p ++ x :: r) i = x := getDA hi
theorem rdGateA {p r : List S111} {x : S111} {i : Int} (hi : i = p.length) : rd_T111 (p ++ x :: r) i = x := getDA hi
/-- A gate of the laws as one of the program. -/
def cvGate (x : S151) : S111 := ⟨x.f0, x.f1, x.f2⟩

/-! #### toGateS -/
theorem toGateS_l0 (r : List S151) : ∀ (p : List S151) (z : List S111) (i : Int), i = p.length → z.length = r.length → p.length + r.length ≤ 9223372036854775806 →
    Ev (fun k => laws_toGateS.l0 k (p ++ r) (p.map cvGate ++ z) i) ((p ++ r).map cvGate) := by
  induction r with
  | nil =>
    intro p z i hi hz hb
    obtain rfl : z = [] := List.length_eq_zero_iff.1 hz
    apply ev_up
    simp only [laws_toGateS.l0]
    refine ev_n (by simp; omega) ?_
    simpa using Ev.now (p.map cvGate)
  | cons x r ih =>
    intro p z i hi hz hb
    match z, hz with
    | y :: z, hz =>
      simp only [List.length_cons] at hz hb
      apply ev_up
      simp only [laws_toGateS.l0]
      refine ev_p (by simp; omega) (ev_p (by omega) ?_)
      rw [rdLGateA hi]
      refine Ev.bind (ev_c (show laws_toGate.f x.f0 x.f1 x.f2 = some (x.f0, x.f1, x.f2) from rfl)) (ev_p (by simp; omega) ?_)
      rw [setA (by simpa using hi), w64 (by omega) (by omega), appA]
      have := ih (p ++ [x]) z (i + 1) (by simp; omega) (by omega) (by simp; omega)
      simpa [cvGate] using this
theorem toGateS_ev (a : List S151) (h : a.length ≤ 1048576) : Ev (fun k => laws_toGateS.f k a) (a.map cvGate) := by
  unfold laws_toGateS.f
  refine ev_p (by omega) (ev_p (by omega) ?_)
  exact toGateS_l0 a [] (List.replicate ((a.length : Int)).toNat z111) 0 rfl (by simp) (by simp; omega)

/-! #### toIntS -/
theorem toIntS_l0 (r : List Int) : ∀ (p z : List Int) (i : Int), i = p.length → z.length = r.length → p.length + r.length ≤ 9223372036854775806 →
    Ev (fun k => laws_toIntS.l0 k (p ++ r) (p ++ z) i) (p ++ r) := by
  induction r with
  | nil =>
    intro p z i hi hz hb
    obtain rfl : z = [] := List.length_eq_zero_iff.1 hz
    apply ev_up
    simp only [laws_toIntS.l0]
    refine ev_n (by simp; omega) ?_
    exact Ev.now _
  | cons x r ih =>
    intro p z i hi hz hb
    match z, hz with
    | y :: z, hz =>
      simp only [List.length_cons] at hz hb
      apply ev_up
      simp only [laws_toIntS.l0]
      refine ev_p (by simp; omega) (ev_p (by omega) (ev_p (by simp; omega) ?_))
      rw [rdA hi, setA hi, w64 (by omega) (by omega), appA]
      exact ih (p ++ [x]) z (i + 1) (by simp; omega) (by omega) (by simp; omega)
theorem toIntS_ev (a : List Int) (h : a.length ≤ 35184372088832) : Ev (fun k => laws_toIntS.f k a) a := by
  unfold laws_toIntS.f
  refine ev_p (by omega) (ev_p (by omega) ?_)
  exact toIntS_l0 a [] (List.replicate ((a.length : Int)).toNat 0) 0 rfl (by simp) (by simp; omega)
/-! #### toCircuit -/
theorem toCircuit_ev (n : Int) (gs : List S151) (os : List Int) (hg : gs.length ≤ 1048576) (ho : os.length ≤ 1048576) : Ev (fun k => laws_toCircuit.f k n gs os) (n, gs.map cvGate, os) := by
  unfold laws_toCircuit.f
  exact Ev.bind (toGateS_ev gs hg) (Ev.bind (toIntS_ev os (by omega)) (Ev.now _))

/-! #### eqGateS -/
theorem eqGateS_l0 (r : List S111) : ∀ (p : List S111) (i : Int), i = p.length → p.length + r.length ≤ 9223372036854775807 →
    Ev (fun k => laws_eqGateS.l0 k (p ++ r) (p ++ r) i) true := by
  induction r with
  | nil =>
    intro p i hi hb
    apply ev_up
    simp only [laws_eqGateS.l0]
    exact ev_n (by simp; omega) (Ev.now true)
  | cons x r ih =>
    intro p i hi hb
    simp only [List.length_cons] at hb
    apply ev_up
    simp only [laws_eqGateS.l0]
    refine ev_p (by simp; omega) (ev_p (by omega) (ev_p (by simp; omega) ?_))
    rw [rdGateA hi]
    refine Ev.bind (ev_c (show laws_eqGate.f x.f0 x.f1 x.f2 x.f0 x.f1 x.f2 = some true by unfold laws_eqGate.f; rw [if_pos rfl, if_pos rfl, if_pos rfl])) (ev_p rfl ?_)
    rw [w64 (by omega) (by omega), appA]
    exact ih (p ++ [x]) (i + 1) (by simp; omega) (by simp; omega)
theorem eqGateS_self (a : List S111) (h : a.length ≤ 9223372036854775807) : Ev (fun k => laws_eqGateS.f k a a) true := by
  unfold laws_eqGateS.f
  exact ev_p rfl (eqGateS_l0 a [] 0 rfl (by simpa using h))

/-! #### eqIntS -/
theorem eqIntS_l0 (r : List Int) : ∀ (s p q : List Int) (i : Int), i = p.length → p.length = q.length → r.length = s.length → p.length + r.length ≤ 9223372036854775807 →
    Ev (fun k => laws_eqIntS.l0 k (p ++ r) (q ++ s) i) (decide (r = s)) := by
  induction r with
  | nil =>
    intro s p q i hi hpq hrs hb
    obtain rfl : s = [] := List.length_eq_zero_iff.1 hrs.symm
    apply ev_up
    simp only [laws_eqIntS.l0]
    refine ev_n (by simp; omega) ?_
    simpa using Ev.now true
  | cons x r ih =>
    intro s p q i hi hpq hrs hb
    match s, hrs with
    | y :: s, hrs =>
      simp only [List.length_cons] at hrs hb
      apply ev_up
      simp only [laws_eqIntS.l0]
      refine ev_p (by simp; omega) (ev_p (by omega) (ev_p (by simp; omega) ?_))
      rw [rdA hi, rdA (by omega)]
      refine ev_ite (fun hxy => ?_) (fun hxy => ?_)
      · subst hxy
        rw [w64 (by omega) (by omega), appA, appA (p := q)]
        refine ev_eq (ih s (p ++ [x]) (q ++ [x]) (i + 1) (by simp; omega) (by simp; omega) (by omega) (by simp; omega)) ?_
        simp
      · refine ev_eq (Ev.now false) ?_
        simp [hxy]
theorem eqIntS_ev (a b : List Int) (h : a.length ≤ 9223372036854775807) : Ev (fun k => laws_eqIntS.f k a b) (decide (a = b)) := by
  unfold laws_eqIntS.f
  refine ev_ite (fun hl => ?_) (fun hl => ?_)
  · exact eqIntS_l0 a b [] [] 0 rfl rfl (by omega) (by simpa using h)
  · refine ev_eq (Ev.now false) ?_
    symm
    apply decide_eq_false
    rintro rfl
    exact hl rfl

/-! #### eqCircuit -/
theorem eqCircuit_self (n : Int) (gs : List S111) (os : List Int) (hg : gs.length ≤ 9223372036854775807) (ho : os.length ≤ 9223372036854775807) : Ev (fun k => laws_eqCircuit.f k n gs os n gs os) true := by
  unfold laws_eqCircuit.f
  have heq : Ev (fun k => laws_eqIntS.f k os os) true := by simpa using eqIntS_ev os os ho
  exact ev_p rfl (Ev.bind (eqGateS_self gs hg) (ev_p rfl (Ev.bind heq (ev_p rfl (Ev.now _)))))

/-! #### l1In -/
theorem l1In_eq (a b c : Int) : spec_l1In.f a b c = some (decide (b ≤ a ∧ a ≤ c)) := by
  unfold spec_l1In.f
  by_cases h : b ≤ a
  · rw [if_pos h]; simp [h]
  · rw [if_neg h]; simp [h]

/-! #### l1All -/
def inB (a b : Int) (x : Int) : Bool := decide (a ≤ x ∧ x ≤ b)
theorem l1All_l0 (l : List Int) (a b : Int) (hl : l.length ≤ 9223372036854775807) (r : List Int) : ∀ (p : List Int) (i : Int), i = p.length → l = p ++ r →
    Ev (fun k => spec_l1All.l0 k a b l l.length i) (r.all (inB a b)) := by
  induction r with
  | nil =>
    intro p i hi e
    have hlen : l.length = p.length := by rw [e]; simp
    apply ev_up
    simp only [spec_l1All.l0]
    exact ev_n (by omega) (Ev.now _)
  | cons x r ih =>
    intro p i hi e
    have hlen : l.length = p.length + r.length + 1 := by rw [e]; simp; omega
    have hx : rd l i = x := by rw [e]; exact rdA hi
    have ih' := ih (p ++ [x]) (i + 1) (by simp; omega) (by rw [e]; simp)
    apply ev_up
    simp only [spec_l1All.l0]
    refine ev_p (by omega) (ev_p (by omega) (ev_p (by omega) ?_))
    rw [hx, l1In_eq]
    refine Ev.bind (ev_c rfl) ?_
    refine ev_ite (fun h => ?_) (fun h => ?_)
    · rw [w64 (by omega) (by omega)]
      refine ev_eq ih' ?_
      rw [List.all_cons, show inB a b x = true from h, Bool.true_and]
    · refine ev_eq (Ev.now _) ?_
      rw [List.all_cons, show inB a b x = false from decide_eq_false (fun hh => h (decide_eq_true hh)), Bool.false_and]
theorem l1All_ev (l : List Int) (a b : Int) (hl : l.length ≤ 9223372036854775807) : Ev (fun k => spec_l1All.f k l a b) (l.all (inB a b)) := by
  unfold spec_l1All.f
  exact l1All_l0 l a b hl l [] 0 rfl rfl

/-! #### ttInputs -/
theorem ttInputs_eq (a : Int) : spec_ttInputs.f a = some (decide (0 ≤ a ∧ a ≤ 4)) := by
  unfold spec_ttInputs.f
  rw [l1In_eq, Option.bind_some]

/-! #### circuitM -/
/-- A gate is good where there are w wires before it. -/
def gateOk (w : Int) (g : S111) : Bool := decide (1 ≤ g.f0 ∧ g.f0 ≤ 4 ∧ 0 ≤ g.f1 ∧ g.f1 < w ∧ 0 ≤ g.f2 ∧ g.f2 < w ∧ (g.f0 = 4 → g.f1 = g.f2))
def gatesOk (w : Int) : List S111 → Bool
  | [] => true
  | g :: r => gateOk w g && gatesOk (w + 1) r
def circuitM (n : Int) (gs : List S111) (os : List Int) : Bool := decide (0 ≤ n ∧ n ≤ 4 ∧ gs.length ≤ 16 ∧ 1 ≤ os.length ∧ os.length ≤ 4) && (gatesOk n gs && os.all (inB 0 (n + gs.length - 1)))

/-! #### gatesOkI -/
theorem circuitM_of {n : Int} {gs : List S111} {os : List Int} (h : circuitM n gs os = true) :
    ∃ a : Nat, n = a ∧ a ≤ 4 ∧ gs.length ≤ 16 ∧ 1 ≤ os.length ∧ os.length ≤ 4 ∧ gatesOk n gs = true ∧ ∀ o ∈ os, 0 ≤ o ∧ o < n + gs.length := by
  unfold circuitM at h
  rw [Bool.and_eq_true, Bool.and_eq_true, List.all_eq_true] at h
  obtain ⟨h1, h2, h3⟩ := h
  obtain ⟨h4, h5, h6, h7, h8⟩ := of_decide_eq_true h1
  obtain ⟨a, rfl⟩ := nat_of h4
  refine ⟨a, rfl, by omega, h6, h7, h8, h2, fun o ho => ?_⟩
  have := of_decide_eq_true (h3 o ho)
  omega

/-! #### rdMem -/
theorem rd_mem {ds : List Int} {i : Int} (h0 : 0 ≤ i) (h1 : i < ds.length) : rd ds i ∈ ds := by
  obtain ⟨n, rfl⟩ := nat_of h0
  have hn : n < ds.length := by omega
  rw [rdN hn]
  exact List.getElem_mem hn


/-! #### depthsM -/
def depthsM : List Int → List S111 → List Int
  | ds, [] => ds
  | ds, g :: r => depthsM (ds ++ [1 + (if rd ds g.f1 < rd ds g.f2 then rd ds g.f2 else rd ds g.f1)]) r
theorem depthsM_length (r : List S111) : ∀ ds, (depthsM ds r).length = ds.length + r.length := by
  induction r with
  | nil => intro ds; rfl
  | cons g r ih =>
    intro ds
    rw [depthsM, ih]
    simp
    omega

/-! #### rdII -/
theorem rdIIA {p r : List (List Int)} {x : List Int} {i : Int} (hi : i = p.length) : rd_L3 (p ++ x :: r) i = x := getDA hi

/-! #### levelsM -/
/-- A wire put into level d; levels are made up to d. -/
def lvPut (o : List (List Int)) (d : Nat) (v : Int) : List (List Int) := (o ++ List.replicate (d + 1 - o.length) []).set d ((o ++ List.replicate (d + 1 - o.length) []).getD d [] ++ [v])
def lvAll (a : Int) : List Int → Nat → List (List Int) → List (List Int)
  | [], _, o => o
  | d :: r, i, o => lvAll a r (i + 1) (lvPut o d.toNat (a + i))
def levelsM (a : Nat) (gs : List S111) : List (List Int) := lvAll a ((depthsM (List.replicate a 0) gs).drop a) 0 [seqFrom 0 a]
theorem lvPut_more {o : List (List Int)} {d : Nat} (v : Int) (h : o.length ≤ d) : lvPut (o ++ [[]]) d v = lvPut o d v := by
  have e : (o ++ [[]]) ++ List.replicate (d + 1 - (o ++ [[]]).length) [] = o ++ List.replicate (d + 1 - o.length) ([] : List Int) := by
    rw [List.append_assoc, show d + 1 - o.length = (d + 1 - (o ++ [[]]).length) + 1 by simp; omega, List.replicate_succ]
    rfl
  unfold lvPut
  rw [e]
theorem lvPut_now {o : List (List Int)} {d : Nat} (v : Int) (h : d < o.length) : lvPut o d v = o.set d (o.getD d [] ++ [v]) := by
  unfold lvPut
  rw [show d + 1 - o.length = 0 by omega, List.replicate_zero, List.append_nil]
theorem lvPut_ok {o : List (List Int)} {d m : Nat} (v : Int) (h1 : o.length ≤ 40) (hd : d < 40) (h2 : ∀ y ∈ o, y.length ≤ m) : (lvPut o d v).length ≤ 40 ∧ ∀ y ∈ lvPut o d v, y.length ≤ m + 1 := by
  have h3 : ∀ y ∈ o ++ List.replicate (d + 1 - o.length) ([] : List Int), y.length ≤ m := fun y hy => by
    rcases List.mem_append.1 hy with hy | hy
    · exact h2 y hy
    · rw [(List.mem_replicate.1 hy).2]; simp
  unfold lvPut
  refine ⟨by simp; omega, fun y hy => ?_⟩
  rcases List.mem_or_eq_of_mem_set hy with hy | hy
  · have := h3 y hy; omega
  · subst hy
    rw [List.length_append, List.length_singleton]
    have h4 : ((o ++ List.replicate (d + 1 - o.length) ([] : List Int)).getD d []).length ≤ m := by
      rw [List.getD_eq_getElem?_getD]
      cases hq : (o ++ List.replicate (d + 1 - o.length) ([] : List Int))[d]? with
      | none => simp
      | some z => exact h3 z (List.mem_of_getElem? hq)
    omega
theorem lvAll_ok (a : Int) (r : List Int) : ∀ (i m : Nat) (o : List (List Int)), o.length ≤ 40 → (∀ y ∈ o, y.length ≤ m) → (∀ x ∈ r, 0 ≤ x ∧ x < 40) → (lvAll a r i o).length ≤ 40 ∧ ∀ y ∈ lvAll a r i o, y.length ≤ m + r.length := by
  induction r with
  | nil => intro i m o h1 h2 _; exact ⟨h1, h2⟩
  | cons d r ih =>
    intro i m o h1 h2 h3
    have hd := h3 d (by simp)
    obtain ⟨h4, h5⟩ := lvPut_ok (a + i) h1 (show d.toNat < 40 by omega) h2
    obtain ⟨h6, h7⟩ := ih (i + 1) (m + 1) _ h4 h5 (fun x hx => h3 x (by simp [hx]))
    rw [lvAll, List.length_cons]
    exact ⟨h6, fun y hy => by have := h7 y hy; omega⟩
theorem rd_or (ds : List Int) (i : Int) : rd ds i ∈ ds ∨ rd ds i = 0 := by
  unfold rd
  rw [List.getD_eq_getElem?_getD]
  cases h : ds[i.toNat]? with
  | none => right; rfl
  | some x => left; exact List.mem_of_getElem? h
theorem depthsM_bound (r : List S111) : ∀ (ds : List Int) (N : Int), 0 ≤ N → (∀ x ∈ ds, 0 ≤ x ∧ x ≤ N) → ∀ x ∈ depthsM ds r, 0 ≤ x ∧ x ≤ N + r.length := by
  induction r with
  | nil => intro ds N _ h x hx; have := h x hx; simp; omega
  | cons g r ih =>
    intro ds N hN h x hx
    rw [depthsM] at hx
    have hr : ∀ i, 0 ≤ rd ds i ∧ rd ds i ≤ N := fun i => by
      rcases rd_or ds i with hh | hh
      · exact h _ hh
      · rw [hh]; omega
    have h1 := hr g.f1
    have h2 := hr g.f2
    have := ih _ (N + 1) (by omega) (fun y hy => by
      rcases List.mem_append.1 hy with hy | hy
      · have := h y hy; omega
      · rw [List.mem_singleton] at hy
        subst hy
        split <;> omega) x hx
    rw [List.length_cons]
    omega
theorem depths_drop {a : Nat} {gs : List S111} (hg : gs.length ≤ 16) : ∀ x ∈ (depthsM (List.replicate a 0) gs).drop a, 0 ≤ x ∧ x < 40 := fun x hx => by
  have := depthsM_bound gs (List.replicate a 0) 0 (by omega) (fun y hy => by rw [(List.mem_replicate.1 hy).2]; omega) x (List.mem_of_mem_drop hx)
  omega
theorem depths_drop_len (a : Nat) (gs : List S111) : ((depthsM (List.replicate a 0) gs).drop a).length = gs.length := by
  rw [List.length_drop, depthsM_length, List.length_replicate]; omega
theorem levelsM_ok {a : Nat} {gs : List S111} (ha : a ≤ 4) (hg : gs.length ≤ 16) : (levelsM a gs).length ≤ 40 ∧ ∀ y ∈ levelsM a gs, y.length ≤ 20 := by
  obtain ⟨h1, h2⟩ := lvAll_ok a ((depthsM (List.replicate a 0) gs).drop a) 0 4 [seqFrom 0 a] (by simp) (fun y hy => by rw [List.mem_singleton] at hy; rw [hy, seqFrom_length]; exact ha) (depths_drop hg)
  refine ⟨h1, fun y hy => ?_⟩
  have := h2 y hy
  rw [depths_drop_len] at this
  omega
theorem seqFrom_snoc (s : Int) (n : Nat) : seqFrom s n ++ [s + n] = seqFrom s (n + 1) := by
  induction n generalizing s with
  | zero => simp [seqFrom]
  | succ n ih =>
    rw [seqFrom, List.cons_append, show s + ((n + 1 : Nat) : Int) = (s + 1) + (n : Int) by omega, ih (s + 1)]
    rfl

/-! #### slices_Index -/
/-- The first place of v, from i on, or -1. -/
def placeM (v : Int) : Int → List Int → Int
  | _, [] => -1
  | i, x :: r => if v = x then i else placeM v (i + 1) r
theorem placeM_mem (v : Int) (r : List Int) : ∀ i, 0 ≤ i → (0 ≤ placeM v i r ↔ v ∈ r) := by
  induction r with
  | nil => intro i _; simp [placeM]
  | cons x r ih =>
    intro i hi
    rw [placeM]
    by_cases h : v = x
    · rw [if_pos h, h]
      simp [hi]
    · rw [if_neg h, ih (i + 1) (by omega)]
      simp [h]
theorem slices_Index_l0 (l : List Int) (v : Int) (hl : l.length ≤ 1048576) (r : List Int) : ∀ (p : List Int) (i : Int), i = p.length → l = p ++ r →
    Ev (fun k => slices_Index_int_int.l0 k l v l.length i) (placeM v i r) := by
  induction r with
  | nil =>
    intro p i hi e
    have hlen : l.length = p.length := by rw [e]; simp
    apply ev_up
    simp only [slices_Index_int_int.l0]
    exact ev_n (by omega) (Ev.now _)
  | cons x r ih =>
    intro p i hi e
    have hlen : l.length = p.length + r.length + 1 := by rw [e]; simp; omega
    have hx : rd l i = x := by rw [e]; exact rdA hi
    apply ev_up
    simp only [slices_Index_int_int.l0]
    refine ev_p (by omega) (ev_p (by omega) (ev_p (by omega) ?_))
    rw [hx, w64 (n := i + 1) (by omega) (by omega), placeM]
    refine ev_ite (fun h => ?_) (fun h => ?_)
    · rw [if_pos h]
      exact Ev.now _
    · rw [if_neg h]
      exact ih (p ++ [x]) (i + 1) (by simp; omega) (by rw [e]; simp)
theorem slices_Index_ev (l : List Int) (v : Int) (hl : l.length ≤ 1048576) : Ev (fun k => slices_Index_int_int.f k l v) (placeM v 0 l) := by
  unfold slices_Index_int_int.f
  exact slices_Index_l0 l v hl l [] 0 rfl rfl

/-! #### lwM -/
def lwEnds (g : S111) : List Int := if g.f0 = 4 then [g.f1] else [g.f1, g.f2]
theorem lwEnds_length (g : S111) : (lwEnds g).length ≤ 2 := by unfold lwEnds; split <;> simp
def lwIn (row0 : List Int) (pl : Int) : List Int → List (List Int) → List (List Int)
  | [], acc => acc
  | e :: r, acc => lwIn row0 pl r (if placeM e 0 row0 ≥ 0 then acc ++ [[placeM e 0 row0, pl]] else acc)
theorem lwIn_length (row0 : List Int) (pl : Int) (r : List Int) : ∀ acc, (lwIn row0 pl r acc).length ≤ acc.length + r.length := by
  induction r with
  | nil => intro acc; exact Nat.le_refl _
  | cons e r ih =>
    intro acc
    have h1 := ih (if placeM e 0 row0 ≥ 0 then acc ++ [[placeM e 0 row0, pl]] else acc)
    have h2 : (if placeM e 0 row0 ≥ 0 then acc ++ [[placeM e 0 row0, pl]] else acc).length ≤ acc.length + 1 := by split <;> simp
    rw [lwIn, List.length_cons]
    omega
theorem lwIn_rows (row0 : List Int) (pl : Int) (r : List Int) : ∀ acc, (∀ y ∈ acc, y.length = 2) → ∀ y ∈ lwIn row0 pl r acc, y.length = 2 := by
  induction r with
  | nil => intro acc h; exact h
  | cons e r ih =>
    intro acc h
    rw [lwIn]
    refine ih _ ?_
    split
    · intro y hy
      rcases List.mem_append.1 hy with hy | hy
      · exact h y hy
      · rw [List.mem_singleton] at hy; rw [hy]; rfl
    · exact h
def lwOut (a : Nat) (gs : List S111) (row0 : List Int) : List Int → Nat → List (List Int) → List (List Int)
  | [], _, acc => acc
  | w :: r, i, acc => lwOut a gs row0 r (i + 1) (lwIn row0 i (lwEnds (rd_T111 gs (w - a))) acc)
theorem lwOut_length (a : Nat) (gs : List S111) (row0 r : List Int) : ∀ i acc, (lwOut a gs row0 r i acc).length ≤ acc.length + 2 * r.length := by
  induction r with
  | nil => intro i acc; exact Nat.le_refl _
  | cons w r ih =>
    intro i acc
    have h1 := ih (i + 1) (lwIn row0 i (lwEnds (rd_T111 gs (w - a))) acc)
    have h2 := lwIn_length row0 i (lwEnds (rd_T111 gs (w - a))) acc
    have h3 := lwEnds_length (rd_T111 gs (w - a))
    rw [lwOut, List.length_cons]
    omega
theorem lwOut_rows (a : Nat) (gs : List S111) (row0 r : List Int) : ∀ i acc, (∀ y ∈ acc, y.length = 2) → ∀ y ∈ lwOut a gs row0 r i acc, y.length = 2 := by
  induction r with
  | nil => intro i acc h; exact h
  | cons w r ih =>
    intro i acc h
    rw [lwOut]
    exact ih _ _ (lwIn_rows _ _ _ _ h)
theorem lvPut_getD (o : List (List Int)) (d : Nat) (v : Int) (e : Nat) : (lvPut o d v).getD e [] = if e = d then o.getD e [] ++ [v] else o.getD e [] := by
  have hpad : ∀ e, (o ++ List.replicate (d + 1 - o.length) ([] : List Int)).getD e [] = o.getD e [] := by
    intro e
    rw [List.getD_eq_getElem?_getD, List.getD_eq_getElem?_getD]
    by_cases h : e < o.length
    · rw [List.getElem?_append_left h]
    · rw [List.getElem?_append_right (by omega), List.getElem?_eq_none (by omega : o.length ≤ e)]
      cases hq : (List.replicate (d + 1 - o.length) ([] : List Int))[e - o.length]? with
      | none => rfl
      | some z => rw [(List.mem_replicate.1 (List.mem_of_getElem? hq)).2]; rfl
  unfold lvPut
  rw [List.getD_eq_getElem?_getD, List.getElem?_set]
  by_cases h : d = e
  · subst h
    rw [if_pos rfl, if_pos rfl, if_pos (by simp; omega), Option.getD_some, hpad]
  · rw [if_neg h, if_neg (fun hh => h hh.symm), ← List.getD_eq_getElem?_getD, hpad]
theorem lvAll_in (a : Int) (e : Nat) (r : List Int) : ∀ (i : Nat) (o : List (List Int)), (∀ y ∈ o.getD e [], a ≤ y ∧ y < a + i) → ∀ y ∈ (lvAll a r i o).getD e [], a ≤ y ∧ y < a + (i + r.length) := by
  induction r with
  | nil => intro i o h y hy; have := h y hy; simp; omega
  | cons d r ih =>
    intro i o h y hy
    rw [lvAll] at hy
    have := ih (i + 1) (lvPut o d.toNat (a + i)) (fun z hz => by
      rw [lvPut_getD] at hz
      split at hz
      · rcases List.mem_append.1 hz with hz | hz
        · have := h z hz; omega
        · rw [List.mem_singleton] at hz; omega
      · have := h z hz; omega) y hy
    rw [List.length_cons]
    omega
theorem levelsM_in {a : Nat} {gs : List S111} (e : Nat) : ∀ y ∈ (levelsM a gs).getD (e + 1) [], (a : Int) ≤ y ∧ y < a + gs.length := by
  have := lvAll_in a (e + 1) ((depthsM (List.replicate a 0) gs).drop a) 0 [seqFrom 0 a] (fun y hy => by simp at hy)
  rw [depths_drop_len] at this
  unfold levelsM
  intro y hy
  have := this y hy
  omega
def levelWiresM (n : Int) (gs : List S111) (os : List Int) (kk : Int) : List (List Int) × Bool :=
  if circuitM n gs os = true ∧ 0 ≤ kk ∧ kk ≤ ((levelsM n.toNat gs).length : Int) - 2 then (lwOut n.toNat gs ((levelsM n.toNat gs).getD kk.toNat []) ((levelsM n.toNat gs).getD (kk.toNat + 1) []) 0 [], true) else ([], false)
theorem rows_getD {lv : List (List Int)} (h : ∀ y ∈ lv, y.length ≤ 20) (e : Nat) : (lv.getD e []).length ≤ 20 := by
  rw [List.getD_eq_getElem?_getD]
  cases hq : lv[e]? with
  | none => simp
  | some z => exact h z (List.mem_of_getElem? hq)
theorem levelWiresM_length (n : Int) (gs : List S111) (os : List Int) (kk : Int) : (levelWiresM n gs os kk).1.length ≤ 400 ∧ ∀ y ∈ (levelWiresM n gs os kk).1, y.length ≤ 20 := by
  unfold levelWiresM
  split
  · rename_i h
    obtain ⟨a, rfl, ha, hg, _⟩ := circuitM_of h.1
    obtain ⟨h1, h2⟩ := levelsM_ok ha hg
    simp only [Int.toNat_natCast]
    have h3 := rows_getD h2 (kk.toNat + 1)
    have h4 := lwOut_length a gs ((levelsM a gs).getD kk.toNat []) ((levelsM a gs).getD (kk.toNat + 1) []) 0 []
    simp only [List.length_nil] at h4
    exact ⟨by omega, fun y hy => by rw [lwOut_rows _ _ _ _ 0 [] (by simp) y hy]; omega⟩
  · simp

/-! #### spec_plPlace -/
theorem spec_plPlace_l0 (l : List Int) (v : Int) (hl : l.length ≤ 1048576) (r : List Int) : ∀ (p : List Int) (i : Int), i = p.length → l = p ++ r →
    Ev (fun k => spec_plPlace.l0 k v l l.length i) (placeM v i r) := by
  induction r with
  | nil =>
    intro p i hi e
    have hlen : l.length = p.length := by rw [e]; simp
    apply ev_up
    simp only [spec_plPlace.l0]
    exact ev_n (by omega) (Ev.now _)
  | cons x r ih =>
    intro p i hi e
    have hlen : l.length = p.length + r.length + 1 := by rw [e]; simp; omega
    have hx : rd l i = x := by rw [e]; exact rdA hi
    apply ev_up
    simp only [spec_plPlace.l0]
    refine ev_p (by omega) (ev_p (by omega) (ev_p (by omega) ?_))
    rw [hx, w64 (n := i + 1) (by omega) (by omega), placeM]
    refine ev_ite (fun h => ?_) (fun h => ?_)
    · rw [if_pos h.symm]
      exact Ev.now _
    · rw [if_neg (fun hh => h hh.symm)]
      exact ih (p ++ [x]) (i + 1) (by simp; omega) (by rw [e]; simp)
theorem spec_plPlace_ev (l : List Int) (v : Int) (hl : l.length ≤ 1048576) : Ev (fun k => spec_plPlace.f k l v) (placeM v 0 l) := by
  unfold spec_plPlace.f
  exact spec_plPlace_l0 l v hl l [] 0 rfl rfl

/-! #### spec_ciGood -/
theorem spec_ciGood_end (n : Int) (gs : List S111) (os : List Int) (hn : I64 n) (hg : gs.length ≤ 1048576) (ho : os.length ≤ 1048576) :
    Ev (fun k => (spec_ttInputs.f n).bind fun t108 => (if t108 = true then (if (gs.length : Int) ≤ 16 then ((spec_l1In.f (os.length : Int) 1 4).bind fun t109 => (if t109 = true then ((spec_l1All.f k os 0 (wrap64 ((wrap64 (n + (gs.length : Int))) - 1))).bind fun t110 => (some t110)) else (some false))) else (some false)) else (some false)))
      (decide (0 ≤ n ∧ n ≤ 4 ∧ gs.length ≤ 16 ∧ 1 ≤ os.length ∧ os.length ≤ 4) && os.all (inB 0 (n + gs.length - 1))) := by
  rw [ttInputs_eq, l1In_eq]
  refine Ev.bind (ev_c rfl) (ev_ite (fun h1 => ?_) (fun h1 => ?_))
  · have h1' := of_decide_eq_true h1
    refine ev_ite (fun h2 => ?_) (fun h2 => ?_)
    · refine Ev.bind (ev_c rfl) (ev_ite (fun h3 => ?_) (fun h3 => ?_))
      · have h3' := of_decide_eq_true h3
        rw [w64 (n := n + gs.length) (by omega) (by omega), w64 (by omega) (by omega), decide_eq_true (by omega), Bool.true_and]
        exact Ev.bind (l1All_ev os 0 _ (by omega)) (Ev.now _)
      · rw [decide_eq_false (fun hh => h3 (decide_eq_true (by omega))), Bool.false_and]
        exact Ev.now _
    · rw [decide_eq_false (by omega), Bool.false_and]
      exact Ev.now _
  · rw [decide_eq_false (fun hh => h1 (decide_eq_true (by omega))), Bool.false_and]
    exact Ev.now _
theorem spec_ciGood_l0 (n : Int) (gs : List S111) (os : List Int) (hn : I64 n) (hg : gs.length ≤ 1048576) (ho : os.length ≤ 1048576) (r : List S111) : ∀ (p : List S111) (i : Int), i = p.length → gs = p ++ r →
    Ev (fun k => spec_ciGood.l0 k gs gs.length i n gs os) (decide (0 ≤ n ∧ n ≤ 4 ∧ gs.length ≤ 16 ∧ 1 ≤ os.length ∧ os.length ≤ 4) && (gatesOk (n + i) r && os.all (inB 0 (n + gs.length - 1)))) := by
  have hn' := hn
  unfold I64 at hn'
  induction r with
  | nil =>
    intro p i hi e
    have hlen : gs.length = p.length := by rw [e]; simp
    apply ev_up
    simp only [spec_ciGood.l0]
    refine ev_n (by omega) ?_
    rw [gatesOk, Bool.true_and]
    exact spec_ciGood_end n gs os hn hg ho
  | cons x r ih =>
    intro p i hi e
    have hlen : gs.length = p.length + r.length + 1 := by rw [e]; simp; omega
    have hx : rd_T111 gs i = x := by rw [e]; exact rdGateA hi
    have ih' := ih (p ++ [x]) (i + 1) (by simp; omega) (by rw [e]; simp)
    apply ev_up
    simp only [spec_ciGood.l0]
    refine ev_p (by omega) (ev_p (by omega) (ev_p (by omega) ?_))
    rw [hx, w64 (n := i + 1) (by omega) (by omega)]
    simp only [l1In_eq]
    by_cases hv : 0 ≤ n ∧ n ≤ 4
    · rw [w64 (n := n + i) (by omega) (by omega), w64 (n := n + i - 1) (by omega) (by omega)]
      have no : gateOk (n + i) x = false → Ev (fun _ => some false) (decide (0 ≤ n ∧ n ≤ 4 ∧ gs.length ≤ 16 ∧ 1 ≤ os.length ∧ os.length ≤ 4) && (gatesOk (n + i) (x :: r) && os.all (inB 0 (n + gs.length - 1)))) := fun h => by
        rw [gatesOk, h, Bool.false_and, Bool.false_and, Bool.and_false]
        exact Ev.now _
      have yes : gateOk (n + i) x = true → Ev (fun k => spec_ciGood.l0 k gs gs.length (i + 1) n gs os) (decide (0 ≤ n ∧ n ≤ 4 ∧ gs.length ≤ 16 ∧ 1 ≤ os.length ∧ os.length ≤ 4) && (gatesOk (n + i) (x :: r) && os.all (inB 0 (n + gs.length - 1)))) := fun h => by
        rw [gatesOk, h, Bool.true_and, Int.add_assoc]
        exact ih'
      refine Ev.bind (ev_c rfl) (ev_ite (fun h1 => Ev.bind (ev_c rfl) (ev_ite (fun h2 => Ev.bind (ev_c rfl) (ev_ite (fun h3 => ev_ite (fun h4 => ev_ite (fun h5 => ?_) (fun h5 => ?_)) (fun h4 => ?_)) (fun h3 => ?_))) (fun h2 => ?_))) (fun h1 => ?_))
      · simp only [decide_eq_true_eq] at h1 h2 h3
        exact yes (decide_eq_true (by omega))
      · exact no (decide_eq_false (fun hh => h5 (hh.2.2.2.2.2.2 h4).symm))
      · simp only [decide_eq_true_eq] at h1 h2 h3
        exact yes (decide_eq_true (by omega))
      · simp only [decide_eq_true_eq] at h3
        exact no (decide_eq_false (by omega))
      · simp only [decide_eq_true_eq] at h2
        exact no (decide_eq_false (by omega))
      · simp only [decide_eq_true_eq] at h1
        exact no (decide_eq_false (by omega))
    · have ef : decide (0 ≤ n ∧ n ≤ 4 ∧ gs.length ≤ 16 ∧ 1 ≤ os.length ∧ os.length ≤ 4) = false := decide_eq_false (by omega)
      rw [ef, Bool.false_and] at ih' ⊢
      refine Ev.bind (ev_c rfl) (ev_ite (fun h1 => Ev.bind (ev_c rfl) (ev_ite (fun h2 => Ev.bind (ev_c rfl) (ev_ite (fun h3 => ev_ite (fun h4 => ev_ite (fun h5 => ih') (fun h5 => Ev.now _)) (fun h4 => ih')) (fun h3 => Ev.now _))) (fun h2 => Ev.now _))) (fun h1 => Ev.now _))
theorem spec_ciGood_ev (n : Int) (gs : List S111) (os : List Int) (hn : I64 n) (hg : gs.length ≤ 1048576) (ho : os.length ≤ 1048576) : Ev (fun k => spec_ciGood.f k n gs os) (circuitM n gs os) := by
  unfold spec_ciGood.f circuitM
  have := spec_ciGood_l0 n gs os hn hg ho gs [] 0 rfl rfl
  rwa [Int.add_zero] at this

/-! #### ciDepths -/
theorem l1MostD_eq (a b : Int) : spec_l1Most.f a b = some (if a < b then b else a) := by
  unfold spec_l1Most.f
  by_cases h : a > b
  · rw [if_pos h, if_neg (by omega)]
  · rw [if_neg h]
    by_cases h2 : a < b
    · rw [if_pos h2]
    · rw [if_neg h2]
      congr 1
      omega
theorem spec_ciDepths_l0 (a : Nat) (ha : a ≤ 4) (gs : List S111) (os : List Int) (hg : gs.length ≤ 16) (r : List S111) : ∀ (p : List S111) (ds : List Int) (i : Int), i = p.length → gs = p ++ r → (ds.length : Int) = a + i → gatesOk (a + i) r = true → (∀ x ∈ ds, 0 ≤ x ∧ x ≤ i) →
    Ev (fun k => spec_ciDepths.l0 k ds gs gs.length i a gs os) ((depthsM ds r).drop a) := by
  induction r with
  | nil =>
    intro p ds i hi e hd hk hb
    have hlen : gs.length = p.length := by rw [e]; simp
    apply ev_up
    simp only [spec_ciDepths.l0]
    refine ev_n (by omega) (ev_p (by omega) (ev_p (by omega) ?_))
    rw [Int.toNat_natCast]
    exact Ev.now _
  | cons x r ih =>
    intro p ds i hi e hd hk hb
    have hlen : gs.length = p.length + r.length + 1 := by rw [e]; simp; omega
    have hx : rd_T111 gs i = x := by rw [e]; exact rdGateA hi
    rw [gatesOk, Bool.and_eq_true] at hk
    have hk1 := of_decide_eq_true hk.1
    have b1 := hb _ (rd_mem (i := x.f1) (by omega) (by omega))
    have b2 := hb _ (rd_mem (i := x.f2) (by omega) (by omega))
    apply ev_up
    simp only [spec_ciDepths.l0]
    refine ev_p (by omega) (ev_p (by omega) (ev_p (by omega) ?_))
    rw [hx]
    refine ev_p (by omega) (ev_p (by omega) (ev_p (by omega) (ev_p (by omega) ?_)))
    rw [l1MostD_eq]
    refine Ev.bind (ev_c rfl) (ev_p (by omega) ?_)
    have hm : 0 ≤ (if rd ds x.f1 < rd ds x.f2 then rd ds x.f2 else rd ds x.f1) ∧ (if rd ds x.f1 < rd ds x.f2 then rd ds x.f2 else rd ds x.f1) ≤ i := by
      split <;> omega
    rw [w64 (n := i + 1) (by omega) (by omega), w64 (by omega) (by omega), depthsM]
    refine ih (p ++ [x]) _ (i + 1) (by simp; omega) (by rw [e]; simp) (by simp; omega) (by rw [← Int.add_assoc]; exact hk.2) (fun y hy => ?_)
    rw [List.mem_append] at hy
    rcases hy with hy | hy
    · have := hb y hy
      omega
    · simp only [List.mem_singleton] at hy
      omega
theorem spec_ciDepths_ev (a : Nat) (gs : List S111) (os : List Int) (h : circuitM a gs os = true) : Ev (fun k => spec_ciDepths.f k a gs os) ((depthsM (List.replicate a 0) gs).drop a) := by
  obtain ⟨b, hab, ha, hg, _, _, hk, _⟩ := circuitM_of h
  obtain rfl : a = b := by omega
  unfold spec_ciDepths.f
  refine ev_p (by omega) (ev_p (by omega) ?_)
  rw [Int.toNat_natCast]
  exact spec_ciDepths_l0 a ha gs os hg gs [] _ 0 rfl rfl (by simp) (by rw [Int.add_zero]; exact hk) (fun x hx => by have := (List.mem_replicate.1 hx).2; omega)

/-! #### gateDepthsM -/
def gateDepthsM (n : Int) (gs : List S111) (os : List Int) : List Int × Bool := if circuitM n gs os = true then ((depthsM (List.replicate n.toNat 0) gs).drop n.toNat, true) else ([], false)
theorem gateDepthsM_length (n : Int) (gs : List S111) (os : List Int) : (gateDepthsM n gs os).1.length ≤ 16 := by
  unfold gateDepthsM
  by_cases h : circuitM n gs os = true
  · rw [if_pos h]
    obtain ⟨a, rfl, ha, hg, _⟩ := circuitM_of h
    simp [depthsM_length]
    exact hg
  · rw [if_neg h]
    simp

/-! #### impl_IsCircuit -/
theorem impl_IsCircuit_l1 (n : Int) (gs : List S111) (os : List Int) (h0 : 0 ≤ n) (h4 : n ≤ 4) (hg : gs.length ≤ 1048576) (ho : os.length ≤ 1048576) (r : List Int) : ∀ (p : List Int) (i : Int), i = p.length → os = p ++ r →
    Ev (fun k => impl_IsCircuit.l1 k os os.length i n gs os) (r.all (inB 0 (n + gs.length - 1))) := by
  induction r with
  | nil =>
    intro p i hi e
    have hlen : os.length = p.length := by rw [e]; simp
    apply ev_up
    simp only [impl_IsCircuit.l1]
    exact ev_n (by omega) (Ev.now _)
  | cons x r ih =>
    intro p i hi e
    have hlen : os.length = p.length + r.length + 1 := by rw [e]; simp; omega
    have hx : rd os i = x := by rw [e]; exact rdA hi
    have ih' := ih (p ++ [x]) (i + 1) (by simp; omega) (by rw [e]; simp)
    apply ev_up
    simp only [impl_IsCircuit.l1]
    refine ev_p (by omega) (ev_p (by omega) (ev_p (by omega) ?_))
    rw [hx, w64 (n := i + 1) (by omega) (by omega), w64 (n := n + gs.length) (by omega) (by omega)]
    refine ev_ite (fun h1 => ?_) (fun h1 => ev_ite (fun h2 => ?_) (fun h2 => ?_))
    · rw [List.all_cons, show inB 0 (n + gs.length - 1) x = false from decide_eq_false (by omega), Bool.false_and]
      exact Ev.now _
    · rw [List.all_cons, show inB 0 (n + gs.length - 1) x = false from decide_eq_false (by omega), Bool.false_and]
      exact Ev.now _
    · rw [List.all_cons, show inB 0 (n + gs.length - 1) x = true from decide_eq_true (by omega), Bool.true_and]
      exact ih'
theorem impl_IsCircuit_l0 (n : Int) (gs : List S111) (os : List Int) (h0 : 0 ≤ n) (h4 : n ≤ 4) (hg : gs.length ≤ 1048576) (ho : os.length ≤ 1048576) (r : List S111) : ∀ (p : List S111) (i : Int), i = p.length → gs = p ++ r →
    Ev (fun k => impl_IsCircuit.l0 k gs gs.length i n gs os) (gatesOk (n + i) r && os.all (inB 0 (n + gs.length - 1))) := by
  induction r with
  | nil =>
    intro p i hi e
    have hlen : gs.length = p.length := by rw [e]; simp
    apply ev_up
    simp only [impl_IsCircuit.l0]
    refine ev_n (by omega) ?_
    rw [gatesOk, Bool.true_and]
    exact impl_IsCircuit_l1 n gs os h0 h4 hg ho os [] 0 rfl rfl
  | cons x r ih =>
    intro p i hi e
    have hlen : gs.length = p.length + r.length + 1 := by rw [e]; simp; omega
    have hx : rd_T111 gs i = x := by rw [e]; exact rdGateA hi
    have ih' := ih (p ++ [x]) (i + 1) (by simp; omega) (by rw [e]; simp)
    apply ev_up
    simp only [impl_IsCircuit.l0]
    refine ev_p (by omega) (ev_p (by omega) (ev_p (by omega) ?_))
    rw [hx, w64 (n := i + 1) (by omega) (by omega), w64 (n := n + i) (by omega) (by omega)]
    have no : gateOk (n + i) x = false → Ev (fun _ => some false) (gatesOk (n + i) (x :: r) && os.all (inB 0 (n + gs.length - 1))) := fun h => by
      rw [gatesOk, h, Bool.false_and, Bool.false_and]
      exact Ev.now _
    have yes : gateOk (n + i) x = true → Ev (fun k => impl_IsCircuit.l0 k gs gs.length (i + 1) n gs os) (gatesOk (n + i) (x :: r) && os.all (inB 0 (n + gs.length - 1))) := fun h => by
      rw [gatesOk, h, Bool.true_and, Int.add_assoc]
      exact ih'
    refine ev_ite (fun c => no (decide_eq_false (by omega))) (fun c1 => ev_ite (fun c => no (decide_eq_false (by omega))) (fun c2 => ev_ite (fun c => no (decide_eq_false (by omega))) (fun c3 => ev_ite (fun c => no (decide_eq_false (by omega))) (fun c4 => ev_ite (fun c => no (decide_eq_false (by omega))) (fun c5 => ev_ite (fun c => no (decide_eq_false (by omega))) (fun c6 => ev_ite (fun c7 => ev_ite (fun c8 => yes (decide_eq_true (by omega))) (fun c8 => no (decide_eq_false (fun hh => c8 (hh.2.2.2.2.2.2 c7))))) (fun c7 => yes (decide_eq_true (by omega)))))))))
theorem impl_IsCircuit_ev (n : Int) (gs : List S111) (os : List Int) (hg : gs.length ≤ 1048576) (ho : os.length ≤ 1048576) : Ev (fun k => impl_IsCircuit.f k n gs os) (circuitM n gs os) := by
  have bad : ¬ (0 ≤ n ∧ n ≤ 4 ∧ gs.length ≤ 16 ∧ 1 ≤ os.length ∧ os.length ≤ 4) → Ev (fun k => impl_IsCircuit.j0 k true n gs os) (circuitM n gs os) := fun h => by
    apply ev_up
    simp only [impl_IsCircuit.j0]
    unfold circuitM
    rw [decide_eq_false h, Bool.false_and]
    exact ev_p (by trivial) (Ev.now _)
  unfold impl_IsCircuit.f
  refine ev_ite (fun c1 => bad (by omega)) (fun c1 => ev_ite (fun c2 => bad (by omega)) (fun c2 => ev_ite (fun c3 => bad (by omega)) (fun c3 => ev_ite (fun c4 => bad (by omega)) (fun c4 => ?_))))
  apply ev_up
  simp only [impl_IsCircuit.j0]
  refine ev_ite (fun c5 => ?_) (fun c5 => ?_)
  · have c5' := of_decide_eq_true c5
    unfold circuitM
    rw [decide_eq_false (by omega), Bool.false_and]
    exact Ev.now _
  · have c5' : ¬ (os.length : Int) > 4 := fun h => c5 (decide_eq_true h)
    unfold circuitM
    rw [decide_eq_true (by omega), Bool.true_and]
    have := impl_IsCircuit_l0 n gs os (by omega) (by omega) hg ho gs [] 0 rfl rfl
    rwa [Int.add_zero] at this

/-! #### implGateDepths -/
theorem impl_GateDepths_l0 (a : Nat) (ha : a ≤ 4) (gs : List S111) (os : List Int) (hg : gs.length ≤ 16) (r : List S111) : ∀ (p : List S111) (ds : List Int) (i : Int), i = p.length → gs = p ++ r → (ds.length : Int) = a + i → gatesOk (a + i) r = true → (∀ x ∈ ds, 0 ≤ x ∧ x ≤ i) →
    Ev (fun k => impl_GateDepths.l0 k ds gs gs.length i a gs os) ((depthsM ds r).drop a, true) := by
  induction r with
  | nil =>
    intro p ds i hi e hd hk hb
    have hlen : gs.length = p.length := by rw [e]; simp
    apply ev_up
    simp only [impl_GateDepths.l0]
    refine ev_n (by omega) (Ev.bind (ev_c rfl) (ev_p (by omega) (ev_p (by omega) (Ev.bind (ev_c rfl) (ev_p (by simp; omega) ?_)))))
    rw [Int.toNat_natCast]
    exact Ev.now _
  | cons x r ih =>
    intro p ds i hi e hd hk hb
    have hlen : gs.length = p.length + r.length + 1 := by rw [e]; simp; omega
    have hx : rd_T111 gs i = x := by rw [e]; exact rdGateA hi
    rw [gatesOk, Bool.and_eq_true] at hk
    have hk1 := of_decide_eq_true hk.1
    have b1 := hb _ (rd_mem (i := x.f1) (by omega) (by omega))
    have b2 := hb _ (rd_mem (i := x.f2) (by omega) (by omega))
    apply ev_up
    simp only [impl_GateDepths.l0]
    refine ev_p (by omega) (ev_p (by omega) (ev_p (by omega) ?_))
    rw [hx]
    refine ev_p (by omega) (ev_p (by omega) (ev_p (by omega) (ev_p (by omega) (ev_p (by omega) ?_))))
    have hm : 0 ≤ (if rd ds x.f1 < rd ds x.f2 then rd ds x.f2 else rd ds x.f1) ∧ (if rd ds x.f1 < rd ds x.f2 then rd ds x.f2 else rd ds x.f1) ≤ i := by
      split <;> omega
    unfold mx
    rw [w64 (n := i + 1) (by omega) (by omega), w64 (by omega) (by omega), depthsM]
    refine ih (p ++ [x]) _ (i + 1) (by simp; omega) (by rw [e]; simp) (by simp; omega) (by rw [← Int.add_assoc]; exact hk.2) (fun y hy => ?_)
    rw [List.mem_append] at hy
    rcases hy with hy | hy
    · have := hb y hy
      omega
    · simp only [List.mem_singleton] at hy
      omega
theorem impl_GateDepths_ev (n : Int) (gs : List S111) (os : List Int) (hg : gs.length ≤ 1048576) (ho : os.length ≤ 1048576) : Ev (fun k => impl_GateDepths.f k n gs os) (gateDepthsM n gs os) := by
  unfold impl_GateDepths.f gateDepthsM
  refine Ev.bind (impl_IsCircuit_ev n gs os hg ho) (ev_ite (fun h => ?_) (fun h => ?_))
  · rw [if_pos h]
    obtain ⟨a, rfl, ha, hg', _, _, hk, _⟩ := circuitM_of h
    refine ev_p (by omega) (ev_p (by omega) ?_)
    rw [Int.toNat_natCast]
    exact impl_GateDepths_l0 a ha gs os hg' gs [] _ 0 rfl rfl (by simp) (by rw [Int.add_zero]; exact hk) (fun x hx => by have := (List.mem_replicate.1 hx).2; omega)
  · rw [if_neg h]
    exact Ev.now _

/-! #### spec_plLevels -/
theorem spec_plLevels_l2 (a : Nat) (ha : a ≤ 4) (gs : List S111) (os ds : List Int) (hl : ds.length ≤ 16) (i : Nat) (hi : i < ds.length) (d : Nat) (hd : d < 40) (R : List (List Int)) (n : Nat) : ∀ (o : List (List Int)), n = d + 1 - o.length → o.length ≤ 40 → (∀ y ∈ o, y.length ≤ 100) →
    Ev (fun k => spec_plLevels.l1 k (lvPut o d ((a : Int) + i)) ds ds.length (wrap64 ((i : Int) + 1)) a gs os) R → Ev (fun k => spec_plLevels.l2 k o i d ds ds.length i a gs os) R := by
  induction n with
  | zero =>
    intro o hn h1 h2 h
    have hlt : d < o.length := by omega
    rw [lvPut_now _ hlt] at h
    have hr : rd_L3 o (d : Int) = o.getD d [] := rfl
    have h3 : (o.getD d []).length ≤ 100 := by
      rw [List.getD_eq_getElem?_getD, List.getElem?_eq_getElem hlt]
      exact h2 _ (List.getElem_mem hlt)
    apply ev_up
    simp only [spec_plLevels.l2]
    refine ev_n (by omega) (ev_p (by omega) (ev_p (by omega) (ev_p (by rw [hr]; omega) ?_)))
    rw [hr, w64 (n := (a : Int) + i) (by omega) (by omega), Int.toNat_natCast]
    exact h
  | succ n ih =>
    intro o hn h1 h2 h
    apply ev_up
    simp only [spec_plLevels.l2]
    refine ev_p (by omega) (ev_p (by omega) ?_)
    refine ih (o ++ [[]]) (by simp; omega) (by simp; omega) (fun y hy => ?_) ?_
    · rcases List.mem_append.1 hy with hy | hy
      · exact h2 y hy
      · rw [List.mem_singleton] at hy; rw [hy]; simp
    · rw [lvPut_more _ (by omega)]
      exact h
theorem spec_plLevels_l1 (a : Nat) (ha : a ≤ 4) (gs : List S111) (os ds : List Int) (hl : ds.length ≤ 16) (r : List Int) : ∀ (p : List Int) (i : Nat) (o : List (List Int)), i = p.length → ds = p ++ r → (∀ x ∈ r, 0 ≤ x ∧ x < 40) → o.length ≤ 40 → (∀ y ∈ o, y.length ≤ 4 + i) →
    Ev (fun k => spec_plLevels.l1 k o ds ds.length i a gs os) (lvAll a r i o) := by
  induction r with
  | nil =>
    intro p i o hi e hb h1 h2
    have hlen : ds.length = p.length := by rw [e]; simp
    apply ev_up
    simp only [spec_plLevels.l1]
    exact ev_n (by omega) (Ev.now _)
  | cons x r ih =>
    intro p i o hi e hb h1 h2
    have hlen : ds.length = p.length + r.length + 1 := by rw [e]; simp; omega
    have hx : rd ds (i : Int) = x := by rw [e]; exact rdA (by omega)
    have hxb := hb x (by simp)
    obtain ⟨d, rfl⟩ : ∃ d : Nat, x = d := ⟨x.toNat, by omega⟩
    obtain ⟨h4, h5⟩ := lvPut_ok ((a : Int) + i) h1 (show d < 40 by omega) h2
    have ih' := ih (p ++ [(d : Int)]) (i + 1) (lvPut o d ((a : Int) + i)) (by simp; omega) (by rw [e]; simp) (fun y hy => hb y (by simp [hy])) h4 (fun y hy => by have := h5 y hy; omega)
    apply ev_up
    simp only [spec_plLevels.l1]
    refine ev_p (by omega) (ev_p (by omega) (ev_p (by omega) ?_))
    rw [hx]
    refine spec_plLevels_l2 a ha gs os ds hl i (by omega) d (by omega) _ _ o rfl h1 (fun y hy => by have := h2 y hy; omega) ?_
    rw [wN (n := (i : Int) + 1) (m := i + 1) (by omega) (by omega), lvAll, Int.toNat_natCast]
    exact ih'
theorem spec_plLevels_l0 (a : Nat) (gs : List S111) (os : List Int) (h : circuitM a gs os = true) (ha : a ≤ 4) (hg : gs.length ≤ 16) (d : Nat) : ∀ (i : Nat), i + d = a →
    Ev (fun k => spec_plLevels.l0 k (seqFrom 0 i) i a gs os) (levelsM a gs) := by
  induction d with
  | zero =>
    intro i hi
    obtain rfl : i = a := by omega
    have hd := depths_drop (a := i) hg
    have hdl := depths_drop_len i gs
    apply ev_up
    simp only [spec_plLevels.l0]
    refine ev_n (by omega) (Ev.bind (spec_ciDepths_ev i gs os h) ?_)
    exact spec_plLevels_l1 i ha gs os _ (by omega) _ [] 0 [seqFrom 0 i] rfl rfl hd (by simp) (fun y hy => by rw [List.mem_singleton] at hy; rw [hy, seqFrom_length]; omega)
  | succ d ih =>
    intro i hi
    have ih' := ih (i + 1) (by omega)
    rw [← seqFrom_snoc 0 i] at ih'
    apply ev_up
    simp only [spec_plLevels.l0]
    refine ev_p (by omega) (ev_p (by rw [seqFrom_length]; omega) ?_)
    rw [wN (n := (i : Int) + 1) (m := i + 1) (by omega) (by omega)]
    simpa using ih'
theorem spec_plLevels_ev (a : Nat) (gs : List S111) (os : List Int) (h : circuitM a gs os = true) : Ev (fun k => spec_plLevels.f k a gs os) (levelsM a gs) := by
  obtain ⟨b, hab, ha, hg, _⟩ := circuitM_of h
  obtain rfl : a = b := by omega
  unfold spec_plLevels.f
  exact spec_plLevels_l0 a gs os h ha hg a 0 (by omega)

/-! #### spec_LevelWires -/
theorem spec_LevelWires_l1 (a : Nat) (gs : List S111) (os : List Int) (kk : Nat) (lv : List (List Int)) (hlv : lv.length ≤ 40) (hkk : kk < lv.length) (hrow : ∀ y ∈ lv, y.length ≤ 20) (row : List Int) (hr : row.length ≤ 20) (pl : Nat) (hpl : pl < row.length) (es : List Int) (he : es.length ≤ 2) (R : List (List Int) × Bool) (r : List Int) : ∀ (p : List Int) (i : Int) (acc : List (List Int)), i = p.length → es = p ++ r → acc.length + r.length ≤ 1000 →
    Ev (fun k => spec_LevelWires.l0 k kk lv (lwIn (lv.getD kk []) pl r acc) row row.length (wrap64 ((pl : Int) + 1)) a gs os) R → Ev (fun k => spec_LevelWires.l1 k kk lv acc pl row row.length pl es es.length i a gs os) R := by
  have hr0 : rd_L3 lv (kk : Int) = lv.getD kk [] := rfl
  have hl0 : (lv.getD kk []).length ≤ 20 := by
    rw [List.getD_eq_getElem?_getD, List.getElem?_eq_getElem hkk]
    exact hrow _ (List.getElem_mem hkk)
  induction r with
  | nil =>
    intro p i acc hi e ha h
    have hlen : es.length = p.length := by rw [e]; simp
    apply ev_up
    simp only [spec_LevelWires.l1]
    exact ev_n (by omega) h
  | cons x r ih =>
    intro p i acc hi e ha h
    have hlen : es.length = p.length + r.length + 1 := by rw [e]; simp; omega
    have hx : rd es i = x := by rw [e]; exact rdA hi
    rw [lwIn] at h
    simp only [List.length_cons] at ha
    apply ev_up
    simp only [spec_LevelWires.l1]
    refine ev_p (by omega) (ev_p (by omega) (ev_p (by omega) (ev_p (by omega) (ev_p (by omega) ?_))))
    rw [hx, hr0, w64 (n := i + 1) (by omega) (by omega)]
    refine Ev.bind (spec_plPlace_ev (lv.getD kk []) x (by omega)) (ev_ite (fun c => ev_p (by omega) ?_) (fun c => ?_))
    · rw [if_pos c] at h
      exact ih (p ++ [x]) (i + 1) _ (by simp; omega) (by rw [e]; simp) (by simp; omega) h
    · rw [if_neg c] at h
      exact ih (p ++ [x]) (i + 1) acc (by simp; omega) (by rw [e]; simp) (by omega) h
theorem spec_LevelWires_l0 (a : Nat) (ha : a ≤ 4) (gs : List S111) (hg : gs.length ≤ 16) (os : List Int) (kk : Nat) (lv : List (List Int)) (hlv : lv.length ≤ 40) (hkk : kk < lv.length) (hrow : ∀ y ∈ lv, y.length ≤ 20) (row : List Int) (hr : row.length ≤ 20) (hin : ∀ y ∈ row, (a : Int) ≤ y ∧ y < a + gs.length) (r : List Int) : ∀ (p : List Int) (i : Nat) (acc : List (List Int)), i = p.length → row = p ++ r → acc.length ≤ 2 * i →
    Ev (fun k => spec_LevelWires.l0 k kk lv acc row row.length i a gs os) (lwOut a gs (lv.getD kk []) r i acc, true) := by
  induction r with
  | nil =>
    intro p i acc hi e hac
    have hlen : row.length = p.length := by rw [e]; simp
    apply ev_up
    simp only [spec_LevelWires.l0]
    exact ev_n (by omega) (Ev.now _)
  | cons x r ih =>
    intro p i acc hi e hac
    have hlen : row.length = p.length + r.length + 1 := by rw [e]; simp; omega
    have hx : rd row (i : Int) = x := by rw [e]; exact rdA (by omega)
    have hxb := hin x (by rw [e]; simp)
    have hen := lwEnds_length (rd_T111 gs (x - a))
    have hac2 := lwIn_length (lv.getD kk []) i (lwEnds (rd_T111 gs (x - a))) acc
    have ih' := ih (p ++ [x]) (i + 1) (lwIn (lv.getD kk []) i (lwEnds (rd_T111 gs (x - a))) acc) (by simp; omega) (by rw [e]; simp) (by omega)
    have hl1 := spec_LevelWires_l1 a gs os kk lv hlv hkk hrow row hr i (by omega) (lwEnds (rd_T111 gs (x - a))) hen (lwOut a gs (lv.getD kk []) (x :: r) i acc, true) (lwEnds (rd_T111 gs (x - a))) [] 0 acc rfl rfl (by omega) (by
      rw [wN (n := (i : Int) + 1) (m := i + 1) (by omega) (by omega), lwOut]
      exact ih')
    apply ev_up
    simp only [spec_LevelWires.l0]
    refine ev_p (by omega) (ev_p (by omega) (ev_p (by omega) ?_))
    rw [hx, w64 (n := x - a) (by omega) (by omega)]
    refine ev_p (by omega) (ev_p (by omega) ?_)
    simp only [Option.bind_some]
    refine ev_ite (fun c => ev_p (by simp) ?_) (fun c => ?_)
    · apply ev_up
      simp only [spec_LevelWires.j2]
      unfold lwEnds at hl1
      rw [if_pos c] at hl1
      exact hl1
    · apply ev_up
      simp only [spec_LevelWires.j2]
      unfold lwEnds at hl1
      rw [if_neg c] at hl1
      exact hl1
theorem spec_LevelWires_ev (n : Int) (gs : List S111) (os : List Int) (kk : Int) (hn : I64 n) (hk : I64 kk) (hg : gs.length ≤ 1048576) (ho : os.length ≤ 1048576) : Ev (fun g => spec_LevelWires.f g n gs os kk) (levelWiresM n gs os kk) := by
  unfold spec_LevelWires.f
  refine Ev.bind (spec_ciGood_ev n gs os hn hg ho) (ev_ite (fun h => ?_) (fun h => ?_))
  · obtain ⟨a, rfl, ha, hg', _⟩ := circuitM_of h
    obtain ⟨h1, h2⟩ := levelsM_ok ha hg'
    have hlv := spec_plLevels_ev a gs os h
    refine Ev.bind hlv ?_
    rw [l1In_eq, w64 (by omega) (by omega)]
    refine Ev.bind (ev_c rfl) ?_
    apply ev_up
    simp only [spec_LevelWires.j0]
    unfold levelWiresM
    simp only [Int.toNat_natCast]
    by_cases c : 0 ≤ kk ∧ kk ≤ ((levelsM a gs).length : Int) - 2
    · rw [if_pos ⟨h, c⟩]
      obtain ⟨q, rfl⟩ : ∃ q : Nat, kk = q := ⟨kk.toNat, by omega⟩
      refine ev_n (by simp; omega) (Ev.bind hlv ?_)
      rw [wN (n := (q : Int) + 1) (m := q + 1) (by omega) (by omega)]
      refine ev_p (by omega) (ev_p (by omega) ?_)
      have hrr : rd_L3 (levelsM a gs) ((q + 1 : Nat) : Int) = (levelsM a gs).getD (q + 1) [] := by
        show (levelsM a gs).getD ((q + 1 : Nat) : Int).toNat [] = _
        rw [Int.toNat_natCast]
      rw [hrr, Int.toNat_natCast]
      exact spec_LevelWires_l0 a ha gs hg' os q (levelsM a gs) h1 (by omega) h2 _ (rows_getD h2 _) (levelsM_in q) _ [] 0 [] rfl rfl (by simp)
    · rw [if_neg (fun hh => c hh.2)]
      refine ev_p (by simp; omega) (Ev.now _)
  · unfold levelWiresM
    rw [if_neg (fun hh => h hh.1)]
    apply ev_up
    simp only [spec_LevelWires.j0]
    exact ev_p trivial (Ev.now _)

/-! #### impl_levelsOf -/
theorem impl_levelsOf_l2 (a : Nat) (ha : a ≤ 4) (gs : List S111) (os ds : List Int) (hl : ds.length ≤ 16) (i : Nat) (hi : i < ds.length) (d : Nat) (hd : d < 40) (R : List (List Int)) (n : Nat) : ∀ (o : List (List Int)), n = d + 1 - o.length → o.length ≤ 40 → (∀ y ∈ o, y.length ≤ 100) →
    Ev (fun k => impl_levelsOf.l1 k (lvPut o d ((a : Int) + i)) ds ds.length (wrap64 ((i : Int) + 1)) a gs os) R → Ev (fun k => impl_levelsOf.l2 k o i d ds ds.length i a gs os) R := by
  induction n with
  | zero =>
    intro o hn h1 h2 h
    have hlt : d < o.length := by omega
    rw [lvPut_now _ hlt] at h
    have hr : rd_L3 o (d : Int) = o.getD d [] := rfl
    have h3 : (o.getD d []).length ≤ 100 := by
      rw [List.getD_eq_getElem?_getD, List.getElem?_eq_getElem hlt]
      exact h2 _ (List.getElem_mem hlt)
    apply ev_up
    simp only [impl_levelsOf.l2]
    refine ev_n (by omega) (ev_p (by omega) (ev_p (by omega) (ev_p (by rw [hr]; omega) ?_)))
    rw [hr, w64 (n := (a : Int) + i) (by omega) (by omega), Int.toNat_natCast]
    exact h
  | succ n ih =>
    intro o hn h1 h2 h
    apply ev_up
    simp only [impl_levelsOf.l2]
    refine ev_p (by omega) (ev_p (by omega) ?_)
    refine ih (o ++ [[]]) (by simp; omega) (by simp; omega) (fun y hy => ?_) ?_
    · rcases List.mem_append.1 hy with hy | hy
      · exact h2 y hy
      · rw [List.mem_singleton] at hy; rw [hy]; simp
    · rw [lvPut_more _ (by omega)]
      exact h
theorem impl_levelsOf_l1 (a : Nat) (ha : a ≤ 4) (gs : List S111) (os ds : List Int) (hl : ds.length ≤ 16) (r : List Int) : ∀ (p : List Int) (i : Nat) (o : List (List Int)), i = p.length → ds = p ++ r → (∀ x ∈ r, 0 ≤ x ∧ x < 40) → o.length ≤ 40 → (∀ y ∈ o, y.length ≤ 4 + i) →
    Ev (fun k => impl_levelsOf.l1 k o ds ds.length i a gs os) (lvAll a r i o) := by
  induction r with
  | nil =>
    intro p i o hi e hb h1 h2
    have hlen : ds.length = p.length := by rw [e]; simp
    apply ev_up
    simp only [impl_levelsOf.l1]
    exact ev_n (by omega) (Ev.now _)
  | cons x r ih =>
    intro p i o hi e hb h1 h2
    have hlen : ds.length = p.length + r.length + 1 := by rw [e]; simp; omega
    have hx : rd ds (i : Int) = x := by rw [e]; exact rdA (by omega)
    have hxb := hb x (by simp)
    obtain ⟨d, rfl⟩ : ∃ d : Nat, x = d := ⟨x.toNat, by omega⟩
    obtain ⟨h4, h5⟩ := lvPut_ok ((a : Int) + i) h1 (show d < 40 by omega) h2
    have ih' := ih (p ++ [(d : Int)]) (i + 1) (lvPut o d ((a : Int) + i)) (by simp; omega) (by rw [e]; simp) (fun y hy => hb y (by simp [hy])) h4 (fun y hy => by have := h5 y hy; omega)
    apply ev_up
    simp only [impl_levelsOf.l1]
    refine ev_p (by omega) (ev_p (by omega) (ev_p (by omega) ?_))
    rw [hx]
    refine impl_levelsOf_l2 a ha gs os ds hl i (by omega) d (by omega) _ _ o rfl h1 (fun y hy => by have := h2 y hy; omega) ?_
    rw [wN (n := (i : Int) + 1) (m := i + 1) (by omega) (by omega), lvAll, Int.toNat_natCast]
    exact ih'
theorem impl_levelsOf_l0 (a : Nat) (gs : List S111) (os : List Int) (ha : a ≤ 4) (hg : gs.length ≤ 16) (d : Nat) : ∀ (i : Nat), i + d = a →
    Ev (fun k => impl_levelsOf.l0 k ((depthsM (List.replicate a 0) gs).drop a) [seqFrom 0 i] i a gs os) (levelsM a gs) := by
  induction d with
  | zero =>
    intro i hi
    obtain rfl : i = a := by omega
    have hd := depths_drop (a := i) hg
    have hdl := depths_drop_len i gs
    apply ev_up
    simp only [impl_levelsOf.l0]
    refine ev_n (by omega) ?_
    exact impl_levelsOf_l1 i ha gs os _ (by omega) _ [] 0 [seqFrom 0 i] rfl rfl hd (by simp) (fun y hy => by rw [List.mem_singleton] at hy; rw [hy, seqFrom_length]; omega)
  | succ d ih =>
    intro i hi
    have ih' := ih (i + 1) (by omega)
    rw [← seqFrom_snoc 0 i] at ih'
    have hr : rd_L3 [seqFrom 0 i] 0 = seqFrom 0 i := rfl
    apply ev_up
    simp only [impl_levelsOf.l0]
    refine ev_p (by omega) (ev_p (by simp) (ev_p (by rw [hr, seqFrom_length]; omega) ?_))
    rw [hr, wN (n := (i : Int) + 1) (m := i + 1) (by omega) (by omega)]
    simpa using ih'
theorem impl_levelsOf_ev (a : Nat) (gs : List S111) (os : List Int) (h : circuitM a gs os = true) : Ev (fun k => impl_levelsOf.f k a gs os) (levelsM a gs) := by
  obtain ⟨b, hab, ha, hg, _, ho, _⟩ := circuitM_of h
  obtain rfl : a = b := by omega
  have hd := impl_GateDepths_ev a gs os (by omega) (by omega)
  unfold gateDepthsM at hd
  rw [if_pos h, Int.toNat_natCast] at hd
  unfold impl_levelsOf.f
  exact Ev.bind hd (impl_levelsOf_l0 a gs os ha hg a 0 (by omega))

/-! #### impl_LevelWires -/
theorem impl_LevelWires_l1 (a : Nat) (gs : List S111) (os : List Int) (kk : Nat) (lv : List (List Int)) (hlv : lv.length ≤ 40) (hkk : kk < lv.length) (hrow : ∀ y ∈ lv, y.length ≤ 20) (row : List Int) (hr : row.length ≤ 20) (pl : Nat) (hpl : pl < row.length) (es : List Int) (he : es.length ≤ 2) (R : List (List Int) × Bool) (r : List Int) : ∀ (p : List Int) (i : Int) (acc : List (List Int)), i = p.length → es = p ++ r → acc.length + r.length ≤ 1000 →
    Ev (fun k => impl_LevelWires.l0 k kk lv (lwIn (lv.getD kk []) pl r acc) row row.length (wrap64 ((pl : Int) + 1)) a gs os) R → Ev (fun k => impl_LevelWires.l1 k kk lv acc pl row row.length pl es es.length i a gs os) R := by
  have hr0 : rd_L3 lv (kk : Int) = lv.getD kk [] := rfl
  have hl0 : (lv.getD kk []).length ≤ 20 := by
    rw [List.getD_eq_getElem?_getD, List.getElem?_eq_getElem hkk]
    exact hrow _ (List.getElem_mem hkk)
  induction r with
  | nil =>
    intro p i acc hi e ha h
    have hlen : es.length = p.length := by rw [e]; simp
    apply ev_up
    simp only [impl_LevelWires.l1]
    exact ev_n (by omega) h
  | cons x r ih =>
    intro p i acc hi e ha h
    have hlen : es.length = p.length + r.length + 1 := by rw [e]; simp; omega
    have hx : rd es i = x := by rw [e]; exact rdA hi
    rw [lwIn] at h
    simp only [List.length_cons] at ha
    apply ev_up
    simp only [impl_LevelWires.l1]
    refine ev_p (by omega) (ev_p (by omega) (ev_p (by omega) (ev_p (by omega) (ev_p (by omega) ?_))))
    rw [hx, hr0, w64 (n := i + 1) (by omega) (by omega)]
    refine Ev.bind (slices_Index_ev (lv.getD kk []) x (by omega)) (ev_ite (fun c => ev_p (by omega) ?_) (fun c => ?_))
    · rw [if_pos c] at h
      exact ih (p ++ [x]) (i + 1) _ (by simp; omega) (by rw [e]; simp) (by simp; omega) h
    · rw [if_neg c] at h
      exact ih (p ++ [x]) (i + 1) acc (by simp; omega) (by rw [e]; simp) (by omega) h
theorem impl_LevelWires_l0 (a : Nat) (ha : a ≤ 4) (gs : List S111) (hg : gs.length ≤ 16) (os : List Int) (kk : Nat) (lv : List (List Int)) (hlv : lv.length ≤ 40) (hkk : kk < lv.length) (hrow : ∀ y ∈ lv, y.length ≤ 20) (row : List Int) (hr : row.length ≤ 20) (hin : ∀ y ∈ row, (a : Int) ≤ y ∧ y < a + gs.length) (r : List Int) : ∀ (p : List Int) (i : Nat) (acc : List (List Int)), i = p.length → row = p ++ r → acc.length ≤ 2 * i →
    Ev (fun k => impl_LevelWires.l0 k kk lv acc row row.length i a gs os) (lwOut a gs (lv.getD kk []) r i acc, true) := by
  induction r with
  | nil =>
    intro p i acc hi e hac
    have hlen : row.length = p.length := by rw [e]; simp
    apply ev_up
    simp only [impl_LevelWires.l0]
    exact ev_n (by omega) (Ev.now _)
  | cons x r ih =>
    intro p i acc hi e hac
    have hlen : row.length = p.length + r.length + 1 := by rw [e]; simp; omega
    have hx : rd row (i : Int) = x := by rw [e]; exact rdA (by omega)
    have hxb := hin x (by rw [e]; simp)
    have hen := lwEnds_length (rd_T111 gs (x - a))
    have hac2 := lwIn_length (lv.getD kk []) i (lwEnds (rd_T111 gs (x - a))) acc
    have ih' := ih (p ++ [x]) (i + 1) (lwIn (lv.getD kk []) i (lwEnds (rd_T111 gs (x - a))) acc) (by simp; omega) (by rw [e]; simp) (by omega)
    have hl1 := impl_LevelWires_l1 a gs os kk lv hlv hkk hrow row hr i (by omega) (lwEnds (rd_T111 gs (x - a))) hen (lwOut a gs (lv.getD kk []) (x :: r) i acc, true) (lwEnds (rd_T111 gs (x - a))) [] 0 acc rfl rfl (by omega) (by
      rw [wN (n := (i : Int) + 1) (m := i + 1) (by omega) (by omega), lwOut]
      exact ih')
    apply ev_up
    simp only [impl_LevelWires.l0]
    refine ev_p (by omega) (ev_p (by omega) (ev_p (by omega) ?_))
    rw [hx, w64 (n := x - a) (by omega) (by omega)]
    refine ev_p (by omega) (ev_p (by omega) ?_)
    simp only [Option.bind_some]
    refine ev_ite (fun c => ev_p (by simp) ?_) (fun c => ?_)
    · apply ev_up
      simp only [impl_LevelWires.j2]
      unfold lwEnds at hl1
      rw [if_pos c] at hl1
      exact hl1
    · apply ev_up
      simp only [impl_LevelWires.j2]
      unfold lwEnds at hl1
      rw [if_neg c] at hl1
      exact hl1
theorem impl_LevelWires_ev (n : Int) (gs : List S111) (os : List Int) (kk : Int) (hk : I64 kk) (hg : gs.length ≤ 1048576) (ho : os.length ≤ 1048576) : Ev (fun g => impl_LevelWires.f g n gs os kk) (levelWiresM n gs os kk) := by
  unfold impl_LevelWires.f
  refine Ev.bind (impl_IsCircuit_ev n gs os hg ho) (ev_ite (fun h => ?_) (fun h => ?_))
  · obtain ⟨a, rfl, ha, hg', _⟩ := circuitM_of h
    obtain ⟨h1, h2⟩ := levelsM_ok ha hg'
    have hlv := impl_levelsOf_ev a gs os h
    apply ev_up
    simp only [impl_LevelWires.j0]
    unfold levelWiresM
    simp only [Int.toNat_natCast]
    by_cases c0 : kk < 0
    · rw [if_neg (fun hh => by omega)]
      exact ev_p (by simpa using c0) (Ev.now _)
    · refine ev_n (by simpa using c0) (Ev.bind hlv ?_)
      rw [w64 (n := ((levelsM a gs).length : Int) - 2) (by omega) (by omega)]
      refine ev_ite (fun c => ?_) (fun c => ?_)
      · rw [if_neg (fun hh => by omega)]
        exact Ev.now _
      · rw [if_pos ⟨h, by omega, by omega⟩]
        obtain ⟨q, rfl⟩ : ∃ q : Nat, kk = q := ⟨kk.toNat, by omega⟩
        rw [wN (n := (q : Int) + 1) (m := q + 1) (by omega) (by omega)]
        refine ev_p (by omega) (ev_p (by omega) ?_)
        have hrr : rd_L3 (levelsM a gs) ((q + 1 : Nat) : Int) = (levelsM a gs).getD (q + 1) [] := by
          show (levelsM a gs).getD ((q + 1 : Nat) : Int).toNat [] = _
          rw [Int.toNat_natCast]
        rw [hrr, Int.toNat_natCast]
        exact impl_LevelWires_l0 a ha gs hg' os q (levelsM a gs) h1 (by omega) h2 _ (rows_getD h2 _) (levelsM_in q) _ [] 0 [] rfl rfl (by simp)
  · unfold levelWiresM
    rw [if_neg (fun hh => h hh.1)]
    apply ev_up
    simp only [impl_LevelWires.j0]
    exact ev_p trivial (Ev.now _)

/-! #### markIntS -/
theorem markIntS_l0 (r : List Int) : ∀ (p : List Int) (s i : Int), i = p.length → p.length + r.length ≤ 9223372036854775807 → 0 ≤ s → s + r.length ≤ 9223372036854775807 →
    Ev (fun k => laws_markIntS.l0 k (p ++ r) s i) (s + r.length, p ++ seqFrom s r.length) := by
  induction r with
  | nil =>
    intro p s i hi hb h0 hs
    apply ev_up
    simp only [laws_markIntS.l0]
    refine ev_n (by simp; omega) ?_
    simpa [seqFrom] using Ev.now (s, p)
  | cons x r ih =>
    intro p s i hi hb h0 hs
    simp only [List.length_cons, Int.natCast_add] at hb hs
    apply ev_up
    simp only [laws_markIntS.l0]
    refine ev_p (by simp; omega) (ev_p (by omega) ?_)
    rw [setA hi, w64 (by omega) (by omega), w64 (by omega) (by omega)]
    refine ev_eq (ih (p ++ [s]) (s + 1) (i + 1) (by simp; omega) (by simp; omega) (by omega) (by omega)) ?_
    simp [seqFrom]
    omega
theorem markIntS_ev (a : List Int) (s : Int) (h0 : 0 ≤ s) (h : a.length + s ≤ 9223372036854775807) : Ev (fun k => laws_markIntS.f k a s) (s + a.length, seqFrom s a.length) := by
  unfold laws_markIntS.f
  exact markIntS_l0 a [] s 0 rfl (by simp; omega) h0 (by omega)

/-! #### markCircuit -/
theorem markGateS_l0 (r : List S111) : ∀ (p : List S111) (s i : Int), i = p.length → p.length + r.length ≤ 1048576 → 0 ≤ s → s + 3 * r.length ≤ 8388608 →
    ∃ t, Ev (fun k => laws_markGateS.l0 k (p ++ r) s i) (s + 3 * r.length, t) := by
  induction r with
  | nil =>
    intro p s i hi hb h0 hs
    refine ⟨p, ?_⟩
    apply ev_up
    simp only [laws_markGateS.l0]
    refine ev_n (by simp; omega) ?_
    simpa using Ev.now (s, p)
  | cons x r ih =>
    intro p s i hi hb h0 hs
    simp only [List.length_cons, Int.natCast_add] at hb hs
    obtain ⟨t, ht⟩ := ih (p ++ [⟨s, s + 1, s + 1 + 1⟩]) (s + 1 + 1 + 1) (i + 1) (by simp; omega) (by simp; omega) (by omega) (by omega)
    refine ⟨t, ?_⟩
    apply ev_up
    simp only [laws_markGateS.l0]
    refine ev_p (by simp; omega) (ev_p (by omega) (Ev.bind (ev_c rfl) (Ev.bind (ev_c rfl) ?_)))
    simp only [rdGateA hi, setB hi]
    rw [appA, w64 (n := s + 1) (by omega) (by omega), w64 (n := s + 1 + 1) (by omega) (by omega), w64 (n := s + 1 + 1 + 1) (by omega) (by omega), w64 (n := i + 1) (by omega) (by omega)]
    refine ev_eq ht ?_
    simp only [List.length_cons, Prod.mk.injEq, and_true]
    omega
theorem markCircuit_ev (n : Int) (gs : List S111) (os : List Int) (hg : gs.length ≤ 1048576) (ho : os.length ≤ 1048576) : ∃ (m : Int) (t : List S111) (u : List Int), 0 ≤ m ∧ m ≤ 9000000 ∧ Ev (fun k => laws_markCircuit.f k n gs os 1) (m, t, u) := by
  unfold laws_markCircuit.f laws_markGateS.f
  obtain ⟨t, ht⟩ := markGateS_l0 gs [] 1 0 rfl (by simpa using hg) (by omega) (by omega)
  exact ⟨1 + 3 * gs.length + os.length, t, _, by omega, by omega, Ev.bind ht (Ev.bind (markIntS_ev os (1 + 3 * gs.length) (by omega) (by omega)) (Ev.now _))⟩

/-! #### heldIntS -/
theorem heldIntS_l0 (n : Nat) : ∀ (p : List Int) (s i : Int), i = p.length → p.length + n ≤ 9223372036854775807 → 0 ≤ s → s + n ≤ 9223372036854775807 →
    Ev (fun k => laws_heldIntS.l0 k (p ++ seqFrom s n) s i) (s + n) := by
  induction n with
  | zero =>
    intro p s i hi hb h0 hs
    apply ev_up
    simp only [laws_heldIntS.l0]
    refine ev_n (by simp [seqFrom]; omega) ?_
    simpa [seqFrom] using Ev.now s
  | succ n ih =>
    intro p s i hi hb h0 hs
    apply ev_up
    simp only [laws_heldIntS.l0]
    have hl := seqFrom_length s (n + 1)
    refine ev_p (by simp [hl]; omega) (ev_p (by omega) ?_)
    refine ev_p (by simp only [seqFrom]; exact rdA hi) ?_
    simp only [seqFrom]
    rw [appA, w64 (by omega) (by omega), w64 (by omega) (by omega)]
    refine ev_eq (ih (p ++ [s]) (s + 1) (i + 1) (by simp; omega) (by simp; omega) (by omega) (by omega)) ?_
    omega
theorem heldIntS_ev (n : Nat) (s : Int) (h0 : 0 ≤ s) (h : n + s ≤ 9223372036854775807) : Ev (fun k => laws_heldIntS.f k (seqFrom s n) s) (s + n) := by
  unfold laws_heldIntS.f
  exact heldIntS_l0 n [] s 0 rfl (by simp; omega) h0 (by omega)

/-! #### markIntSS -/
def totL : List (List Int) → Nat
  | [] => 0
  | x :: r => x.length + totL r
theorem totL_le {l : List (List Int)} {M : Nat} (h : ∀ y ∈ l, y.length ≤ M) : totL l ≤ l.length * M := by
  induction l with
  | nil => simp [totL]
  | cons x r ih =>
    have h1 := h x (by simp)
    have h2 := ih (fun y hy => h y (by simp [hy]))
    rw [totL, List.length_cons, Nat.succ_mul]
    omega
/-- The marks: rows as long as before, the numbers from s on. -/
def markSS : Int → List (List Int) → List (List Int)
  | _, [] => []
  | s, x :: r => seqFrom s x.length :: markSS (s + x.length) r
theorem markSS_length (r : List (List Int)) : ∀ s, (markSS s r).length = r.length := by
  induction r with
  | nil => intro s; rfl
  | cons x r ih => intro s; rw [markSS, List.length_cons, List.length_cons, ih]
theorem markIntSS_l0 (r : List (List Int)) : ∀ (p : List (List Int)) (s i : Int), i = p.length → p.length + r.length ≤ 1048576 → 0 ≤ s → s + totL r ≤ 9000000000000000000 →
    Ev (fun k => laws_markIntSS.l0 k (p ++ r) s i) (s + totL r, p ++ markSS s r) := by
  induction r with
  | nil =>
    intro p s i hi hb h0 hs
    apply ev_up
    simp only [laws_markIntSS.l0]
    refine ev_n (by simp; omega) ?_
    simpa [markSS, totL] using Ev.now (s, p)
  | cons x r ih =>
    intro p s i hi hb h0 hs
    rw [totL] at hs
    simp only [List.length_cons] at hb
    have ht := ih (p ++ [seqFrom s x.length]) (s + x.length) (i + 1) (by simp; omega) (by simp; omega) (by omega) (by omega)
    apply ev_up
    simp only [laws_markIntSS.l0]
    refine ev_p (by simp; omega) (ev_p (by omega) ?_)
    rw [rdIIA hi]
    have e : ∀ v : List Int, (p ++ x :: r).set (i : Int).toNat v = p ++ [v] ++ r := fun v => by rw [setA hi]
    refine Ev.bind (markIntS_ev x s h0 (by omega)) ?_
    dsimp only
    rw [e, w64 (n := i + 1) (by omega) (by omega)]
    refine ev_eq ht ?_
    rw [totL, markSS, List.append_assoc]
    refine Prod.ext ?_ rfl
    simp only
    omega
theorem markIntSS_ev (a : List (List Int)) (h : a.length ≤ 1048576) (hy : ∀ y ∈ a, y.length ≤ 1048576) : Ev (fun k => laws_markIntSS.f k a 1) (1 + totL a, markSS 1 a) := by
  unfold laws_markIntSS.f
  have := totL_le hy
  exact markIntSS_l0 a [] 1 0 rfl (by simpa using h) (by omega) (by omega)

/-! #### heldIntSS -/
theorem heldIntSS_l0 (r : List (List Int)) : ∀ (p : List (List Int)) (s i : Int), i = p.length → p.length + r.length ≤ 1048576 → 0 ≤ s → s + totL r ≤ 9000000000000000000 →
    Ev (fun k => laws_heldIntSS.l0 k (p ++ markSS s r) s i) (s + totL r) := by
  induction r with
  | nil =>
    intro p s i hi hb h0 hs
    apply ev_up
    simp only [laws_heldIntSS.l0]
    exact ev_n (by simp [markSS]; omega) (ev_eq (Ev.now _) (by simp [totL]))
  | cons x r ih =>
    intro p s i hi hb h0 hs
    rw [totL] at hs
    simp only [List.length_cons] at hb
    have ht := ih (p ++ [seqFrom s x.length]) (s + x.length) (i + 1) (by simp; omega) (by simp; omega) (by omega) (by omega)
    apply ev_up
    simp only [laws_heldIntSS.l0]
    refine ev_p (by simp [markSS]; omega) (ev_p (by omega) ?_)
    rw [markSS, rdIIA hi]
    refine Ev.bind (heldIntS_ev x.length s h0 (by omega)) (ev_n (by omega) ?_)
    rw [w64 (n := i + 1) (by omega) (by omega), appA]
    refine ev_eq ht ?_
    rw [totL]
    omega
theorem heldIntSS_ev (a : List (List Int)) (h : a.length ≤ 1048576) (hy : ∀ y ∈ a, y.length ≤ 1048576) : Ev (fun k => laws_heldIntSS.f k (markSS 1 a) 1) (1 + totL a) := by
  unfold laws_heldIntSS.f
  have := totL_le hy
  exact heldIntSS_l0 a [] 1 0 rfl (by simpa using h) (by omega) (by omega)

/-! #### eqIntSS -/
theorem eqIntSS_l0 (r : List (List Int)) : ∀ (s p q : List (List Int)) (i : Int), i = p.length → p.length = q.length → r.length = s.length → p.length + r.length ≤ 9223372036854775807 → (∀ y ∈ r, y.length ≤ 9223372036854775807) →
    Ev (fun k => laws_eqIntSS.l0 k (p ++ r) (q ++ s) i) (decide (r = s)) := by
  induction r with
  | nil =>
    intro s p q i hi hpq hrs hb hy
    obtain rfl : s = [] := List.length_eq_zero_iff.1 hrs.symm
    apply ev_up
    simp only [laws_eqIntSS.l0]
    refine ev_n (by simp; omega) ?_
    simpa using Ev.now true
  | cons x r ih =>
    intro s p q i hi hpq hrs hb hy
    match s, hrs with
    | y :: s, hrs =>
      simp only [List.length_cons] at hrs hb
      apply ev_up
      simp only [laws_eqIntSS.l0]
      refine ev_p (by simp; omega) (ev_p (by omega) (ev_p (by simp; omega) ?_))
      rw [rdIIA hi, rdIIA (by omega)]
      refine Ev.bind (eqIntS_ev x y (hy x (by simp))) ?_
      refine ev_ite (fun hxy => ?_) (fun hxy => ?_)
      · obtain rfl := of_decide_eq_true hxy
        rw [w64 (by omega) (by omega), appA, appA (p := q)]
        refine ev_eq (ih s (p ++ [x]) (q ++ [x]) (i + 1) (by simp; omega) (by simp; omega) (by omega) (by simp; omega) (fun y h => hy y (by simp [h]))) ?_
        simp
      · refine ev_eq (Ev.now false) ?_
        have hxy' : ¬ x = y := fun e => hxy (decide_eq_true e)
        simp [hxy']
theorem eqIntSS_ev (a b : List (List Int)) (h : a.length ≤ 9223372036854775807) (hy : ∀ y ∈ a, y.length ≤ 9223372036854775807) : Ev (fun k => laws_eqIntSS.f k a b) (decide (a = b)) := by
  unfold laws_eqIntSS.f
  refine ev_ite (fun hl => ?_) (fun hl => ?_)
  · exact eqIntSS_l0 a b [] [] 0 rfl rfl (by omega) (by simpa using h) hy
  · refine ev_eq (Ev.now false) ?_
    symm
    apply decide_eq_false
    rintro rfl
    exact hl rfl

/-! #### FnExactLevelWires -/
theorem FnExactLevelWires (a0_0 : Int) (l0_1 : (List (S151))) (l0_2 : (List Int)) (a1 : Int) : I64 a0_0 → (l0_1.length ≤ 9223372036854775807 ∧ ∀ y2 ∈ l0_1, I64 y2.f0 ∧ I64 y2.f1 ∧ I64 y2.f2) → (l0_2.length ≤ 9223372036854775807 ∧ ∀ y2 ∈ l0_2, I64 y2) → I64 a1 → ∃ k, laws_FnExactLevelWires.f k a0_0 l0_1 l0_2 a1 = some true := by
  rintro hn ⟨hg, _⟩ ⟨ho, _⟩ hk1
  apply ev_get
  obtain ⟨t, ht, hq⟩ := szCircuit_eq a0_0 l0_1 l0_2 hg ho
  unfold laws_FnExactLevelWires.f
  rw [ht]
  refine Ev.bind (ev_c rfl) (ev_ite (fun _ => Ev.now _) (fun h => ?_))
  obtain ⟨hg2, ho2⟩ := hq h
  have hto := toCircuit_ev a0_0 l0_1 l0_2 hg2 ho2
  have hgm : (l0_1.map cvGate).length ≤ 1048576 := by simpa using hg2
  have heq := eqCircuit_self a0_0 (l0_1.map cvGate) l0_2 (by omega) (by omega)
  have hs := spec_LevelWires_ev a0_0 (l0_1.map cvGate) l0_2 a1 hn hk1 hgm ho2
  have hi := impl_LevelWires_ev a0_0 (l0_1.map cvGate) l0_2 a1 hk1 hgm ho2
  obtain ⟨hR1, hR2⟩ := levelWiresM_length a0_0 (l0_1.map cvGate) l0_2 a1
  generalize levelWiresM a0_0 (l0_1.map cvGate) l0_2 a1 = R at hs hi hR1 hR2
  have heqR : Ev (fun k => laws_eqIntSS.f k R.1 R.1) true := by simpa using eqIntSS_ev R.1 R.1 (by omega) (fun y h => by have := hR2 y h; omega)
  have hmr := markIntSS_ev R.1 (by omega) (fun y h => by have := hR2 y h; omega)
  have hhr := heldIntSS_ev R.1 (by omega) (fun y h => by have := hR2 y h; omega)
  obtain ⟨m, u, v, hm0, _, hmc⟩ := markCircuit_ev a0_0 (l0_1.map cvGate) l0_2 hgm ho2
  repeat (first
    | (with_reducible exact Ev.now _)
    | (with_reducible refine Ev.bind hto ?_)
    | (with_reducible refine Ev.bind hs ?_)
    | (with_reducible refine Ev.bind hi ?_)
    | (with_reducible refine Ev.bind heq ?_)
    | (with_reducible refine Ev.bind heqR ?_)
    | (with_reducible refine Ev.bind hmr ?_)
    | (with_reducible refine Ev.bind hhr ?_)
    | (with_reducible refine Ev.bind hmc ?_)
    | (with_reducible refine ev_p rfl ?_)
    | (with_reducible refine ev_p True.intro ?_)
    | (refine ev_n ?h ?_; case h => (first | omega | (simp; done) | (simp; omega))))

end Go.Proofs.Ytnldkpljchkkbaa.Pure
