/- The pure part of the law FnExactDropUnused: what the program and the reference compute is the same, for all arguments. Conditions: the numbers are of Go's int, the lengths of slices are. -/
import Derived.Test.YtdhhncmhmfhfpaaSFnExactDropUnusedx9
import Derived.Test.YtdhhncmhmfhfpaaVDUKit
set_option linter.unusedVariables false
set_option linter.unusedSimpArgs false
namespace Go.Proofs.Ytdhhncmhmfhfpaa.Pure
open Go.RowKit Go.Proofs.Ytdhhncmhmfhfpaa.QFnExactDropUnused Go.Proofs.YtdhhncmhmfhfpaaW.PrintWords Go.Proofs.YtdhhncmhmfhfpaaW.PrintLast Go.Proofs.Ytdhhncmhmfhfpaa.Open Go.Proofs.Ytdhhncmhmfhfpaa.Kit

/-! #### szIntS -/
theorem szIntS_eq (l : List Int) (a : Int) (ha : 0 ≤ a) (ha2 : a ≤ 1048576) (hl : l.length ≤ 9223372036854775807) : laws_szIntS.f l a = some (if l.length ≤ a then a - l.length else -1) := by
  unfold laws_szIntS.f
  rw [w64 (by omega) (by omega)]
  by_cases h : (l.length : Int) ≤ a
  · rw [if_neg (by omega), if_pos h]
  · rw [if_pos (by omega), if_neg h]

/-! #### szCircuit -/
theorem szGateS_eq (l : List S88) (a : Int) (ha : 0 ≤ a) (ha2 : a ≤ 1048576) (hl : l.length ≤ 9223372036854775807) : laws_szGateS.f l a = some (if l.length ≤ a then a - l.length else -1) := by
  unfold laws_szGateS.f
  rw [w64 (by omega) (by omega)]
  by_cases h : (l.length : Int) ≤ a
  · rw [if_neg (by omega), if_pos h]
  · rw [if_pos (by omega), if_neg h]
theorem szCircuit_eq (n : Int) (gs : List S88) (os : List Int) (hg : gs.length ≤ 9223372036854775807) (ho : os.length ≤ 9223372036854775807) :
    ∃ t, laws_szCircuit.f n gs os 1048576 = some t ∧ (¬ t < 0 → gs.length ≤ 1048576 ∧ os.length ≤ 1048576) := by
  unfold laws_szCircuit.f
  rw [szGateS_eq gs 1048576 (by omega) (by omega) hg, Option.bind_some]
  by_cases h : (gs.length : Int) ≤ 1048576
  · rw [if_pos h, if_neg (by omega), szIntS_eq os _ (by omega) (by omega) ho, Option.bind_some]
    by_cases h2 : (os.length : Int) ≤ 1048576 - gs.length
    · rw [if_pos h2, if_neg (by omega)]
      exact ⟨_, rfl, fun _ => by omega⟩
    · rw [if_neg h2, if_pos (by decide)]
      exact ⟨_, rfl, fun h => absurd (by decide) h⟩
  · rw [if_neg h, if_pos (by decide)]
    exact ⟨_, rfl, fun h => absurd (by decide) h⟩

/-! #### gateT -/
theorem rdLGateA {p r : List S88} {x : S88} {i : Int} (hi : i = p.length) : rd_T88 (p ++ x :: r) i = x := getDA hi
theorem rdGateA {p r : List S72} {x : S72} {i : Int} (hi : i = p.length) : rd_T72 (p ++ x :: r) i = x := getDA hi
/-- A gate of the laws as one of the program. -/
def cvGate (x : S88) : S72 := ⟨x.f0, x.f1, x.f2⟩

/-! #### toGateS -/
theorem toGateS_l0 (r : List S88) : ∀ (p : List S88) (z : List S72) (i : Int), i = p.length → z.length = r.length → p.length + r.length ≤ 9223372036854775806 →
    Ev (fun k => laws_toGateS.l0 k (p ++ r) (p.map cvGate ++ z) i) ((p ++ r).map cvGate) := by
  induction r with
  | nil =>
    intro p z i hi hz hb
    obtain rfl : z = [] := List.length_eq_zero_iff.1 hz
    apply ev_up
    simp only [laws_toGateS.l0]
    refine ev_n (by simp; omega) ?_
    simpa using Ev.now (p.map cvGate)
  | cons x r ih =>
    intro p z i hi hz hb
    match z, hz with
    | y :: z, hz =>
      simp only [List.length_cons] at hz hb
      apply ev_up
      simp only [laws_toGateS.l0]
      refine ev_p (by simp; omega) (ev_p (by omega) ?_)
      rw [rdLGateA hi]
      refine Ev.bind (ev_c (show laws_toGate.f x.f0 x.f1 x.f2 = some (x.f0, x.f1, x.f2) from rfl)) (ev_p (by simp; omega) ?_)
      rw [setA (by simpa using hi), w64 (by omega) (by omega), appA]
      have := ih (p ++ [x]) z (i + 1) (by simp; omega) (by omega) (by simp; omega)
      simpa [cvGate] using this
theorem toGateS_ev (a : List S88) (h : a.length ≤ 1048576) : Ev (fun k => laws_toGateS.f k a) (a.map cvGate) := by
  unfold laws_toGateS.f
  refine ev_p (by omega) (ev_p (by omega) ?_)
  exact toGateS_l0 a [] (List.replicate ((a.length : Int)).toNat z72) 0 rfl (by simp) (by simp; omega)

/-! #### toIntS -/
theorem toIntS_l0 (r : List Int) : ∀ (p z : List Int) (i : Int), i = p.length → z.length = r.length → p.length + r.length ≤ 9223372036854775806 →
    Ev (fun k => laws_toIntS.l0 k (p ++ r) (p ++ z) i) (p ++ r) := by
  induction r with
  | nil =>
    intro p z i hi hz hb
    obtain rfl : z = [] := List.length_eq_zero_iff.1 hz
    apply ev_up
    simp only [laws_toIntS.l0]
    refine ev_n (by simp; omega) ?_
    exact Ev.now _
  | cons x r ih =>
    intro p z i hi hz hb
    match z, hz with
    | y :: z, hz =>
      simp only [List.length_cons] at hz hb
      apply ev_up
      simp only [laws_toIntS.l0]
      refine ev_p (by simp; omega) (ev_p (by omega) (ev_p (by simp; omega) ?_))
      rw [rdA hi, setA hi, w64 (by omega) (by omega), appA]
      exact ih (p ++ [x]) z (i + 1) (by simp; omega) (by omega) (by simp; omega)
theorem toIntS_ev (a : List Int) (h : a.length ≤ 35184372088832) : Ev (fun k => laws_toIntS.f k a) a := by
  unfold laws_toIntS.f
  refine ev_p (by omega) (ev_p (by omega) ?_)
  exact toIntS_l0 a [] (List.replicate ((a.length : Int)).toNat 0) 0 rfl (by simp) (by simp; omega)
/-! #### toCircuit -/
theorem toCircuit_ev (n : Int) (gs : List S88) (os : List Int) (hg : gs.length ≤ 1048576) (ho : os.length ≤ 1048576) : Ev (fun k => laws_toCircuit.f k n gs os) (n, gs.map cvGate, os) := by
  unfold laws_toCircuit.f
  exact Ev.bind (toGateS_ev gs hg) (Ev.bind (toIntS_ev os (by omega)) (Ev.now _))

/-! #### eqGateS -/
theorem eqGateS_l0 (r : List S72) : ∀ (p : List S72) (i : Int), i = p.length → p.length + r.length ≤ 9223372036854775807 →
    Ev (fun k => laws_eqGateS.l0 k (p ++ r) (p ++ r) i) true := by
  induction r with
  | nil =>
    intro p i hi hb
    apply ev_up
    simp only [laws_eqGateS.l0]
    exact ev_n (by simp; omega) (Ev.now true)
  | cons x r ih =>
    intro p i hi hb
    simp only [List.length_cons] at hb
    apply ev_up
    simp only [laws_eqGateS.l0]
    refine ev_p (by simp; omega) (ev_p (by omega) (ev_p (by simp; omega) ?_))
    rw [rdGateA hi]
    refine Ev.bind (ev_c (show laws_eqGate.f x.f0 x.f1 x.f2 x.f0 x.f1 x.f2 = some true by unfold laws_eqGate.f; rw [if_pos rfl, if_pos rfl, if_pos rfl])) (ev_p rfl ?_)
    rw [w64 (by omega) (by omega), appA]
    exact ih (p ++ [x]) (i + 1) (by simp; omega) (by simp; omega)
theorem eqGateS_self (a : List S72) (h : a.length ≤ 9223372036854775807) : Ev (fun k => laws_eqGateS.f k a a) true := by
  unfold laws_eqGateS.f
  exact ev_p rfl (eqGateS_l0 a [] 0 rfl (by simpa using h))

/-! #### eqIntS -/
theorem eqIntS_l0 (r : List Int) : ∀ (s p q : List Int) (i : Int), i = p.length → p.length = q.length → r.length = s.length → p.length + r.length ≤ 9223372036854775807 →
    Ev (fun k => laws_eqIntS.l0 k (p ++ r) (q ++ s) i) (decide (r = s)) := by
  induction r with
  | nil =>
    intro s p q i hi hpq hrs hb
    obtain rfl : s = [] := List.length_eq_zero_iff.1 hrs.symm
    apply ev_up
    simp only [laws_eqIntS.l0]
    refine ev_n (by simp; omega) ?_
    simpa using Ev.now true
  | cons x r ih =>
    intro s p q i hi hpq hrs hb
    match s, hrs with
    | y :: s, hrs =>
      simp only [List.length_cons] at hrs hb
      apply ev_up
      simp only [laws_eqIntS.l0]
      refine ev_p (by simp; omega) (ev_p (by omega) (ev_p (by simp; omega) ?_))
      rw [rdA hi, rdA (by omega)]
      refine ev_ite (fun hxy => ?_) (fun hxy => ?_)
      · subst hxy
        rw [w64 (by omega) (by omega), appA, appA (p := q)]
        refine ev_eq (ih s (p ++ [x]) (q ++ [x]) (i + 1) (by simp; omega) (by simp; omega) (by omega) (by simp; omega)) ?_
        simp
      · refine ev_eq (Ev.now false) ?_
        simp [hxy]
theorem eqIntS_ev (a b : List Int) (h : a.length ≤ 9223372036854775807) : Ev (fun k => laws_eqIntS.f k a b) (decide (a = b)) := by
  unfold laws_eqIntS.f
  refine ev_ite (fun hl => ?_) (fun hl => ?_)
  · exact eqIntS_l0 a b [] [] 0 rfl rfl (by omega) (by simpa using h)
  · refine ev_eq (Ev.now false) ?_
    symm
    apply decide_eq_false
    rintro rfl
    exact hl rfl

/-! #### eqCircuit -/
theorem eqCircuit_self (n : Int) (gs : List S72) (os : List Int) (hg : gs.length ≤ 9223372036854775807) (ho : os.length ≤ 9223372036854775807) : Ev (fun k => laws_eqCircuit.f k n gs os n gs os) true := by
  unfold laws_eqCircuit.f
  have heq : Ev (fun k => laws_eqIntS.f k os os) true := by simpa using eqIntS_ev os os ho
  exact ev_p rfl (Ev.bind (eqGateS_self gs hg) (ev_p rfl (Ev.bind heq (ev_p rfl (Ev.now _)))))

/-! #### l1In -/
theorem l1In_eq (a b c : Int) : spec_l1In.f a b c = some (decide (b ≤ a ∧ a ≤ c)) := by
  unfold spec_l1In.f
  by_cases h : b ≤ a
  · rw [if_pos h]; simp [h]
  · rw [if_neg h]; simp [h]

/-! #### l1All -/
def inB (a b : Int) (x : Int) : Bool := decide (a ≤ x ∧ x ≤ b)
theorem l1All_l0 (l : List Int) (a b : Int) (hl : l.length ≤ 9223372036854775807) (r : List Int) : ∀ (p : List Int) (i : Int), i = p.length → l = p ++ r →
    Ev (fun k => spec_l1All.l0 k a b l l.length i) (r.all (inB a b)) := by
  induction r with
  | nil =>
    intro p i hi e
    have hlen : l.length = p.length := by rw [e]; simp
    apply ev_up
    simp only [spec_l1All.l0]
    exact ev_n (by omega) (Ev.now _)
  | cons x r ih =>
    intro p i hi e
    have hlen : l.length = p.length + r.length + 1 := by rw [e]; simp; omega
    have hx : rd l i = x := by rw [e]; exact rdA hi
    have ih' := ih (p ++ [x]) (i + 1) (by simp; omega) (by rw [e]; simp)
    apply ev_up
    simp only [spec_l1All.l0]
    refine ev_p (by omega) (ev_p (by omega) (ev_p (by omega) ?_))
    rw [hx, l1In_eq]
    refine Ev.bind (ev_c rfl) ?_
    refine ev_ite (fun h => ?_) (fun h => ?_)
    · rw [w64 (by omega) (by omega)]
      refine ev_eq ih' ?_
      rw [List.all_cons, show inB a b x = true from h, Bool.true_and]
    · refine ev_eq (Ev.now _) ?_
      rw [List.all_cons, show inB a b x = false from decide_eq_false (fun hh => h (decide_eq_true hh)), Bool.false_and]
theorem l1All_ev (l : List Int) (a b : Int) (hl : l.length ≤ 9223372036854775807) : Ev (fun k => spec_l1All.f k l a b) (l.all (inB a b)) := by
  unfold spec_l1All.f
  exact l1All_l0 l a b hl l [] 0 rfl rfl

/-! #### ttInputs -/
theorem ttInputs_eq (a : Int) : spec_ttInputs.f a = some (decide (0 ≤ a ∧ a ≤ 4)) := by
  unfold spec_ttInputs.f
  rw [l1In_eq, Option.bind_some]

/-! #### circuitM -/
/-- A gate is good where there are w wires before it. -/
def gateOk (w : Int) (g : S72) : Bool := decide (1 ≤ g.f0 ∧ g.f0 ≤ 4 ∧ 0 ≤ g.f1 ∧ g.f1 < w ∧ 0 ≤ g.f2 ∧ g.f2 < w ∧ (g.f0 = 4 → g.f1 = g.f2))
def gatesOk (w : Int) : List S72 → Bool
  | [] => true
  | g :: r => gateOk w g && gatesOk (w + 1) r
def circuitM (n : Int) (gs : List S72) (os : List Int) : Bool := decide (0 ≤ n ∧ n ≤ 4 ∧ gs.length ≤ 16 ∧ 1 ≤ os.length ∧ os.length ≤ 4) && (gatesOk n gs && os.all (inB 0 (n + gs.length - 1)))

/-! #### gatesOkI -/
theorem circuitM_of {n : Int} {gs : List S72} {os : List Int} (h : circuitM n gs os = true) :
    ∃ a : Nat, n = a ∧ a ≤ 4 ∧ gs.length ≤ 16 ∧ 1 ≤ os.length ∧ os.length ≤ 4 ∧ gatesOk n gs = true ∧ ∀ o ∈ os, 0 ≤ o ∧ o < n + gs.length := by
  unfold circuitM at h
  rw [Bool.and_eq_true, Bool.and_eq_true, List.all_eq_true] at h
  obtain ⟨h1, h2, h3⟩ := h
  obtain ⟨h4, h5, h6, h7, h8⟩ := of_decide_eq_true h1
  obtain ⟨a, rfl⟩ := nat_of h4
  refine ⟨a, rfl, by omega, h6, h7, h8, h2, fun o ho => ?_⟩
  have := of_decide_eq_true (h3 o ho)
  omega

/-! #### usedM -/
theorem rdOfN {u : List Bool} {n : Nat} (h : n < u.length) : rdOf false u (n : Int) = u[n] := by
  simp [rdOf, List.getD_eq_getElem?_getD, List.getElem?_eq_getElem h]
def setU (u : List Bool) (i : Int) : List Bool := u.set i.toNat true
theorem setU_length (u : List Bool) (i : Int) : (setU u i).length = u.length := by simp [setU]
/-- The used wires of the gates d - 1, d - 2, .. 0. -/
def usedR (n : Nat) (gs : List S72) : Nat → List Bool → List Bool
  | 0, u => u
  | d + 1, u => usedR n gs d (if rdOf false u ((n + d : Nat) : Int) = true then setU (setU u (rd_T72 gs (d : Int)).f1) (rd_T72 gs (d : Int)).f2 else u)
theorem usedR_length (n : Nat) (gs : List S72) (d : Nat) : ∀ u, (usedR n gs d u).length = u.length := by
  induction d with
  | zero => intro u; rfl
  | succ d ih =>
    intro u
    rw [usedR, ih]
    split <;> simp [setU_length]
def usedO : List Bool → List Int → List Bool
  | u, [] => u
  | u, o :: r => usedO (setU u o) r
theorem usedO_length (r : List Int) : ∀ u, (usedO u r).length = u.length := by
  induction r with
  | nil => intro u; rfl
  | cons o r ih => intro u; rw [usedO, ih, setU_length]
def usedM (n : Nat) (gs : List S72) (os : List Int) : List Bool := usedR n gs gs.length (usedO (List.replicate (n + gs.length) false) os)
theorem usedM_length (n : Nat) (gs : List S72) (os : List Int) : (usedM n gs os).length = n + gs.length := by
  unfold usedM
  rw [usedR_length, usedO_length, List.length_replicate]
/-- The gate with index d reads wires before it. -/
theorem gatesOk_at {gs : List S72} {n : Nat} : ∀ {w : Int}, gatesOk w gs = true → n < gs.length → gateOk (w + n) (rd_T72 gs (n : Int)) = true := by
  induction gs generalizing n with
  | nil => intro w _ h; simp at h
  | cons g r ih =>
    intro w h hn
    rw [gatesOk, Bool.and_eq_true] at h
    cases n with
    | zero =>
      have e : rd_T72 (g :: r) ((0 : Nat) : Int) = g := rfl
      rw [e]
      simpa using h.1
    | succ n =>
      have e : rd_T72 (g :: r) ((n + 1 : Nat) : Int) = rd_T72 r (n : Int) := by
        unfold rd_T72
        rw [Int.toNat_natCast, Int.toNat_natCast]
        rfl
      rw [e]
      have := ih h.2 (by simpa using hn)
      rw [show w + ((n + 1 : Nat) : Int) = w + 1 + n by omega]
      exact this

/-! #### selU -/
/-- The places i, i + 1, .. (d of them) where f holds. -/
def selU (f : Nat → Bool) : Nat → Nat → List Int
  | _, 0 => []
  | i, d + 1 => (if f i then [(i : Int)] else []) ++ selU f (i + 1) d
theorem selU_length (f : Nat → Bool) (d : Nat) : ∀ i, (selU f i d).length ≤ d := by
  induction d with
  | zero => intro i; simp [selU]
  | succ d ih =>
    intro i
    have := ih (i + 1)
    rw [selU]
    split <;> simp <;> omega

/-! #### rdMem -/
theorem rd_mem {ds : List Int} {i : Int} (h0 : 0 ≤ i) (h1 : i < ds.length) : rd ds i ∈ ds := by
  obtain ⟨n, rfl⟩ := nat_of h0
  have hn : n < ds.length := by omega
  rw [rdN hn]
  exact List.getElem_mem hn


/-! #### dropM -/
def dropM (f : Nat → Bool) (n : Nat) (gs : List S72) : Nat → Nat → List Int → List S72 → List Int × List S72
  | _, 0, m, out => (m, out)
  | i, d + 1, m, out => if f i = true then dropM f n gs (i + 1) d (m.set (n + i) ((n + out.length : Nat) : Int)) (out ++ [⟨(rd_T72 gs (i : Int)).f0, rd m (rd_T72 gs (i : Int)).f1, rd m (rd_T72 gs (i : Int)).f2⟩]) else dropM f n gs (i + 1) d m out
theorem dropM_length (f : Nat → Bool) (n : Nat) (gs : List S72) (d : Nat) : ∀ i m out, (dropM f n gs i d m out).1.length = m.length ∧ (dropM f n gs i d m out).2.length ≤ out.length + d := by
  induction d with
  | zero => intro i m out; exact ⟨rfl, Nat.le_refl _⟩
  | succ d ih =>
    intro i m out
    rw [dropM]
    split
    · obtain ⟨h1, h2⟩ := ih (i + 1) (m.set (n + i) ((n + out.length : Nat) : Int)) (out ++ [⟨(rd_T72 gs (i : Int)).f0, rd m (rd_T72 gs (i : Int)).f1, rd m (rd_T72 gs (i : Int)).f2⟩])
      refine ⟨by rw [h1, List.length_set], Nat.le_trans h2 ?_⟩
      simp
      omega
    · obtain ⟨h1, h2⟩ := ih (i + 1) m out
      exact ⟨h1, by omega⟩
/-- The first j inputs are themselves. -/
def inpM (W j : Nat) : List Int := rmap W (fun k => if k < j then (k : Int) else 0)
theorem inpM_set {W j : Nat} (h : j < W) : (inpM W j).set j (j : Int) = inpM W (j + 1) := by
  unfold inpM
  rw [rmap_set h]
  apply rmap_congr
  intro k _
  by_cases c : k = j
  · rw [if_pos c, if_pos (by omega), c]
  · by_cases c2 : k < j
    · rw [if_neg c, if_pos c2, if_pos (by omega)]
    · rw [if_neg c, if_neg c2, if_neg (by omega)]
theorem inpM_length (W j : Nat) : (inpM W j).length = W := rmap_length _ _
theorem inpM_zero (W : Nat) : List.replicate W (0 : Int) = inpM W 0 := by
  unfold inpM
  rw [rmap_const]
  exact rmap_congr (fun k _ => by rw [if_neg (by omega)])
theorem rd_set_ne {m : List Int} {a : Nat} {b v : Int} (h0 : 0 ≤ b) (h : b ≠ a) : rd (m.set a v) b = rd m b := by
  obtain ⟨c, rfl⟩ := nat_of h0
  unfold rd
  rw [Int.toNat_natCast, List.getD_eq_getElem?_getD, List.getD_eq_getElem?_getD, List.getElem?_set_ne (by omega)]
def usedF (n : Nat) (gs : List S72) (os : List Int) (i : Nat) : Bool := rdOf false (usedM n gs os) ((n + i : Nat) : Int)
def dropR (n : Nat) (gs : List S72) (os : List Int) : List Int × List S72 := dropM (usedF n gs os) n gs 0 gs.length (inpM (n + gs.length) n) []
def dropCM (n : Int) (gs : List S72) (os : List Int) : Int × List S72 × List Int × Bool := if circuitM n gs os = true then (n, (dropR n.toNat gs os).2, os.map (rd (dropR n.toNat gs os).1), true) else (0, [], [], false)
theorem dropR_length (n : Nat) (gs : List S72) (os : List Int) : (dropR n gs os).1.length = n + gs.length ∧ (dropR n gs os).2.length ≤ gs.length := by
  unfold dropR
  obtain ⟨h1, h2⟩ := dropM_length (usedF n gs os) n gs gs.length 0 (inpM (n + gs.length) n) []
  exact ⟨by rw [h1, inpM_length], by simpa using h2⟩
theorem dropCM_length (n : Int) (gs : List S72) (os : List Int) : (dropCM n gs os).2.1.length ≤ 16 ∧ (dropCM n gs os).2.2.1.length ≤ 4 := by
  unfold dropCM
  split
  · rename_i h
    obtain ⟨a, rfl, ha, hg, ho1, ho, _⟩ := circuitM_of h
    have := (dropR_length a gs os).2
    simp only [Int.toNat_natCast, List.length_map]
    omega
  · simp

/-! #### spec_ciUsed -/
theorem spec_ciUsed_l1 (n : Nat) (gs : List S72) (os : List Int) (hn : n ≤ 4) (hg : gs.length ≤ 16) (hk : gatesOk n gs = true) (d : Nat) : ∀ (u : List Bool), d ≤ gs.length → u.length = n + gs.length →
    Ev (fun k => spec_ciUsed.l1 k u ((d : Int) - 1) n gs os) (usedR n gs d u) := by
  induction d with
  | zero =>
    intro u hd hu
    apply ev_up
    simp only [spec_ciUsed.l1]
    exact ev_n (by omega) (Ev.now _)
  | succ d ih =>
    intro u hd hu
    have hk1 := of_decide_eq_true (gatesOk_at hk (show d < gs.length by omega))
    have e : ((d + 1 : Nat) : Int) - 1 = d := by omega
    apply ev_up
    simp only [spec_ciUsed.l1]
    rw [e, wN (n := (n : Int) + d) (m := n + d) (by omega) (by omega), w64 (n := (d : Int) - 1) (by omega) (by omega), usedR]
    refine ev_p (by omega) (ev_p (by omega) (ev_p (by omega) (ev_ite (fun c => ?_) (fun c => ?_))))
    · rw [if_pos c]
      refine ev_p (by omega) (ev_p (by omega) (ev_p (by omega) (ev_p (by omega) (ev_p (by omega) (ev_p (by omega) ?_)))))
      exact ih _ (by omega) (by rw [List.length_set, List.length_set]; exact hu)
    · rw [if_neg c]
      exact ih u (by omega) hu
theorem spec_ciUsed_l0 (n : Nat) (gs : List S72) (os : List Int) (hn : n ≤ 4) (hg : gs.length ≤ 16) (hk : gatesOk n gs = true) (ho : os.length ≤ 4) (hor : ∀ o ∈ os, 0 ≤ o ∧ o < n + gs.length) (r : List Int) : ∀ (p : List Int) (u : List Bool) (i : Int), i = p.length → os = p ++ r → u.length = n + gs.length →
    Ev (fun k => spec_ciUsed.l0 k u os os.length i n gs os) (usedR n gs gs.length (usedO u r)) := by
  induction r with
  | nil =>
    intro p u i hi e hu
    have hlen : os.length = p.length := by rw [e]; simp
    apply ev_up
    simp only [spec_ciUsed.l0]
    rw [w64 (n := (gs.length : Int) - 1) (by omega) (by omega)]
    refine ev_n (by omega) ?_
    exact spec_ciUsed_l1 n gs os hn hg hk gs.length u (Nat.le_refl _) hu
  | cons o r ih =>
    intro p u i hi e hu
    have hlen : os.length = p.length + r.length + 1 := by rw [e]; simp; omega
    have hx : rd os i = o := by rw [e]; exact rdA hi
    have hob := hor o (by rw [e]; simp)
    apply ev_up
    simp only [spec_ciUsed.l0]
    refine ev_p (by omega) (ev_p (by omega) (ev_p (by omega) ?_))
    rw [hx, w64 (n := i + 1) (by omega) (by omega), usedO]
    refine ev_p (by omega) (ev_p (by omega) ?_)
    exact ih (p ++ [o]) (setU u o) (i + 1) (by simp; omega) (by rw [e]; simp) (by rw [setU_length]; exact hu)
theorem spec_ciUsed_ev (n : Nat) (gs : List S72) (os : List Int) (h : circuitM n gs os = true) : Ev (fun k => spec_ciUsed.f k n gs os) (usedM n gs os) := by
  obtain ⟨b, hab, ha, hg, _, ho, hk, hor⟩ := circuitM_of h
  unfold spec_ciUsed.f usedM
  rw [wN (n := (n : Int) + gs.length) (m := n + gs.length) (by omega) (by omega), Int.toNat_natCast]
  exact ev_p (by omega) (ev_p (by omega) (spec_ciUsed_l0 n gs os (by omega) hg hk ho hor os [] _ 0 rfl rfl (by simp)))

/-! #### spec_ciGood -/
theorem spec_ciGood_end (n : Int) (gs : List S72) (os : List Int) (hn : I64 n) (hg : gs.length ≤ 1048576) (ho : os.length ≤ 1048576) :
    Ev (fun k => (spec_ttInputs.f n).bind fun t108 => (if t108 = true then (if (gs.length : Int) ≤ 16 then ((spec_l1In.f (os.length : Int) 1 4).bind fun t109 => (if t109 = true then ((spec_l1All.f k os 0 (wrap64 ((wrap64 (n + (gs.length : Int))) - 1))).bind fun t110 => (some t110)) else (some false))) else (some false)) else (some false)))
      (decide (0 ≤ n ∧ n ≤ 4 ∧ gs.length ≤ 16 ∧ 1 ≤ os.length ∧ os.length ≤ 4) && os.all (inB 0 (n + gs.length - 1))) := by
  rw [ttInputs_eq, l1In_eq]
  refine Ev.bind (ev_c rfl) (ev_ite (fun h1 => ?_) (fun h1 => ?_))
  · have h1' := of_decide_eq_true h1
    refine ev_ite (fun h2 => ?_) (fun h2 => ?_)
    · refine Ev.bind (ev_c rfl) (ev_ite (fun h3 => ?_) (fun h3 => ?_))
      · have h3' := of_decide_eq_true h3
        rw [w64 (n := n + gs.length) (by omega) (by omega), w64 (by omega) (by omega), decide_eq_true (by omega), Bool.true_and]
        exact Ev.bind (l1All_ev os 0 _ (by omega)) (Ev.now _)
      · rw [decide_eq_false (fun hh => h3 (decide_eq_true (by omega))), Bool.false_and]
        exact Ev.now _
    · rw [decide_eq_false (by omega), Bool.false_and]
      exact Ev.now _
  · rw [decide_eq_false (fun hh => h1 (decide_eq_true (by omega))), Bool.false_and]
    exact Ev.now _
theorem spec_ciGood_l0 (n : Int) (gs : List S72) (os : List Int) (hn : I64 n) (hg : gs.length ≤ 1048576) (ho : os.length ≤ 1048576) (r : List S72) : ∀ (p : List S72) (i : Int), i = p.length → gs = p ++ r →
    Ev (fun k => spec_ciGood.l0 k gs gs.length i n gs os) (decide (0 ≤ n ∧ n ≤ 4 ∧ gs.length ≤ 16 ∧ 1 ≤ os.length ∧ os.length ≤ 4) && (gatesOk (n + i) r && os.all (inB 0 (n + gs.length - 1)))) := by
  have hn' := hn
  unfold I64 at hn'
  induction r with
  | nil =>
    intro p i hi e
    have hlen : gs.length = p.length := by rw [e]; simp
    apply ev_up
    simp only [spec_ciGood.l0]
    refine ev_n (by omega) ?_
    rw [gatesOk, Bool.true_and]
    exact spec_ciGood_end n gs os hn hg ho
  | cons x r ih =>
    intro p i hi e
    have hlen : gs.length = p.length + r.length + 1 := by rw [e]; simp; omega
    have hx : rd_T72 gs i = x := by rw [e]; exact rdGateA hi
    have ih' := ih (p ++ [x]) (i + 1) (by simp; omega) (by rw [e]; simp)
    apply ev_up
    simp only [spec_ciGood.l0]
    refine ev_p (by omega) (ev_p (by omega) (ev_p (by omega) ?_))
    rw [hx, w64 (n := i + 1) (by omega) (by omega)]
    simp only [l1In_eq]
    by_cases hv : 0 ≤ n ∧ n ≤ 4
    · rw [w64 (n := n + i) (by omega) (by omega), w64 (n := n + i - 1) (by omega) (by omega)]
      have no : gateOk (n + i) x = false → Ev (fun _ => some false) (decide (0 ≤ n ∧ n ≤ 4 ∧ gs.length ≤ 16 ∧ 1 ≤ os.length ∧ os.length ≤ 4) && (gatesOk (n + i) (x :: r) && os.all (inB 0 (n + gs.length - 1)))) := fun h => by
        rw [gatesOk, h, Bool.false_and, Bool.false_and, Bool.and_false]
        exact Ev.now _
      have yes : gateOk (n + i) x = true → Ev (fun k => spec_ciGood.l0 k gs gs.length (i + 1) n gs os) (decide (0 ≤ n ∧ n ≤ 4 ∧ gs.length ≤ 16 ∧ 1 ≤ os.length ∧ os.length ≤ 4) && (gatesOk (n + i) (x :: r) && os.all (inB 0 (n + gs.length - 1)))) := fun h => by
        rw [gatesOk, h, Bool.true_and, Int.add_assoc]
        exact ih'
      refine Ev.bind (ev_c rfl) (ev_ite (fun h1 => Ev.bind (ev_c rfl) (ev_ite (fun h2 => Ev.bind (ev_c rfl) (ev_ite (fun h3 => ev_ite (fun h4 => ev_ite (fun h5 => ?_) (fun h5 => ?_)) (fun h4 => ?_)) (fun h3 => ?_))) (fun h2 => ?_))) (fun h1 => ?_))
      · simp only [decide_eq_true_eq] at h1 h2 h3
        exact yes (decide_eq_true (by omega))
      · exact no (decide_eq_false (fun hh => h5 (hh.2.2.2.2.2.2 h4).symm))
      · simp only [decide_eq_true_eq] at h1 h2 h3
        exact yes (decide_eq_true (by omega))
      · simp only [decide_eq_true_eq] at h3
        exact no (decide_eq_false (by omega))
      · simp only [decide_eq_true_eq] at h2
        exact no (decide_eq_false (by omega))
      · simp only [decide_eq_true_eq] at h1
        exact no (decide_eq_false (by omega))
    · have ef : decide (0 ≤ n ∧ n ≤ 4 ∧ gs.length ≤ 16 ∧ 1 ≤ os.length ∧ os.length ≤ 4) = false := decide_eq_false (by omega)
      rw [ef, Bool.false_and] at ih' ⊢
      refine Ev.bind (ev_c rfl) (ev_ite (fun h1 => Ev.bind (ev_c rfl) (ev_ite (fun h2 => Ev.bind (ev_c rfl) (ev_ite (fun h3 => ev_ite (fun h4 => ev_ite (fun h5 => ih') (fun h5 => Ev.now _)) (fun h4 => ih')) (fun h3 => Ev.now _))) (fun h2 => Ev.now _))) (fun h1 => Ev.now _))
theorem spec_ciGood_ev (n : Int) (gs : List S72) (os : List Int) (hn : I64 n) (hg : gs.length ≤ 1048576) (ho : os.length ≤ 1048576) : Ev (fun k => spec_ciGood.f k n gs os) (circuitM n gs os) := by
  unfold spec_ciGood.f circuitM
  have := spec_ciGood_l0 n gs os hn hg ho gs [] 0 rfl rfl
  rwa [Int.add_zero] at this

/-! #### spec_DropUnused -/
theorem spec_DropUnused_l1 (n : Int) (out : List S72) (m os : List Int) (ho : os.length ≤ 1048576) (hor : ∀ o ∈ os, 0 ≤ o ∧ o < m.length) (r : List Int) : ∀ (p : List Int) (i : Int) (acc : List Int), i = p.length → os = p ++ r → acc.length ≤ i →
    Ev (fun k => spec_DropUnused.l1 k m os os.length i n out acc) (n, out, acc ++ r.map (rd m), true) := by
  induction r with
  | nil =>
    intro p i acc hi e ha
    have hlen : os.length = p.length := by rw [e]; simp
    apply ev_up
    simp only [spec_DropUnused.l1]
    refine ev_n (by omega) (ev_eq (Ev.now _) ?_)
    simp
  | cons o r ih =>
    intro p i acc hi e ha
    have hlen : os.length = p.length + r.length + 1 := by rw [e]; simp; omega
    have hx : rd os i = o := by rw [e]; exact rdA hi
    have hob := hor o (by rw [e]; simp)
    apply ev_up
    simp only [spec_DropUnused.l1]
    refine ev_p (by omega) (ev_p (by omega) (ev_p (by omega) ?_))
    rw [hx, w64 (n := i + 1) (by omega) (by omega)]
    refine ev_p (by omega) (ev_p (by omega) (ev_p (by omega) ?_))
    refine ev_eq (ih (p ++ [o]) (i + 1) _ (by simp; omega) (by rw [e]; simp) (by simp; omega)) ?_
    simp
theorem spec_DropUnused_l0 (n : Nat) (gs : List S72) (os : List Int) (hn : n ≤ 4) (hg : gs.length ≤ 16) (hk : gatesOk n gs = true) (u : List Bool) (hu : u.length = n + gs.length) (R : Int × List S72 × List Int × Bool) (d : Nat) : ∀ (i : Nat) (m : List Int) (out : List S72), i + d = gs.length → m.length = n + gs.length → out.length ≤ i →
    Ev (fun k => spec_DropUnused.l1 k (dropM (fun j => rdOf false u ((n + j : Nat) : Int)) n gs i d m out).1 os os.length 0 n (dropM (fun j => rdOf false u ((n + j : Nat) : Int)) n gs i d m out).2 []) R →
    Ev (fun k => spec_DropUnused.l0 k u m ((n + out.length : Nat) : Int) ((n + gs.length : Nat) : Int) ((n + i : Nat) : Int) n gs os n out) R := by
  induction d with
  | zero =>
    intro i m out hi hm ho h
    rw [dropM] at h
    apply ev_up
    simp only [spec_DropUnused.l0]
    exact ev_n (by omega) h
  | succ d ih =>
    intro i m out hi hm ho h
    have hk1 := of_decide_eq_true (gatesOk_at hk (show i < gs.length by omega))
    rw [dropM] at h
    apply ev_up
    simp only [spec_DropUnused.l0]
    rw [wN (n := ((n + i : Nat) : Int) + 1) (m := n + (i + 1)) (by omega) (by omega), wN (n := ((n + i : Nat) : Int) - n) (m := i) (by omega) (by omega), wN (n := ((n + out.length : Nat) : Int) + 1) (m := n + (out.length + 1)) (by omega) (by omega)]
    refine ev_p (by omega) (ev_n (by omega) (ev_p (by omega) (ev_p (by omega) (ev_ite (fun c => ?_) (fun c => ?_)))))
    · rw [if_pos c] at h
      refine ev_p (by omega) (ev_p (by omega) (ev_p (by omega) (ev_p (by omega) (ev_p (by omega) (ev_p (by omega) (ev_p (by omega) (ev_p (by omega) ?_)))))))
      rw [Int.toNat_natCast]
      have := ih (i + 1) (m.set (n + i) ((n + out.length : Nat) : Int)) (out ++ [⟨(rd_T72 gs (i : Int)).f0, rd m (rd_T72 gs (i : Int)).f1, rd m (rd_T72 gs (i : Int)).f2⟩]) (by omega) (by simpa using hm) (by simp; omega) h
      rw [List.length_append, List.length_singleton] at this
      exact this
    · rw [if_neg c] at h
      exact ih (i + 1) m out (by omega) hm (by omega) h
theorem spec_DropUnused_in (n : Nat) (gs : List S72) (os : List Int) (hn : n ≤ 4) (hg : gs.length ≤ 16) (u : List Bool) (R : Int × List S72 × List Int × Bool) (d : Nat) : ∀ (j : Nat), j + d = n →
    Ev (fun k => spec_DropUnused.l0 k u (inpM (n + gs.length) n) n ((n + gs.length : Nat) : Int) n n gs os n []) R → Ev (fun k => spec_DropUnused.l0 k u (inpM (n + gs.length) j) n ((n + gs.length : Nat) : Int) j n gs os n []) R := by
  induction d with
  | zero =>
    intro j hj h
    rw [show j = n by omega]
    exact h
  | succ d ih =>
    intro j hj h
    apply ev_up
    simp only [spec_DropUnused.l0]
    rw [wN (n := (j : Int) + 1) (m := j + 1) (by omega) (by omega), Int.toNat_natCast, inpM_set (by omega)]
    exact ev_p (by omega) (ev_p (by omega) (ev_p (by omega) (ev_p (by rw [inpM_length]; omega) (ih (j + 1) (by omega) h))))
theorem spec_DropUnused_ev (n : Int) (gs : List S72) (os : List Int) (hn : I64 n) (hg : gs.length ≤ 1048576) (ho : os.length ≤ 1048576) : Ev (fun g => spec_DropUnused.f g n gs os) (dropCM n gs os) := by
  unfold spec_DropUnused.f dropCM
  refine Ev.bind (spec_ciGood_ev n gs os hn hg ho) (ev_ite (fun h => ?_) (fun h => ?_))
  · obtain ⟨a, rfl, ha, hg', _, _, hk, hor⟩ := circuitM_of h
    rw [if_pos h, Int.toNat_natCast]
    refine Ev.bind (spec_ciUsed_ev a gs os h) ?_
    rw [usedM_length, Int.toNat_natCast, inpM_zero]
    refine ev_p (by omega) (ev_p (by omega) ?_)
    have h1 := spec_DropUnused_l1 a (dropR a gs os).2 (dropR a gs os).1 os (by omega) (fun o hoo => by have := hor o hoo; rw [(dropR_length a gs os).1]; omega) os [] 0 [] rfl rfl (by simp)
    have h2 := spec_DropUnused_l0 a gs os (by omega) hg' hk (usedM a gs os) (usedM_length a gs os) _ gs.length 0 (inpM (a + gs.length) a) [] (by omega) (inpM_length _ _) (by simp) h1
    exact spec_DropUnused_in a gs os (by omega) hg' (usedM a gs os) _ a 0 (by omega) h2
  · rw [if_neg h]
    exact Ev.now _

/-! #### impl_usedGates -/
theorem impl_usedGates_l2 (n : Nat) (gs : List S72) (os : List Int) (hn : n ≤ 4) (hg : gs.length ≤ 16) (u : List Bool) (hu : u.length = n + gs.length) (d : Nat) : ∀ (i : Nat) (acc : List Int), i + d = gs.length → acc.length ≤ i →
    Ev (fun k => impl_usedGates.l2 k u acc gs.length i n gs os) (acc ++ selU (fun j => rdOf false u ((n + j : Nat) : Int)) i d) := by
  induction d with
  | zero =>
    intro i acc hi ha
    apply ev_up
    simp only [impl_usedGates.l2]
    refine ev_n (by omega) (ev_eq (Ev.now _) ?_)
    simp [selU]
  | succ d ih =>
    intro i acc hi ha
    apply ev_up
    simp only [impl_usedGates.l2]
    rw [wN (n := (n : Int) + i) (m := n + i) (by omega) (by omega), wN (n := (i : Int) + 1) (m := i + 1) (by omega) (by omega), selU]
    refine ev_p (by omega) (ev_p (by omega) (ev_p (by omega) (ev_ite (fun c => ev_p (by omega) ?_) (fun c => ?_))))
    · rw [if_pos c]
      refine ev_eq (ih (i + 1) _ (by omega) (by simp; omega)) ?_
      simp
    · rw [if_neg c]
      refine ev_eq (ih (i + 1) _ (by omega) (by omega)) ?_
      simp
theorem impl_usedGates_l1 (n : Nat) (gs : List S72) (os : List Int) (hn : n ≤ 4) (hg : gs.length ≤ 16) (hk : gatesOk n gs = true) (d : Nat) : ∀ (u : List Bool), d ≤ gs.length → u.length = n + gs.length →
    Ev (fun k => impl_usedGates.l1 k u ((d : Int) - 1) n gs os) (selU (fun j => rdOf false (usedR n gs d u) ((n + j : Nat) : Int)) 0 gs.length) := by
  induction d with
  | zero =>
    intro u hd hu
    apply ev_up
    simp only [impl_usedGates.l1]
    refine ev_n (by omega) ?_
    exact impl_usedGates_l2 n gs os hn hg u hu gs.length 0 [] (by omega) (by simp)
  | succ d ih =>
    intro u hd hu
    have hk1 := of_decide_eq_true (gatesOk_at hk (show d < gs.length by omega))
    have e : ((d + 1 : Nat) : Int) - 1 = d := by omega
    apply ev_up
    simp only [impl_usedGates.l1]
    rw [e, wN (n := (n : Int) + d) (m := n + d) (by omega) (by omega), w64 (n := (d : Int) - 1) (by omega) (by omega)]
    simp only [usedR]
    refine ev_p (by omega) (ev_p (by omega) (ev_p (by omega) (ev_ite (fun c => ?_) (fun c => ?_))))
    · simp only [if_pos c]
      refine ev_p (by omega) (ev_p (by omega) (ev_p (by omega) (ev_p (by omega) (ev_p (by omega) (ev_p (by omega) ?_)))))
      exact ih _ (by omega) (by rw [List.length_set, List.length_set]; exact hu)
    · simp only [if_neg c]
      exact ih u (by omega) hu
theorem impl_usedGates_l0 (n : Nat) (gs : List S72) (os : List Int) (hn : n ≤ 4) (hg : gs.length ≤ 16) (hk : gatesOk n gs = true) (ho : os.length ≤ 4) (hor : ∀ o ∈ os, 0 ≤ o ∧ o < n + gs.length) (r : List Int) : ∀ (p : List Int) (u : List Bool) (i : Int), i = p.length → os = p ++ r → u.length = n + gs.length →
    Ev (fun k => impl_usedGates.l0 k u os os.length i n gs os) (selU (fun j => rdOf false (usedR n gs gs.length (usedO u r)) ((n + j : Nat) : Int)) 0 gs.length) := by
  induction r with
  | nil =>
    intro p u i hi e hu
    have hlen : os.length = p.length := by rw [e]; simp
    apply ev_up
    simp only [impl_usedGates.l0]
    rw [w64 (n := (gs.length : Int) - 1) (by omega) (by omega)]
    refine ev_n (by omega) ?_
    exact impl_usedGates_l1 n gs os hn hg hk gs.length u (Nat.le_refl _) hu
  | cons o r ih =>
    intro p u i hi e hu
    have hlen : os.length = p.length + r.length + 1 := by rw [e]; simp; omega
    have hx : rd os i = o := by rw [e]; exact rdA hi
    have hob := hor o (by rw [e]; simp)
    apply ev_up
    simp only [impl_usedGates.l0]
    refine ev_p (by omega) (ev_p (by omega) (ev_p (by omega) ?_))
    rw [hx, w64 (n := i + 1) (by omega) (by omega)]
    simp only [usedO]
    refine ev_p (by omega) (ev_p (by omega) ?_)
    exact ih (p ++ [o]) (setU u o) (i + 1) (by simp; omega) (by rw [e]; simp) (by rw [setU_length]; exact hu)
def usedSel (n : Nat) (gs : List S72) (os : List Int) : List Int := selU (fun j => rdOf false (usedM n gs os) ((n + j : Nat) : Int)) 0 gs.length
theorem impl_usedGates_ev (n : Nat) (gs : List S72) (os : List Int) (h : circuitM n gs os = true) : Ev (fun k => impl_usedGates.f k n gs os) (usedSel n gs os) := by
  obtain ⟨b, hab, ha, hg, _, ho, hk, hor⟩ := circuitM_of h
  unfold impl_usedGates.f usedSel usedM
  rw [wN (n := (n : Int) + gs.length) (m := n + gs.length) (by omega) (by omega), Int.toNat_natCast]
  exact ev_p (by omega) (ev_p (by omega) (impl_usedGates_l0 n gs os (by omega) hg hk ho hor os [] _ 0 rfl rfl (by simp)))

/-! #### impl_IsCircuit -/
theorem impl_IsCircuit_l1 (n : Int) (gs : List S72) (os : List Int) (h0 : 0 ≤ n) (h4 : n ≤ 4) (hg : gs.length ≤ 1048576) (ho : os.length ≤ 1048576) (r : List Int) : ∀ (p : List Int) (i : Int), i = p.length → os = p ++ r →
    Ev (fun k => impl_IsCircuit.l1 k os os.length i n gs os) (r.all (inB 0 (n + gs.length - 1))) := by
  induction r with
  | nil =>
    intro p i hi e
    have hlen : os.length = p.length := by rw [e]; simp
    apply ev_up
    simp only [impl_IsCircuit.l1]
    exact ev_n (by omega) (Ev.now _)
  | cons x r ih =>
    intro p i hi e
    have hlen : os.length = p.length + r.length + 1 := by rw [e]; simp; omega
    have hx : rd os i = x := by rw [e]; exact rdA hi
    have ih' := ih (p ++ [x]) (i + 1) (by simp; omega) (by rw [e]; simp)
    apply ev_up
    simp only [impl_IsCircuit.l1]
    refine ev_p (by omega) (ev_p (by omega) (ev_p (by omega) ?_))
    rw [hx, w64 (n := i + 1) (by omega) (by omega), w64 (n := n + gs.length) (by omega) (by omega)]
    refine ev_ite (fun h1 => ?_) (fun h1 => ev_ite (fun h2 => ?_) (fun h2 => ?_))
    · rw [List.all_cons, show inB 0 (n + gs.length - 1) x = false from decide_eq_false (by omega), Bool.false_and]
      exact Ev.now _
    · rw [List.all_cons, show inB 0 (n + gs.length - 1) x = false from decide_eq_false (by omega), Bool.false_and]
      exact Ev.now _
    · rw [List.all_cons, show inB 0 (n + gs.length - 1) x = true from decide_eq_true (by omega), Bool.true_and]
      exact ih'
theorem impl_IsCircuit_l0 (n : Int) (gs : List S72) (os : List Int) (h0 : 0 ≤ n) (h4 : n ≤ 4) (hg : gs.length ≤ 1048576) (ho : os.length ≤ 1048576) (r : List S72) : ∀ (p : List S72) (i : Int), i = p.length → gs = p ++ r →
    Ev (fun k => impl_IsCircuit.l0 k gs gs.length i n gs os) (gatesOk (n + i) r && os.all (inB 0 (n + gs.length - 1))) := by
  induction r with
  | nil =>
    intro p i hi e
    have hlen : gs.length = p.length := by rw [e]; simp
    apply ev_up
    simp only [impl_IsCircuit.l0]
    refine ev_n (by omega) ?_
    rw [gatesOk, Bool.true_and]
    exact impl_IsCircuit_l1 n gs os h0 h4 hg ho os [] 0 rfl rfl
  | cons x r ih =>
    intro p i hi e
    have hlen : gs.length = p.length + r.length + 1 := by rw [e]; simp; omega
    have hx : rd_T72 gs i = x := by rw [e]; exact rdGateA hi
    have ih' := ih (p ++ [x]) (i + 1) (by simp; omega) (by rw [e]; simp)
    apply ev_up
    simp only [impl_IsCircuit.l0]
    refine ev_p (by omega) (ev_p (by omega) (ev_p (by omega) ?_))
    rw [hx, w64 (n := i + 1) (by omega) (by omega), w64 (n := n + i) (by omega) (by omega)]
    have no : gateOk (n + i) x = false → Ev (fun _ => some false) (gatesOk (n + i) (x :: r) && os.all (inB 0 (n + gs.length - 1))) := fun h => by
      rw [gatesOk, h, Bool.false_and, Bool.false_and]
      exact Ev.now _
    have yes : gateOk (n + i) x = true → Ev (fun k => impl_IsCircuit.l0 k gs gs.length (i + 1) n gs os) (gatesOk (n + i) (x :: r) && os.all (inB 0 (n + gs.length - 1))) := fun h => by
      rw [gatesOk, h, Bool.true_and, Int.add_assoc]
      exact ih'
    refine ev_ite (fun c => no (decide_eq_false (by omega))) (fun c1 => ev_ite (fun c => no (decide_eq_false (by omega))) (fun c2 => ev_ite (fun c => no (decide_eq_false (by omega))) (fun c3 => ev_ite (fun c => no (decide_eq_false (by omega))) (fun c4 => ev_ite (fun c => no (decide_eq_false (by omega))) (fun c5 => ev_ite (fun c => no (decide_eq_false (by omega))) (fun c6 => ev_ite (fun c7 => ev_ite (fun c8 => yes (decide_eq_true (by omega))) (fun c8 => no (decide_eq_false (fun hh => c8 (hh.2.2.2.2.2.2 c7))))) (fun c7 => yes (decide_eq_true (by omega)))))))))
theorem impl_IsCircuit_ev (n : Int) (gs : List S72) (os : List Int) (hg : gs.length ≤ 1048576) (ho : os.length ≤ 1048576) : Ev (fun k => impl_IsCircuit.f k n gs os) (circuitM n gs os) := by
  have bad : ¬ (0 ≤ n ∧ n ≤ 4 ∧ gs.length ≤ 16 ∧ 1 ≤ os.length ∧ os.length ≤ 4) → Ev (fun k => impl_IsCircuit.j0 k true n gs os) (circuitM n gs os) := fun h => by
    apply ev_up
    simp only [impl_IsCircuit.j0]
    unfold circuitM
    rw [decide_eq_false h, Bool.false_and]
    exact ev_p (by trivial) (Ev.now _)
  unfold impl_IsCircuit.f
  refine ev_ite (fun c1 => bad (by omega)) (fun c1 => ev_ite (fun c2 => bad (by omega)) (fun c2 => ev_ite (fun c3 => bad (by omega)) (fun c3 => ev_ite (fun c4 => bad (by omega)) (fun c4 => ?_))))
  apply ev_up
  simp only [impl_IsCircuit.j0]
  refine ev_ite (fun c5 => ?_) (fun c5 => ?_)
  · have c5' := of_decide_eq_true c5
    unfold circuitM
    rw [decide_eq_false (by omega), Bool.false_and]
    exact Ev.now _
  · have c5' : ¬ (os.length : Int) > 4 := fun h => c5 (decide_eq_true h)
    unfold circuitM
    rw [decide_eq_true (by omega), Bool.true_and]
    have := impl_IsCircuit_l0 n gs os (by omega) (by omega) hg ho gs [] 0 rfl rfl
    rwa [Int.add_zero] at this

/-! #### impl_DropUnused -/
theorem impl_DropUnused_l2 (n : Int) (out : List S72) (m os : List Int) (ho : os.length ≤ 1048576) (hor : ∀ o ∈ os, 0 ≤ o ∧ o < m.length) (r : List Int) : ∀ (p : List Int) (i : Int) (acc : List Int), i = p.length → os = p ++ r → acc.length ≤ i →
    Ev (fun k => impl_DropUnused.l2 k m os os.length i n out acc) (n, out, acc ++ r.map (rd m), true) := by
  induction r with
  | nil =>
    intro p i acc hi e ha
    have hlen : os.length = p.length := by rw [e]; simp
    apply ev_up
    simp only [impl_DropUnused.l2]
    refine ev_n (by omega) (ev_eq (Ev.now _) ?_)
    simp
  | cons o r ih =>
    intro p i acc hi e ha
    have hlen : os.length = p.length + r.length + 1 := by rw [e]; simp; omega
    have hx : rd os i = o := by rw [e]; exact rdA hi
    have hob := hor o (by rw [e]; simp)
    apply ev_up
    simp only [impl_DropUnused.l2]
    refine ev_p (by omega) (ev_p (by omega) (ev_p (by omega) ?_))
    rw [hx, w64 (n := i + 1) (by omega) (by omega)]
    refine ev_p (by omega) (ev_p (by omega) (ev_p (by omega) ?_))
    refine ev_eq (ih (p ++ [o]) (i + 1) _ (by simp; omega) (by rw [e]; simp) (by simp; omega)) ?_
    simp
theorem impl_DropUnused_l1 (n : Nat) (gs : List S72) (os : List Int) (hn : n ≤ 4) (hg : gs.length ≤ 16) (hk : gatesOk n gs = true) (f : Nat → Bool) (t : List Int) (ht : t.length ≤ 16) (R : Int × List S72 × List Int × Bool) (d : Nat) : ∀ (i : Nat) (p : List Int) (j : Int) (m : List Int) (out : List S72), i + d = gs.length → t = p ++ selU f i d → j = p.length → m.length = n + gs.length → out.length ≤ i →
    Ev (fun k => impl_DropUnused.l2 k (dropM f n gs i d m out).1 os os.length 0 n (dropM f n gs i d m out).2 []) R →
    Ev (fun k => impl_DropUnused.l1 k m t t.length j n gs os n out) R := by
  induction d with
  | zero =>
    intro i p j m out hi e hj hm ho h
    rw [dropM] at h
    have hlen : t.length = p.length := by rw [e]; simp [selU]
    apply ev_up
    simp only [impl_DropUnused.l1]
    exact ev_n (by omega) h
  | succ d ih =>
    intro i p j m out hi e hj hm ho h
    have hk1 := of_decide_eq_true (gatesOk_at hk (show i < gs.length by omega))
    rw [dropM] at h
    rw [selU] at e
    by_cases c : f i = true
    · rw [if_pos c] at h e
      have hlen : t.length = p.length + (1 + (selU f (i + 1) d).length) := by rw [e]; simp; omega
      have hx : rd t j = i := by rw [e]; exact rdA hj
      apply ev_up
      simp only [impl_DropUnused.l1]
      refine ev_p (by omega) (ev_p (by omega) (ev_p (by omega) ?_))
      rw [hx, w64 (n := j + 1) (by omega) (by omega), wN (n := (n : Int) + i) (m := n + i) (by omega) (by omega), wN (n := (n : Int) + out.length) (m := n + out.length) (by omega) (by omega), Int.toNat_natCast]
      refine ev_p (by omega) (ev_p (by omega) (ev_p (by omega) (ev_p (by omega) (Ev.bind (ev_c rfl) ?_))))
      rw [rd_set_ne (b := (rd_T72 gs (i : Int)).f1) (by omega) (by omega), rd_set_ne (b := (rd_T72 gs (i : Int)).f2) (by omega) (by omega)]
      refine ev_p (by omega) (ev_p (by omega) (ev_p (by omega) (ev_p (by omega) (ev_p (by omega) ?_))))
      exact ih (i + 1) (p ++ [(i : Int)]) (j + 1) _ _ (by omega) (by rw [e]; simp) (by simp; omega) (by simpa using hm) (by simp; omega) h
    · rw [if_neg c] at h e
      rw [List.nil_append] at e
      exact ih (i + 1) p j m out (by omega) e hj hm (by omega) h
theorem impl_DropUnused_l0 (n : Nat) (gs : List S72) (os : List Int) (hn : n ≤ 4) (hg : gs.length ≤ 16) (R : Int × List S72 × List Int × Bool) (d : Nat) : ∀ (j : Nat), j + d = n →
    Ev (fun k => impl_DropUnused.l0 k (inpM (n + gs.length) n) n n gs os) R → Ev (fun k => impl_DropUnused.l0 k (inpM (n + gs.length) j) j n gs os) R := by
  induction d with
  | zero =>
    intro j hj h
    rw [show j = n by omega]
    exact h
  | succ d ih =>
    intro j hj h
    apply ev_up
    simp only [impl_DropUnused.l0]
    rw [wN (n := (j : Int) + 1) (m := j + 1) (by omega) (by omega), Int.toNat_natCast, inpM_set (by omega)]
    exact ev_p (by omega) (ev_p (by omega) (ev_p (by rw [inpM_length]; omega) (ih (j + 1) (by omega) h)))
theorem impl_DropUnused_ev (n : Int) (gs : List S72) (os : List Int) (hg : gs.length ≤ 1048576) (ho : os.length ≤ 1048576) : Ev (fun g => impl_DropUnused.f g n gs os) (dropCM n gs os) := by
  unfold impl_DropUnused.f dropCM
  refine Ev.bind (impl_IsCircuit_ev n gs os hg ho) (ev_ite (fun h => ?_) (fun h => ?_))
  · obtain ⟨a, rfl, ha, hg', _, _, hk, hor⟩ := circuitM_of h
    rw [if_pos h, Int.toNat_natCast, wN (n := (a : Int) + gs.length) (m := a + gs.length) (by omega) (by omega), Int.toNat_natCast, inpM_zero]
    refine ev_p (by omega) (ev_p (by omega) ?_)
    have h1 := impl_DropUnused_l2 a (dropR a gs os).2 (dropR a gs os).1 os (by omega) (fun o hoo => by have := hor o hoo; rw [(dropR_length a gs os).1]; omega) os [] 0 [] rfl rfl (by simp)
    refine impl_DropUnused_l0 a gs os (by omega) hg' _ a 0 (by omega) ?_
    apply ev_up
    simp only [impl_DropUnused.l0]
    refine ev_n (by omega) (Ev.bind (impl_usedGates_ev a gs os h) ?_)
    have hsl := selU_length (usedF a gs os) gs.length 0
    have hse : usedSel a gs os = selU (usedF a gs os) 0 gs.length := rfl
    rw [hse]
    exact impl_DropUnused_l1 a gs os (by omega) hg' hk (usedF a gs os) _ (by omega) _ gs.length 0 [] 0 _ [] (by omega) rfl rfl (inpM_length _ _) (by simp) h1
  · rw [if_neg h]
    exact Ev.now _

/-! #### markIntS -/
theorem markIntS_l0 (r : List Int) : ∀ (p : List Int) (s i : Int), i = p.length → p.length + r.length ≤ 9223372036854775807 → 0 ≤ s → s + r.length ≤ 9223372036854775807 →
    Ev (fun k => laws_markIntS.l0 k (p ++ r) s i) (s + r.length, p ++ seqFrom s r.length) := by
  induction r with
  | nil =>
    intro p s i hi hb h0 hs
    apply ev_up
    simp only [laws_markIntS.l0]
    refine ev_n (by simp; omega) ?_
    simpa [seqFrom] using Ev.now (s, p)
  | cons x r ih =>
    intro p s i hi hb h0 hs
    simp only [List.length_cons, Int.natCast_add] at hb hs
    apply ev_up
    simp only [laws_markIntS.l0]
    refine ev_p (by simp; omega) (ev_p (by omega) ?_)
    rw [setA hi, w64 (by omega) (by omega), w64 (by omega) (by omega)]
    refine ev_eq (ih (p ++ [s]) (s + 1) (i + 1) (by simp; omega) (by simp; omega) (by omega) (by omega)) ?_
    simp [seqFrom]
    omega
theorem markIntS_ev (a : List Int) (s : Int) (h0 : 0 ≤ s) (h : a.length + s ≤ 9223372036854775807) : Ev (fun k => laws_markIntS.f k a s) (s + a.length, seqFrom s a.length) := by
  unfold laws_markIntS.f
  exact markIntS_l0 a [] s 0 rfl (by simp; omega) h0 (by omega)

/-! #### markCircuit -/
theorem markGateS_l0 (r : List S72) : ∀ (p : List S72) (s i : Int), i = p.length → p.length + r.length ≤ 1048576 → 0 ≤ s → s + 3 * r.length ≤ 8388608 →
    ∃ t, Ev (fun k => laws_markGateS.l0 k (p ++ r) s i) (s + 3 * r.length, t) := by
  induction r with
  | nil =>
    intro p s i hi hb h0 hs
    refine ⟨p, ?_⟩
    apply ev_up
    simp only [laws_markGateS.l0]
    refine ev_n (by simp; omega) ?_
    simpa using Ev.now (s, p)
  | cons x r ih =>
    intro p s i hi hb h0 hs
    simp only [List.length_cons, Int.natCast_add] at hb hs
    obtain ⟨t, ht⟩ := ih (p ++ [⟨s, s + 1, s + 1 + 1⟩]) (s + 1 + 1 + 1) (i + 1) (by simp; omega) (by simp; omega) (by omega) (by omega)
    refine ⟨t, ?_⟩
    apply ev_up
    simp only [laws_markGateS.l0]
    refine ev_p (by simp; omega) (ev_p (by omega) (Ev.bind (ev_c rfl) (Ev.bind (ev_c rfl) ?_)))
    simp only [rdGateA hi, setB hi]
    rw [appA, w64 (n := s + 1) (by omega) (by omega), w64 (n := s + 1 + 1) (by omega) (by omega), w64 (n := s + 1 + 1 + 1) (by omega) (by omega), w64 (n := i + 1) (by omega) (by omega)]
    refine ev_eq ht ?_
    simp only [List.length_cons, Prod.mk.injEq, and_true]
    omega
theorem markCircuit_ev (n : Int) (gs : List S72) (os : List Int) (hg : gs.length ≤ 1048576) (ho : os.length ≤ 1048576) : ∃ (m : Int) (t : List S72) (u : List Int), 0 ≤ m ∧ m ≤ 9000000 ∧ Ev (fun k => laws_markCircuit.f k n gs os 1) (m, t, u) := by
  unfold laws_markCircuit.f laws_markGateS.f
  obtain ⟨t, ht⟩ := markGateS_l0 gs [] 1 0 rfl (by simpa using hg) (by omega) (by omega)
  exact ⟨1 + 3 * gs.length + os.length, t, _, by omega, by omega, Ev.bind ht (Ev.bind (markIntS_ev os (1 + 3 * gs.length) (by omega) (by omega)) (Ev.now _))⟩

/-! #### heldIntS -/
theorem heldIntS_l0 (n : Nat) : ∀ (p : List Int) (s i : Int), i = p.length → p.length + n ≤ 9223372036854775807 → 0 ≤ s → s + n ≤ 9223372036854775807 →
    Ev (fun k => laws_heldIntS.l0 k (p ++ seqFrom s n) s i) (s + n) := by
  induction n with
  | zero =>
    intro p s i hi hb h0 hs
    apply ev_up
    simp only [laws_heldIntS.l0]
    refine ev_n (by simp [seqFrom]; omega) ?_
    simpa [seqFrom] using Ev.now s
  | succ n ih =>
    intro p s i hi hb h0 hs
    apply ev_up
    simp only [laws_heldIntS.l0]
    have hl := seqFrom_length s (n + 1)
    refine ev_p (by simp [hl]; omega) (ev_p (by omega) ?_)
    refine ev_p (by simp only [seqFrom]; exact rdA hi) ?_
    simp only [seqFrom]
    rw [appA, w64 (by omega) (by omega), w64 (by omega) (by omega)]
    refine ev_eq (ih (p ++ [s]) (s + 1) (i + 1) (by simp; omega) (by simp; omega) (by omega) (by omega)) ?_
    omega
theorem heldIntS_ev (n : Nat) (s : Int) (h0 : 0 ≤ s) (h : n + s ≤ 9223372036854775807) : Ev (fun k => laws_heldIntS.f k (seqFrom s n) s) (s + n) := by
  unfold laws_heldIntS.f
  exact heldIntS_l0 n [] s 0 rfl (by simp; omega) h0 (by omega)

/-! #### heldCircuit -/
def gateSeq : Int → Nat → List S72
  | _, 0 => []
  | s, d + 1 => ⟨s, s + 1, s + 1 + 1⟩ :: gateSeq (s + 1 + 1 + 1) d
theorem gateSeq_length (d : Nat) : ∀ s, (gateSeq s d).length = d := by
  induction d with
  | zero => intro s; rfl
  | succ d ih => intro s; rw [gateSeq, List.length_cons, ih]
theorem markGateS2_l0 (r : List S72) : ∀ (p : List S72) (s i : Int), i = p.length → p.length + r.length ≤ 1048576 → 0 ≤ s → s + 3 * r.length ≤ 8388608 →
    Ev (fun k => laws_markGateS.l0 k (p ++ r) s i) (s + 3 * r.length, p ++ gateSeq s r.length) := by
  induction r with
  | nil =>
    intro p s i hi hb h0 hs
    apply ev_up
    simp only [laws_markGateS.l0]
    refine ev_n (by simp; omega) ?_
    simpa [gateSeq] using Ev.now (s, p)
  | cons x r ih =>
    intro p s i hi hb h0 hs
    simp only [List.length_cons, Int.natCast_add] at hb hs
    have ht := ih (p ++ [⟨s, s + 1, s + 1 + 1⟩]) (s + 1 + 1 + 1) (i + 1) (by simp; omega) (by simp; omega) (by omega) (by omega)
    apply ev_up
    simp only [laws_markGateS.l0]
    refine ev_p (by simp; omega) (ev_p (by omega) (Ev.bind (ev_c rfl) (Ev.bind (ev_c rfl) ?_)))
    simp only [rdGateA hi, setB hi]
    rw [appA, w64 (n := s + 1) (by omega) (by omega), w64 (n := s + 1 + 1) (by omega) (by omega), w64 (n := s + 1 + 1 + 1) (by omega) (by omega), w64 (n := i + 1) (by omega) (by omega)]
    refine ev_eq ht ?_
    simp only [List.length_cons, Prod.mk.injEq, List.append_assoc]
    exact ⟨by omega, by rw [gateSeq]; rfl⟩
theorem heldGateS_l0 (d : Nat) : ∀ (p : List S72) (s i : Int), i = p.length → p.length + d ≤ 1048576 → 0 ≤ s → s + 3 * d ≤ 8388608 →
    Ev (fun k => laws_heldGateS.l0 k (p ++ gateSeq s d) s i) (s + 3 * d) := by
  induction d with
  | zero =>
    intro p s i hi hb h0 hs
    apply ev_up
    simp only [laws_heldGateS.l0]
    refine ev_n (by simp [gateSeq]; omega) (ev_eq (Ev.now _) (by simp))
  | succ d ih =>
    intro p s i hi hb h0 hs
    have ht := ih (p ++ [⟨s, s + 1, s + 1 + 1⟩]) (s + 1 + 1 + 1) (i + 1) (by simp; omega) (by simp; omega) (by omega) (by omega)
    apply ev_up
    simp only [laws_heldGateS.l0]
    refine ev_p (by simp [gateSeq_length]; omega) (ev_p (by omega) ?_)
    rw [gateSeq, rdGateA hi, w64 (n := s + 1) (by omega) (by omega), w64 (n := s + 1 + 1) (by omega) (by omega), w64 (n := s + 1 + 1 + 1) (by omega) (by omega), w64 (n := i + 1) (by omega) (by omega)]
    refine ev_p rfl (ev_p rfl (ev_p rfl ?_))
    rw [appA]
    refine ev_eq ht ?_
    omega
theorem markCircuit2_ev (n : Int) (gs : List S72) (os : List Int) (hg : gs.length ≤ 1048576) (ho : os.length ≤ 1048576) : Ev (fun k => laws_markCircuit.f k n gs os 1) (1 + 3 * gs.length + os.length, gateSeq 1 gs.length, seqFrom (1 + 3 * gs.length) os.length) := by
  unfold laws_markCircuit.f laws_markGateS.f
  exact Ev.bind (markGateS2_l0 gs [] 1 0 rfl (by simpa using hg) (by omega) (by omega)) (Ev.bind (markIntS_ev os (1 + 3 * gs.length) (by omega) (by omega)) (Ev.now _))
theorem heldCircuit_ev (n : Int) (g o : Nat) (hg : g ≤ 1048576) (ho : o ≤ 1048576) : Ev (fun k => laws_heldCircuit.f k n (gateSeq 1 g) (seqFrom (1 + 3 * g) o) 1) (1 + 3 * g + o) := by
  unfold laws_heldCircuit.f laws_heldGateS.f
  exact Ev.bind (heldGateS_l0 g [] 1 0 rfl (by simpa using hg) (by omega) (by omega)) (ev_n (by omega) (Ev.bind (heldIntS_ev o (1 + 3 * g) (by omega) (by omega)) (ev_n (by omega) (Ev.now _))))

/-! #### FnExactDropUnused -/
theorem FnExactDropUnused (a0_0 : Int) (l0_1 : (List (S88))) (l0_2 : (List Int)) : I64 a0_0 → (l0_1.length ≤ 9223372036854775807 ∧ ∀ y2 ∈ l0_1, I64 y2.f0 ∧ I64 y2.f1 ∧ I64 y2.f2) → (l0_2.length ≤ 9223372036854775807 ∧ ∀ y2 ∈ l0_2, I64 y2) → ∃ k, laws_FnExactDropUnused.f k a0_0 l0_1 l0_2 = some true := by
  rintro hn ⟨hg, _⟩ ⟨ho, _⟩
  apply ev_get
  obtain ⟨t, ht, hq⟩ := szCircuit_eq a0_0 l0_1 l0_2 hg ho
  unfold laws_FnExactDropUnused.f
  rw [ht]
  refine Ev.bind (ev_c rfl) (ev_ite (fun _ => Ev.now _) (fun h => ?_))
  obtain ⟨hg2, ho2⟩ := hq h
  have hto := toCircuit_ev a0_0 l0_1 l0_2 hg2 ho2
  have hgm : (l0_1.map cvGate).length ≤ 1048576 := by simpa using hg2
  have heq := eqCircuit_self a0_0 (l0_1.map cvGate) l0_2 (by omega) (by omega)
  have hs := spec_DropUnused_ev a0_0 (l0_1.map cvGate) l0_2 hn hgm ho2
  have hi := impl_DropUnused_ev a0_0 (l0_1.map cvGate) l0_2 hgm ho2
  obtain ⟨hl1, hl2⟩ := dropCM_length a0_0 (l0_1.map cvGate) l0_2
  generalize dropCM a0_0 (l0_1.map cvGate) l0_2 = R at hs hi hl1 hl2
  have heqR := eqCircuit_self R.1 R.2.1 R.2.2.1 (by omega) (by omega)
  have hmark := markCircuit2_ev R.1 R.2.1 R.2.2.1 (by omega) (by omega)
  have hheld := heldCircuit_ev R.1 R.2.1.length R.2.2.1.length (by omega) (by omega)
  have hmc := markCircuit2_ev a0_0 (l0_1.map cvGate) l0_2 hgm ho2
  repeat (first
    | (with_reducible exact Ev.now _)
    | (with_reducible refine Ev.bind hto ?_)
    | (with_reducible refine Ev.bind hs ?_)
    | (with_reducible refine Ev.bind hi ?_)
    | (with_reducible refine Ev.bind heq ?_)
    | (with_reducible refine Ev.bind heqR ?_)
    | (with_reducible refine Ev.bind hmark ?_)
    | (with_reducible refine Ev.bind hheld ?_)
    | (with_reducible refine Ev.bind hmc ?_)
    | (with_reducible refine ev_p rfl ?_)
    | (with_reducible refine ev_p True.intro ?_)
    | (refine ev_n ?h ?_; case h => (first | omega | (simp; done) | (simp; omega)))
    | (with_reducible refine ev_up (g := fun n => laws_FnExactDropUnused.j0 n _ _ _ _ _ _ _ _ _ _ _ _ _ _ _) ?_; simp only [laws_FnExactDropUnused.j0, bne_self_eq_false])
    | (with_reducible refine ev_up (g := fun n => laws_FnExactDropUnused.j1 n _ _ _ _ _ _ _ _ _ _ _) ?_; simp only [laws_FnExactDropUnused.j1, bne_self_eq_false])
    | (with_reducible refine ev_up (g := fun n => laws_FnExactDropUnused.j2 n _ _ _ _ _) ?_; simp only [laws_FnExactDropUnused.j2, bne_self_eq_false]))

end Go.Proofs.Ytdhhncmhmfhfpaa.Pure
