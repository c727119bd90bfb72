/- The pure part of the law FnExactRoutingText: what the program and the reference compute is the same, for all arguments. Conditions: the numbers are of Go's int, the lengths of slices are. -/
import Derived.Test.YtcameioepklidaaPFnExactRoutingTextx7
import Derived.Test.YtcameioepklidaaKit
set_option linter.unusedVariables false
set_option linter.unusedSimpArgs false
namespace Go.Proofs.Ytcameioepklidaa.Pure
open Go.RowKit Go.Proofs.Ytcameioepklidaa.PFnExactRoutingText Go.Proofs.YtcameioepklidaaW.PrintWords Go.Proofs.YtcameioepklidaaW.PrintLast Go.Proofs.Ytcameioepklidaa.Open Go.Proofs.Ytcameioepklidaa.Kit

/-! #### szWireS -/
theorem szWireS_eq (l : List S85) (a : Int) (ha : 0 ≤ a) (ha2 : a ≤ 1048576) (hl : l.length ≤ 9223372036854775807) : laws_szWireS.f l a = some (if l.length ≤ a then a - l.length else -1) := by
  unfold laws_szWireS.f
  rw [w64 (by omega) (by omega)]
  by_cases h : (l.length : Int) ≤ a
  · rw [if_neg (by omega), if_pos h]
  · rw [if_pos (by omega), if_neg h]

/-! #### wirePre -/
theorem wire_pre {n : Nat} (h : ¬ (if (n : Int) ≤ 1048576 then (1048576 : Int) - n else -1) < 0) : n ≤ 1048576 := by
  by_cases h2 : (n : Int) ≤ 1048576
  · omega
  · rw [if_neg h2] at h
    exact absurd (by decide) h

/-! #### wireT -/
theorem rdLWireA {p r : List S85} {x : S85} {i : Int} (hi : i = p.length) : rd_T85 (p ++ x :: r) i = x := getDA hi
theorem rdWireA {p r : List S80} {x : S80} {i : Int} (hi : i = p.length) : rd_T80 (p ++ x :: r) i = x := getDA hi
instance decWire : DecidableEq S80 := fun a b => decidable_of_decidable_of_iff (p := a.f0 = b.f0 ∧ a.f1 = b.f1) ⟨fun h => by cases a; cases b; simp_all, fun h => by rw [h]; exact ⟨rfl, rfl⟩⟩
/-- A wire of the laws as one of the program. -/
def cvWire (x : S85) : S80 := ⟨x.f0, x.f1⟩

/-! #### toWireS -/
theorem toWireS_l0 (r : List S85) : ∀ (p : List S85) (z : List S80) (i : Int), i = p.length → z.length = r.length → p.length + r.length ≤ 9223372036854775806 →
    Ev (fun k => laws_toWireS.l0 k (p ++ r) (p.map cvWire ++ z) i) ((p ++ r).map cvWire) := by
  induction r with
  | nil =>
    intro p z i hi hz hb
    obtain rfl : z = [] := List.length_eq_zero_iff.1 hz
    apply ev_up
    simp only [laws_toWireS.l0]
    refine ev_n (by simp; omega) ?_
    simpa using Ev.now (p.map cvWire)
  | cons x r ih =>
    intro p z i hi hz hb
    match z, hz with
    | y :: z, hz =>
      simp only [List.length_cons] at hz hb
      apply ev_up
      simp only [laws_toWireS.l0]
      refine ev_p (by simp; omega) (ev_p (by omega) ?_)
      rw [rdLWireA hi]
      refine Ev.bind (ev_c (show laws_toWire.f x.f0 x.f1 = some (x.f0, x.f1) from rfl)) (ev_p (by simp; omega) ?_)
      rw [setA (by simpa using hi), w64 (by omega) (by omega), appA]
      have := ih (p ++ [x]) z (i + 1) (by simp; omega) (by omega) (by simp; omega)
      simpa [cvWire] using this
theorem toWireS_ev (a : List S85) (h : a.length ≤ 1048576) : Ev (fun k => laws_toWireS.f k a) (a.map cvWire) := by
  unfold laws_toWireS.f
  refine ev_p (by omega) (ev_p (by omega) ?_)
  exact toWireS_l0 a [] (List.replicate ((a.length : Int)).toNat z80) 0 rfl (by simp) (by simp; omega)

/-! #### eqWireS -/
theorem eqWire_eq (a b c d : Int) : laws_eqWire.f a b c d = some (decide ((⟨a, b⟩ : S80) = ⟨c, d⟩)) := by
  unfold laws_eqWire.f
  by_cases h1 : a = c
  · by_cases h2 : b = d
    · rw [if_pos h1, if_pos h2, h1, h2, decide_eq_true rfl]
    · rw [if_pos h1, if_neg h2]
      congr 1; symm
      exact decide_eq_false (fun h => h2 (by injection h))
  · rw [if_neg h1]
    congr 1; symm
    exact decide_eq_false (fun h => h1 (by injection h))
theorem eqWireS_l0 (r : List S80) : ∀ (s p q : List S80) (i : Int), i = p.length → p.length = q.length → r.length = s.length → p.length + r.length ≤ 9223372036854775807 →
    Ev (fun k => laws_eqWireS.l0 k (p ++ r) (q ++ s) i) (decide (r = s)) := by
  induction r with
  | nil =>
    intro s p q i hi hpq hrs hb
    obtain rfl : s = [] := List.length_eq_zero_iff.1 hrs.symm
    apply ev_up
    simp only [laws_eqWireS.l0]
    refine ev_n (by simp; omega) ?_
    simpa using Ev.now true
  | cons x r ih =>
    intro s p q i hi hpq hrs hb
    match s, hrs with
    | y :: s, hrs =>
      simp only [List.length_cons] at hrs hb
      apply ev_up
      simp only [laws_eqWireS.l0]
      refine ev_p (by simp; omega) (ev_p (by omega) (ev_p (by simp; omega) ?_))
      rw [rdWireA hi, rdWireA (by omega), eqWire_eq]
      refine Ev.bind (ev_c rfl) ?_
      refine ev_ite (fun hxy => ?_) (fun hxy => ?_)
      · have hxy' : x = y := of_decide_eq_true hxy
        subst hxy'
        rw [w64 (by omega) (by omega), appA, appA (p := q)]
        refine ev_eq (ih s (p ++ [x]) (q ++ [x]) (i + 1) (by simp; omega) (by simp; omega) (by omega) (by simp; omega)) ?_
        simp
      · refine ev_eq (Ev.now false) ?_
        have hxy' : ¬ x = y := fun e => hxy (decide_eq_true e)
        simp [hxy']
theorem eqWireS_ev (a b : List S80) (h : a.length ≤ 9223372036854775807) : Ev (fun k => laws_eqWireS.f k a b) (decide (a = b)) := by
  unfold laws_eqWireS.f
  refine ev_ite (fun hl => ?_) (fun hl => ?_)
  · exact eqWireS_l0 a b [] [] 0 rfl rfl (by omega) (by simpa using h)
  · refine ev_eq (Ev.now false) ?_
    symm
    apply decide_eq_false
    rintro rfl
    exact hl rfl

/-! #### allB -/
/-- f at j, j + 1, .. : d of them. -/
def allB (f : Nat → Bool) : Nat → Nat → Bool
  | _, 0 => true
  | j, d + 1 => f j && allB f (j + 1) d
theorem allB_iff (f : Nat → Bool) (d : Nat) : ∀ j, allB f j d = true ↔ ∀ x, j ≤ x → x < j + d → f x = true := by
  induction d with
  | zero => intro j; simp [allB]; intro x h1 h2; omega
  | succ d ih =>
    intro j
    rw [allB, Bool.and_eq_true, ih]
    constructor
    · rintro ⟨h1, h2⟩ x h3 h4
      by_cases e : x = j
      · rw [e]; exact h1
      · exact h2 x (by omega) (by omega)
    · intro h
      exact ⟨h j (Nat.le_refl _) (by omega), fun x h1 h2 => h x (by omega) (by omega)⟩

/-! #### routM -/
def meetB (a b : S80) : Bool := decide (a.f0 ≤ b.f1 ∧ b.f0 ≤ a.f1)
theorem spec_rtMeet_eq (a b : S80) : spec_rtMeet.f a.f0 a.f1 b.f0 b.f1 = some (meetB a b) := by
  unfold spec_rtMeet.f meetB
  by_cases h : a.f0 ≤ b.f1
  · rw [if_pos h]; simp [h]
  · rw [if_neg h]; simp [h]
theorem impl_wiresMeet_eq (a b : S80) : impl_wiresMeet.f a.f0 a.f1 b.f0 b.f1 = some (meetB a b) := by
  unfold impl_wiresMeet.f meetB
  by_cases h : a.f0 ≤ b.f1
  · rw [if_pos h]; simp [h]
  · rw [if_neg h]; simp [h]
/-- The wires i and k are in different tracks, or do not meet. -/
def okPair (l : List S80) (tr : List Int) (i k : Nat) : Bool := !(decide (rd tr i = rd tr k) && meetB (rd_T80 l i) (rd_T80 l k))
def routM (l : List S80) (tr : List Int) : Bool := allB (fun i => allB (okPair l tr i) 0 i) 0 l.length

/-! #### greatM -/
/-- The greatest, from g on. -/
def greatM (g : Int) : List Int → Int
  | [] => g
  | x :: r => greatM (if g < x then x else g) r
theorem greatM_bound {l : List Int} : ∀ {g : Int}, -1 ≤ g → g ≤ 1000 → (∀ x ∈ l, 0 ≤ x ∧ x ≤ 1000) → -1 ≤ greatM g l ∧ greatM g l ≤ 1000 := by
  induction l with
  | nil => intro g h1 h2 _; exact ⟨h1, h2⟩
  | cons x r ih =>
    intro g h1 h2 h
    have hx := h x (by simp)
    unfold greatM
    split
    · exact ih (by omega) hx.2 (fun y hy => h y (by simp [hy]))
    · exact ih h1 h2 (fun y hy => h y (by simp [hy]))

/-! #### l1In -/
theorem l1In_eq (a b c : Int) : spec_l1In.f a b c = some (decide (b ≤ a ∧ a ≤ c)) := by
  unfold spec_l1In.f
  by_cases h : b ≤ a
  · rw [if_pos h]; simp [h]
  · rw [if_neg h]; simp [h]

/-! #### l1All -/
def inB (a b : Int) (x : Int) : Bool := decide (a ≤ x ∧ x ≤ b)
theorem l1All_l0 (l : List Int) (a b : Int) (hl : l.length ≤ 9223372036854775807) (r : List Int) : ∀ (p : List Int) (i : Int), i = p.length → l = p ++ r →
    Ev (fun k => spec_l1All.l0 k a b l l.length i) (r.all (inB a b)) := by
  induction r with
  | nil =>
    intro p i hi e
    have hlen : l.length = p.length := by rw [e]; simp
    apply ev_up
    simp only [spec_l1All.l0]
    exact ev_n (by omega) (Ev.now _)
  | cons x r ih =>
    intro p i hi e
    have hlen : l.length = p.length + r.length + 1 := by rw [e]; simp; omega
    have hx : rd l i = x := by rw [e]; exact rdA hi
    have ih' := ih (p ++ [x]) (i + 1) (by simp; omega) (by rw [e]; simp)
    apply ev_up
    simp only [spec_l1All.l0]
    refine ev_p (by omega) (ev_p (by omega) (ev_p (by omega) ?_))
    rw [hx, l1In_eq]
    refine Ev.bind (ev_c rfl) ?_
    refine ev_ite (fun h => ?_) (fun h => ?_)
    · rw [w64 (by omega) (by omega)]
      refine ev_eq ih' ?_
      rw [List.all_cons, show inB a b x = true from h, Bool.true_and]
    · refine ev_eq (Ev.now _) ?_
      rw [List.all_cons, show inB a b x = false from decide_eq_false (fun hh => h (decide_eq_true hh)), Bool.false_and]
theorem l1All_ev (l : List Int) (a b : Int) (hl : l.length ≤ 9223372036854775807) : Ev (fun k => spec_l1All.f k l a b) (l.all (inB a b)) := by
  unfold spec_l1All.f
  exact l1All_l0 l a b hl l [] 0 rfl rfl

/-! #### tracksM -/
def tracksM (l : List Int) : Bool := decide (l.length ≤ 20) && l.all (inB 0 19)
theorem spec_rtTracks_ev (l : List Int) (hl : l.length ≤ 9223372036854775807) : Ev (fun k => spec_rtTracks.f k l) (tracksM l) := by
  unfold spec_rtTracks.f tracksM
  refine ev_ite (fun h => ?_) (fun h => ?_)
  · rw [decide_eq_true (by omega), Bool.true_and]
    exact Ev.bind (l1All_ev l 0 19 hl) (Ev.now _)
  · rw [decide_eq_false (by omega), Bool.false_and]
    exact Ev.now _
theorem tracksM_bounds {l : List Int} (h : tracksM l = true) : l.length ≤ 20 ∧ ∀ x ∈ l, 0 ≤ x ∧ x ≤ 19 := by
  unfold tracksM at h
  rw [Bool.and_eq_true, List.all_eq_true] at h
  exact ⟨of_decide_eq_true h.1, fun x hx => of_decide_eq_true (h.2 x hx)⟩

/-! #### chanM -/
def goodWire (x : S80) : Bool := decide (0 ≤ x.f0 ∧ x.f0 ≤ x.f1 ∧ x.f1 ≤ 50)
def chanM (l : List S80) : Bool := decide (l.length ≤ 20) && l.all goodWire
theorem spec_rtWire_eq (a b : Int) : spec_rtWire.f a b = some (goodWire ⟨a, b⟩) := by
  unfold spec_rtWire.f
  rw [l1In_eq, Option.bind_some]
  by_cases h : 0 ≤ a ∧ a ≤ b
  · rw [decide_eq_true h, if_pos rfl, l1In_eq, Option.bind_some]
    congr 1
    exact decide_eq_decide.2 ⟨fun hh => ⟨h.1, h.2, hh.2⟩, fun hh => ⟨h.2, hh.2.2⟩⟩
  · rw [decide_eq_false h, if_neg (by decide)]
    congr 1; symm
    exact decide_eq_false (fun hh => h ⟨hh.1, hh.2.1⟩)
theorem impl_isWire_eq (a b : Int) : impl_isWire.f a b = some (goodWire ⟨a, b⟩) := by
  unfold impl_isWire.f
  by_cases h1 : a ≥ 0
  · rw [if_pos h1]
    by_cases h2 : a ≤ b
    · rw [if_pos h2]
      congr 1
      exact decide_eq_decide.2 ⟨fun hh => ⟨h1, h2, hh⟩, fun hh => hh.2.2⟩
    · rw [if_neg h2]
      congr 1; symm
      exact decide_eq_false (fun hh => h2 hh.2.1)
  · rw [if_neg h1]
    congr 1; symm
    exact decide_eq_false (fun hh => h1 hh.1)

/-! #### strNums -/
theorem strOfNums_one (n : Int) : (strOfNums [n]).size = 1 := rfl
theorem strOfNums_append (a b : List Int) : strOfNums (a ++ b) = strOfNums a ++ strOfNums b := by
  apply ByteArray.ext
  simp [strOfNums, ByteArray.data_append]
theorem strOfNums_size (a : List Int) : (strOfNums a).size = a.length := by
  simp [strOfNums, ByteArray.size]

/-! #### chanNat -/
theorem chanM_length {l : List S80} (h : chanM l = true) : l.length ≤ 20 := by
  unfold chanM at h
  rw [Bool.and_eq_true] at h
  exact of_decide_eq_true h.1
theorem great_nat {tr : List Int} (h : tracksM tr = true) : ∃ N : Nat, (N : Int) = greatM (-1) tr + 1 ∧ N ≤ 1001 := by
  obtain ⟨_, hb⟩ := tracksM_bounds h
  have := greatM_bound (l := tr) (g := -1) (by omega) (by omega) (fun x hx => ⟨(hb x hx).1, by have := (hb x hx).2; omega⟩)
  exact ⟨(greatM (-1) tr + 1).toNat, by omega, by omega⟩

/-! #### rtextM -/
/-- Wire j is in track t and lies over column c. -/
def inC (l : List S80) (tr : List Int) (t c : Nat) (j : Nat) : Bool := decide (rd tr j = t ∧ (rd_T80 l j).f0 ≤ c ∧ (c : Int) ≤ (rd_T80 l j).f1)
def chM (l : List S80) (tr : List Int) (t c : Nat) : Int → Nat → Nat → Int
  | a, _, 0 => a
  | a, j, d + 1 => chM l tr t c (if inC l tr t c j = true then 97 + (j : Int) else a) (j + 1) d
def rowM (l : List S80) (tr : List Int) (t : Nat) : Nat → Nat → List Int
  | _, 0 => []
  | c, d + 1 => chM l tr t c 46 0 l.length :: rowM l tr t (c + 1) d
theorem rowM_length (l : List S80) (tr : List Int) (t d : Nat) : ∀ c, (rowM l tr t c d).length = d := by
  induction d with
  | zero => intro c; rfl
  | succ d ih => intro c; rw [rowM, List.length_cons, ih]
def txtR (l : List S80) (tr : List Int) (W : Nat) : Nat → Nat → List Int
  | _, 0 => []
  | t, d + 1 => rowM l tr t 0 W ++ 10 :: txtR l tr W (t + 1) d
def rtOk (l : List S80) (tr : List Int) : Prop := (chanM l = true ∧ tracksM tr = true ∧ tr.length = l.length) ∧ routM l tr = true
open Classical in
noncomputable def rtextM (l : List S80) (tr : List Int) : ByteArray × Bool := if rtOk l tr then (strOfNums (txtR l tr (greatM (-1) (l.map (·.f1)) + 1).toNat 0 (greatM (-1) tr + 1).toNat), true) else (⟨#[]⟩, false)
theorem chan_f1 {l : List S80} (h : chanM l = true) : ∀ w ∈ l, 0 ≤ w.f1 ∧ w.f1 ≤ 1000 := by
  intro w hw
  unfold chanM at h
  rw [Bool.and_eq_true, List.all_eq_true] at h
  have := of_decide_eq_true (h.2 w hw)
  omega
theorem wid_nat {l : List S80} (h : chanM l = true) : ∃ N : Nat, (N : Int) = greatM (-1) (l.map (·.f1)) + 1 ∧ N ≤ 1001 := by
  have := greatM_bound (l := l.map (·.f1)) (g := -1) (by omega) (by omega) (fun x hx => by
    obtain ⟨w, hw, rfl⟩ := List.mem_map.1 hx
    exact chan_f1 h w hw)
  exact ⟨(greatM (-1) (l.map (·.f1)) + 1).toNat, by omega, by omega⟩

/-! #### spec_rtGood -/
theorem spec_rtGood_l0 (l : List S80) (hl : l.length ≤ 9223372036854775807) (r : List S80) : ∀ (p : List S80) (i : Int), i = p.length → l = p ++ r →
    Ev (fun k => spec_rtGood.l0 k l l l.length i) (decide (l.length ≤ 20) && r.all goodWire) := by
  induction r with
  | nil =>
    intro p i hi e
    have hlen : l.length = p.length := by rw [e]; simp
    apply ev_up
    simp only [spec_rtGood.l0]
    refine ev_n (by omega) (ev_eq (Ev.now _) ?_)
    rw [List.all_nil, Bool.and_true]
    exact decide_eq_decide.2 (by omega)
  | cons x r ih =>
    intro p i hi e
    have hlen : l.length = p.length + r.length + 1 := by rw [e]; simp; omega
    have hx : rd_T80 l i = x := by rw [e]; exact rdWireA hi
    have ih' := ih (p ++ [x]) (i + 1) (by simp; omega) (by rw [e]; simp)
    apply ev_up
    simp only [spec_rtGood.l0]
    refine ev_p (by omega) (ev_p (by omega) (ev_p (by omega) ?_))
    rw [hx, spec_rtWire_eq]
    refine Ev.bind (ev_c rfl) ?_
    have ex : (⟨x.f0, x.f1⟩ : S80) = x := rfl
    rw [ex]
    refine ev_ite (fun h => ?_) (fun h => ?_)
    · rw [w64 (by omega) (by omega)]
      refine ev_eq ih' ?_
      rw [List.all_cons, h, Bool.true_and]
    · refine ev_eq (Ev.now _) ?_
      have h' : goodWire x = false := by simpa using h
      rw [List.all_cons, h', Bool.false_and, Bool.and_false]
theorem spec_rtGood_ev (l : List S80) (hl : l.length ≤ 9223372036854775807) : Ev (fun k => spec_rtGood.f k l) (chanM l) := by
  unfold spec_rtGood.f chanM
  exact spec_rtGood_l0 l hl l [] 0 rfl rfl

/-! #### rtAsked -/
theorem spec_rtAsked_ev (l : List S80) (tr : List Int) (hl : l.length ≤ 1048576) (ht : tr.length ≤ 1048576) : Ev (fun k => spec_rtAsked.f k l tr) (decide (chanM l = true ∧ tracksM tr = true ∧ tr.length = l.length)) := by
  unfold spec_rtAsked.f
  refine Ev.bind (spec_rtGood_ev l (by omega)) (ev_ite (fun h1 => Ev.bind (spec_rtTracks_ev tr (by omega)) (ev_ite (fun h2 => ?_) (fun h2 => ?_))) (fun h1 => ?_))
  · refine ev_eq (Ev.now _) ?_
    rw [Bool.eq_iff_iff, beq_iff_eq, decide_eq_true_eq]
    exact ⟨fun h => ⟨h1, h2, by omega⟩, fun h => by omega⟩
  · rw [decide_eq_false (fun h => h2 h.2.1)]
    exact Ev.now _
  · rw [decide_eq_false (fun h => h1 h.1)]
    exact Ev.now _

/-! #### spec_rtRouting -/
theorem spec_rtRouting_l1 (l : List S80) (tr : List Int) (hl : l.length ≤ 1048576) (ht : tr.length = l.length) (i : Nat) (hi : i < l.length) (res : Bool) (d : Nat) : ∀ (j : Nat), j + d = i →
    (allB (okPair l tr i) j d = true → Ev (fun k => spec_rtRouting.l0 k l tr l l.length (wrap64 ((i : Int) + 1))) res) → (allB (okPair l tr i) j d = false → res = false) →
    Ev (fun k => spec_rtRouting.l1 k l tr i l l.length i i j (rd_T80 l i).f0 (rd_T80 l i).f1) res := by
  induction d with
  | zero =>
    intro j hj h1 h2
    apply ev_up
    simp only [spec_rtRouting.l1]
    exact ev_n (by omega) (h1 rfl)
  | succ d ih =>
    intro j hj h1 h2
    apply ev_up
    simp only [spec_rtRouting.l1]
    refine ev_p (by omega) (ev_p (by omega) (ev_p (by omega) (ev_p (by omega) (ev_p (by omega) ?_))))
    rw [wN (n := (j : Int) + 1) (m := j + 1) (by omega) (by omega), allB] at *
    have yes : okPair l tr i j = true → Ev (fun k => spec_rtRouting.l1 k l tr i l l.length i i ((j + 1 : Nat) : Int) (rd_T80 l i).f0 (rd_T80 l i).f1) res := fun h => by
      rw [h, Bool.true_and] at h1 h2
      exact ih (j + 1) (by omega) h1 h2
    refine ev_ite (fun c1 => ev_p (by omega) ?_) (fun c1 => ?_)
    · rw [spec_rtMeet_eq]
      refine Ev.bind (ev_c rfl) (ev_ite (fun c2 => ?_) (fun c2 => ?_))
      · have : okPair l tr i j = false := by unfold okPair; rw [decide_eq_true c1, c2]; rfl
        rw [h2 (by rw [this, Bool.false_and])]
        exact Ev.now _
      · exact yes (by unfold okPair; rw [show meetB (rd_T80 l i) (rd_T80 l j) = false by simpa using c2, Bool.and_false]; rfl)
    · exact yes (by unfold okPair; rw [decide_eq_false c1, Bool.false_and]; rfl)
theorem spec_rtRouting_l0 (l : List S80) (tr : List Int) (hl : l.length ≤ 1048576) (ht : tr.length = l.length) (d : Nat) : ∀ (i : Nat), i + d = l.length →
    Ev (fun k => spec_rtRouting.l0 k l tr l l.length i) (allB (fun i => allB (okPair l tr i) 0 i) i d) := by
  induction d with
  | zero =>
    intro i hi
    apply ev_up
    simp only [spec_rtRouting.l0]
    exact ev_n (by omega) (Ev.now _)
  | succ d ih =>
    intro i hi
    have e : ((l.take ((i : Int)).toNat).length : Int) = i := by simp; omega
    apply ev_up
    simp only [spec_rtRouting.l0]
    refine ev_p (by omega) (ev_p (by omega) (ev_p (by omega) (ev_p (by omega) ?_)))
    rw [e]
    refine spec_rtRouting_l1 l tr hl ht i (by omega) _ i 0 (by omega) (fun h => ?_) (fun h => ?_)
    · rw [wN (n := (i : Int) + 1) (m := i + 1) (by omega) (by omega), allB, h, Bool.true_and]
      exact ih (i + 1) (by omega)
    · rw [allB, h, Bool.false_and]
theorem spec_rtRouting_ev (l : List S80) (tr : List Int) (hl : l.length ≤ 1048576) (ht : tr.length = l.length) : Ev (fun k => spec_rtRouting.f k l tr) (routM l tr) := by
  unfold spec_rtRouting.f routM
  exact spec_rtRouting_l0 l tr hl ht l.length 0 (by omega)

/-! #### spec_rtTop -/
theorem l1Most_eq (a b : Int) : spec_l1Most.f a b = some (if a > b then a else b) := by
  unfold spec_l1Most.f
  split <;> rfl
theorem spec_rtTop_l0 (l : List Int) (hl : l.length ≤ 1048576) (hb : ∀ x ∈ l, 0 ≤ x ∧ x ≤ 1000) (r : List Int) : ∀ (p : List Int) (g i : Int), i = p.length → l = p ++ r →
    Ev (fun k => spec_rtTop.l0 k (g + 1) l l.length i) (greatM g r + 1) := by
  induction r with
  | nil =>
    intro p g i hi e
    have hlen : l.length = p.length := by rw [e]; simp
    apply ev_up
    simp only [spec_rtTop.l0]
    exact ev_n (by omega) (Ev.now _)
  | cons x r ih =>
    intro p g i hi e
    have hlen : l.length = p.length + r.length + 1 := by rw [e]; simp; omega
    have hx : rd l i = x := by rw [e]; exact rdA hi
    have hxb := hb x (by rw [e]; simp)
    apply ev_up
    simp only [spec_rtTop.l0]
    refine ev_p (by omega) (ev_p (by omega) (ev_p (by omega) ?_))
    rw [hx, l1Most_eq, w64 (n := x + 1) (by omega) (by omega), w64 (n := i + 1) (by omega) (by omega)]
    refine Ev.bind (ev_c rfl) ?_
    have e2 : (if g + 1 > x + 1 then g + 1 else x + 1) = (if g < x then x else g) + 1 := by
      by_cases h1 : g < x
      · rw [if_neg (by omega), if_pos h1]
      · by_cases h2 : g = x
        · rw [if_neg (by omega), if_neg h1, h2]
        · rw [if_pos (by omega), if_neg h1]
    rw [e2]
    exact ih (p ++ [x]) _ (i + 1) (by simp; omega) (by rw [e]; simp)
theorem spec_rtTop_ev (l : List Int) (hl : l.length ≤ 1048576) (hb : ∀ x ∈ l, 0 ≤ x ∧ x ≤ 1000) : Ev (fun k => spec_rtTop.f k l) (greatM (-1) l + 1) := by
  unfold spec_rtTop.f
  exact spec_rtTop_l0 l hl hb l [] (-1) 0 rfl rfl

/-! #### spec_RoutingText -/
theorem spec_RoutingText_l3 (l : List S80) (tr : List Int) (hl : l.length ≤ 20) (ht : tr.length = l.length) (W t c : Nat) (xs : List Int) (hx : xs.length ≤ 1000000000) (R : ByteArray × Bool) (d : Nat) : ∀ (j : Nat) (a : Int), j + d = l.length →
    Ev (fun k => spec_RoutingText.l2 k l tr (W : Int) (strOfNums (xs ++ [chM l tr t c a j d])) t (wrap64 ((c : Int) + 1))) R → Ev (fun k => spec_RoutingText.l3 k l tr (W : Int) (strOfNums (xs)) t c (strOfNums [a]) l l.length j) R := by
  induction d with
  | zero =>
    intro j a hj h
    apply ev_up
    simp only [spec_RoutingText.l3]
    refine ev_n (by omega) (ev_p (by rw [strOfNums_size, strOfNums_size]; simp; omega) ?_)
    rw [← strOfNums_append]
    exact h
  | succ d ih =>
    intro j a hj h
    have ih' := fun a => ih (j + 1) a (by omega)
    have e97 : (wrap64 (97 + (j : Int))) % 256 = 97 + j := by rw [w64 (n := 97 + (j : Int)) (by omega) (by omega)]; omega
    rw [chM] at h
    apply ev_up
    simp only [spec_RoutingText.l3]
    rw [wN (n := (j : Int) + 1) (m := j + 1) (by omega) (by omega), e97]
    refine ev_p (by omega) (ev_p (by omega) (ev_p (by omega) (ev_p (by omega) (ev_ite (fun c1 => ?_) (fun c1 => ?_)))))
    · rw [l1In_eq]
      refine Ev.bind (ev_c rfl) (ev_ite (fun c2 => ?_) (fun c2 => ?_))
      · have c2' := of_decide_eq_true c2
        refine ih' _ ?_
        rw [if_pos (show inC l tr t c j = true from decide_eq_true ⟨c1, c2'⟩)] at h
        exact h
      · refine ih' a ?_
        rw [if_neg (show ¬ inC l tr t c j = true from fun hh => c2 (decide_eq_true (of_decide_eq_true hh).2))] at h
        exact h
    · refine ih' a ?_
      rw [if_neg (show ¬ inC l tr t c j = true from fun hh => c1 (of_decide_eq_true hh).1)] at h
      exact h
theorem spec_RoutingText_l2 (l : List S80) (tr : List Int) (hl : l.length ≤ 20) (ht : tr.length = l.length) (W t : Nat) (hW : W ≤ 1001) (R : ByteArray × Bool) (d : Nat) : ∀ (c : Nat) (xs : List Int), c + d = W → xs.length + d ≤ 1000000000 →
    Ev (fun k => spec_RoutingText.l1 k l tr (W : Int) (strOfNums (xs ++ (rowM l tr t c d ++ [10]))) (wrap64 ((t : Int) + 1))) R → Ev (fun k => spec_RoutingText.l2 k l tr (W : Int) (strOfNums (xs)) t c) R := by
  induction d with
  | zero =>
    intro c xs hc hx h
    apply ev_up
    simp only [spec_RoutingText.l2]
    rw [rowM, List.nil_append] at h
    refine ev_n (by omega) (ev_p (by rw [strOfNums_size]; omega) ?_)
    rw [show (⟨#[10]⟩ : ByteArray) = strOfNums [10] from rfl, ← strOfNums_append]
    exact h
  | succ d ih =>
    intro c xs hc hx h
    apply ev_up
    simp only [spec_RoutingText.l2]
    refine ev_p (by omega) ?_
    have := spec_RoutingText_l3 l tr hl ht W t c xs (by omega) R l.length 0 46 (by omega)
    refine this ?_
    rw [wN (n := (c : Int) + 1) (m := c + 1) (by omega) (by omega)]
    refine ih (c + 1) _ (by omega) (by simp; omega) ?_
    rw [rowM] at h
    simpa using h
theorem spec_RoutingText_l1 (l : List S80) (tr : List Int) (hl : l.length ≤ 20) (ht : tr.length = l.length) (hb : ∀ x ∈ tr, 0 ≤ x ∧ x ≤ 19) (W : Nat) (hW : W ≤ 1001) (N : Nat) (hN : (N : Int) = greatM (-1) tr + 1) (hN2 : N ≤ 1001) (d : Nat) : ∀ (t : Nat) (xs : List Int), t + d = N → xs.length ≤ t * 1002 →
    Ev (fun k => spec_RoutingText.l1 k l tr (W : Int) (strOfNums (xs)) t) (strOfNums (xs ++ txtR l tr W t d), true) := by
  induction d with
  | zero =>
    intro t xs ht' hx
    apply ev_up
    simp only [spec_RoutingText.l1]
    refine Ev.bind (spec_rtTop_ev tr (by omega) (fun x hx => ⟨(hb x hx).1, by have := (hb x hx).2; omega⟩)) (ev_n (by omega) (ev_eq (Ev.now _) ?_))
    simp [txtR]
  | succ d ih =>
    intro t xs ht' hx
    apply ev_up
    simp only [spec_RoutingText.l1]
    refine Ev.bind (spec_rtTop_ev tr (by omega) (fun x hx => ⟨(hb x hx).1, by have := (hb x hx).2; omega⟩)) (ev_p (by omega) ?_)
    have hrl := rowM_length l tr t W 0
    refine spec_RoutingText_l2 l tr hl ht W t hW _ W 0 xs (by omega) (by omega) ?_
    rw [wN (n := (t : Int) + 1) (m := t + 1) (by omega) (by omega)]
    refine ev_eq (ih (t + 1) _ (by omega) (by simp; omega)) ?_
    simp [txtR]
theorem spec_RoutingText_l0 (l : List S80) (tr : List Int) (hl : l.length ≤ 20) (hg : ∀ w ∈ l, 0 ≤ w.f1 ∧ w.f1 ≤ 1000) (R : ByteArray × Bool) (r : List S80) : ∀ (p : List S80) (g i : Int), i = p.length → l = p ++ r →
    Ev (fun k => spec_RoutingText.l1 k l tr (greatM g (r.map (·.f1)) + 1) ⟨#[]⟩ 0) R → Ev (fun k => spec_RoutingText.l0 k l tr (g + 1) l l.length i) R := by
  induction r with
  | nil =>
    intro p g i hi e h
    have hlen : l.length = p.length := by rw [e]; simp
    apply ev_up
    simp only [spec_RoutingText.l0]
    exact ev_n (by omega) h
  | cons x r ih =>
    intro p g i hi e h
    have hlen : l.length = p.length + r.length + 1 := by rw [e]; simp; omega
    have hx : rd_T80 l i = x := by rw [e]; exact rdWireA hi
    have hxb := hg x (by rw [e]; simp)
    apply ev_up
    simp only [spec_RoutingText.l0]
    refine ev_p (by omega) (ev_p (by omega) (ev_p (by omega) ?_))
    rw [List.map_cons, greatM] at h
    rw [hx, l1Most_eq, w64 (n := x.f1 + 1) (by omega) (by omega), w64 (n := i + 1) (by omega) (by omega)]
    refine Ev.bind (ev_c rfl) ?_
    have e2 : (if g + 1 > x.f1 + 1 then g + 1 else x.f1 + 1) = (if g < x.f1 then x.f1 else g) + 1 := by
      by_cases h1 : g < x.f1
      · rw [if_neg (by omega), if_pos h1]
      · by_cases h2 : g = x.f1
        · rw [if_neg (by omega), if_neg h1, h2]
        · rw [if_pos (by omega), if_neg h1]
    rw [e2]
    exact ih (p ++ [x]) _ (i + 1) (by simp; omega) (by rw [e]; simp) h
theorem spec_RoutingText_ev (l : List S80) (tr : List Int) (hl : l.length ≤ 1048576) (ht : tr.length ≤ 1048576) : Ev (fun k => spec_RoutingText.f k l tr) (rtextM l tr) := by
  have no : ¬ rtOk l tr → Ev (fun k => spec_RoutingText.j0 k l tr true) (rtextM l tr) := fun h => by
    unfold rtextM
    rw [if_neg h]
    apply ev_up
    simp only [spec_RoutingText.j0]
    exact ev_p (by trivial) (Ev.now _)
  have yes : rtOk l tr → Ev (fun k => spec_RoutingText.j0 k l tr false) (rtextM l tr) := fun h => by
    obtain ⟨⟨h1, h2, h3⟩, h4⟩ := h
    have hg := chan_f1 h1
    obtain ⟨N, hN, hN2⟩ := great_nat h2
    obtain ⟨W, hW, hW2⟩ := wid_nat h1
    unfold rtextM
    rw [if_pos ⟨⟨h1, h2, h3⟩, h4⟩]
    apply ev_up
    simp only [spec_RoutingText.j0]
    refine ev_n (by decide) ?_
    have e : (greatM (-1) tr + 1).toNat = N := by omega
    have e2 : (greatM (-1) (l.map (·.f1)) + 1).toNat = W := by omega
    rw [e, e2]
    refine spec_RoutingText_l0 l tr (chanM_length h1) hg _ l [] (-1) 0 rfl rfl ?_
    have := spec_RoutingText_l1 l tr (chanM_length h1) h3 (tracksM_bounds h2).2 W hW2 N hN hN2 N 0 [] (by omega) (by simp)
    rw [List.nil_append] at this
    rw [← hW]
    exact this
  unfold spec_RoutingText.f
  refine Ev.bind (spec_rtAsked_ev l tr hl ht) (ev_ite (fun h1 => ?_) (fun h1 => no (fun h => h1 (decide_eq_true h.1))))
  have h1' := of_decide_eq_true h1
  refine Ev.bind (spec_rtRouting_ev l tr hl h1'.2.2) ?_
  by_cases h2 : routM l tr = true
  · rw [h2]
    exact yes ⟨h1', h2⟩
  · rw [show routM l tr = false by simpa using h2]
    exact no (fun h => h2 h.2)

/-! #### impl_isRouting -/
theorem impl_isRouting_l1 (l : List S80) (tr : List Int) (hl : l.length ≤ 1048576) (ht : tr.length = l.length) (i : Nat) (hi : i < l.length) (res : Bool) (d : Nat) : ∀ (j : Nat), j + d = i →
    (allB (okPair l tr i) j d = true → Ev (fun k => impl_isRouting.l0 k l tr l.length (wrap64 ((i : Int) + 1))) res) → (allB (okPair l tr i) j d = false → res = false) →
    Ev (fun k => impl_isRouting.l1 k l tr i j l.length i) res := by
  induction d with
  | zero =>
    intro j hj h1 h2
    apply ev_up
    simp only [impl_isRouting.l1]
    exact ev_n (by omega) (h1 rfl)
  | succ d ih =>
    intro j hj h1 h2
    apply ev_up
    simp only [impl_isRouting.l1]
    refine ev_p (by omega) (ev_p (by omega) (ev_p (by omega) (ev_p (by omega) (ev_p (by omega) ?_))))
    rw [wN (n := (j : Int) + 1) (m := j + 1) (by omega) (by omega), allB] at *
    have yes : okPair l tr i j = true → Ev (fun k => impl_isRouting.l1 k l tr i ((j + 1 : Nat) : Int) l.length i) res := fun h => by
      rw [h, Bool.true_and] at h1 h2
      exact ih (j + 1) (by omega) h1 h2
    refine ev_ite (fun c1 => ev_p (by omega) (ev_p (by omega) ?_)) (fun c1 => ?_)
    · rw [impl_wiresMeet_eq]
      refine Ev.bind (ev_c rfl) (ev_ite (fun c2 => ?_) (fun c2 => ?_))
      · have : okPair l tr i j = false := by unfold okPair; rw [decide_eq_true c1, c2]; rfl
        rw [h2 (by rw [this, Bool.false_and])]
        exact Ev.now _
      · exact yes (by unfold okPair; rw [show meetB (rd_T80 l i) (rd_T80 l j) = false by simpa using c2, Bool.and_false]; rfl)
    · exact yes (by unfold okPair; rw [decide_eq_false c1, Bool.false_and]; rfl)
theorem impl_isRouting_l0 (l : List S80) (tr : List Int) (hl : l.length ≤ 1048576) (ht : tr.length = l.length) (d : Nat) : ∀ (i : Nat), i + d = l.length →
    Ev (fun k => impl_isRouting.l0 k l tr l.length i) (allB (fun i => allB (okPair l tr i) 0 i) i d) := by
  induction d with
  | zero =>
    intro i hi
    apply ev_up
    simp only [impl_isRouting.l0]
    exact ev_n (by omega) (Ev.now _)
  | succ d ih =>
    intro i hi
    apply ev_up
    simp only [impl_isRouting.l0]
    refine ev_p (by omega) ?_
    refine impl_isRouting_l1 l tr hl ht i (by omega) _ i 0 (by omega) (fun h => ?_) (fun h => ?_)
    · rw [wN (n := (i : Int) + 1) (m := i + 1) (by omega) (by omega), allB, h, Bool.true_and]
      exact ih (i + 1) (by omega)
    · rw [allB, h, Bool.false_and]
theorem impl_isRouting_ev (l : List S80) (tr : List Int) (hl : l.length ≤ 1048576) (ht : tr.length = l.length) : Ev (fun k => impl_isRouting.f k l tr) (routM l tr) := by
  unfold impl_isRouting.f routM
  exact impl_isRouting_l0 l tr hl ht l.length 0 (by omega)

/-! #### impl_AreChannelWires -/
theorem impl_AreChannelWires_l0 (l : List S80) (hl : l.length ≤ 9223372036854775807) (r : List S80) : ∀ (p : List S80) (i : Int), i = p.length → l = p ++ r →
    Ev (fun k => impl_AreChannelWires.l0 k l l.length i) (r.all goodWire) := by
  induction r with
  | nil =>
    intro p i hi e
    have hlen : l.length = p.length := by rw [e]; simp
    apply ev_up
    simp only [impl_AreChannelWires.l0]
    exact ev_n (by omega) (Ev.now _)
  | cons x r ih =>
    intro p i hi e
    have hlen : l.length = p.length + r.length + 1 := by rw [e]; simp; omega
    have hx : rd_T80 l i = x := by rw [e]; exact rdWireA hi
    have ih' := ih (p ++ [x]) (i + 1) (by simp; omega) (by rw [e]; simp)
    apply ev_up
    simp only [impl_AreChannelWires.l0]
    refine ev_p (by omega) (ev_p (by omega) (ev_p (by omega) ?_))
    rw [hx, impl_isWire_eq]
    refine Ev.bind (ev_c rfl) ?_
    have ex : (⟨x.f0, x.f1⟩ : S80) = x := rfl
    rw [ex]
    refine ev_ite (fun h => ?_) (fun h => ?_)
    · rw [w64 (by omega) (by omega)]
      refine ev_eq ih' ?_
      rw [List.all_cons, h, Bool.true_and]
    · refine ev_eq (Ev.now _) ?_
      have h' : goodWire x = false := by simpa using h
      rw [List.all_cons, h', Bool.false_and]
theorem impl_AreChannelWires_ev (l : List S80) (hl : l.length ≤ 9223372036854775807) : Ev (fun k => impl_AreChannelWires.f k l) (chanM l) := by
  unfold impl_AreChannelWires.f chanM
  refine ev_ite (fun h => ?_) (fun h => ?_)
  · rw [decide_eq_false (by omega), Bool.false_and]
    exact Ev.now _
  · rw [decide_eq_true (by omega), Bool.true_and]
    exact impl_AreChannelWires_l0 l hl l [] 0 rfl rfl

/-! #### impl_areTracks -/
theorem impl_areTracks_l0 (l : List Int) (hl : l.length ≤ 9223372036854775807) (r : List Int) : ∀ (p : List Int) (i : Int), i = p.length → l = p ++ r →
    Ev (fun k => impl_areTracks.l0 k l l.length i) (r.all (inB 0 19)) := by
  induction r with
  | nil =>
    intro p i hi e
    have hlen : l.length = p.length := by rw [e]; simp
    apply ev_up
    simp only [impl_areTracks.l0]
    exact ev_n (by omega) (Ev.now _)
  | cons x r ih =>
    intro p i hi e
    have hlen : l.length = p.length + r.length + 1 := by rw [e]; simp; omega
    have hx : rd l i = x := by rw [e]; exact rdA hi
    have ih' := ih (p ++ [x]) (i + 1) (by simp; omega) (by rw [e]; simp)
    apply ev_up
    simp only [impl_areTracks.l0]
    refine ev_p (by omega) (ev_p (by omega) (ev_p (by omega) ?_))
    rw [hx]
    refine ev_ite (fun h => ?_) (fun h => ev_ite (fun h2 => ?_) (fun h2 => ?_))
    · refine ev_eq (Ev.now _) ?_
      rw [List.all_cons, show inB 0 19 x = false from decide_eq_false (by omega), Bool.false_and]
    · refine ev_eq (Ev.now _) ?_
      rw [List.all_cons, show inB 0 19 x = false from decide_eq_false (by omega), Bool.false_and]
    · rw [w64 (by omega) (by omega)]
      refine ev_eq ih' ?_
      rw [List.all_cons, show inB 0 19 x = true from decide_eq_true (by omega), Bool.true_and]
theorem impl_areTracks_ev (l : List Int) (hl : l.length ≤ 9223372036854775807) : Ev (fun k => impl_areTracks.f k l) (tracksM l) := by
  unfold impl_areTracks.f tracksM
  refine ev_ite (fun h => ?_) (fun h => ?_)
  · rw [decide_eq_false (by omega), Bool.false_and]
    exact Ev.now _
  · rw [decide_eq_true (by omega), Bool.true_and]
    exact impl_areTracks_l0 l hl l [] 0 rfl rfl

/-! #### impl_greatest -/
theorem impl_greatest_l0 (l : List Int) (hl : l.length ≤ 1048576) (r : List Int) : ∀ (p : List Int) (g i : Int), i = p.length → l = p ++ r →
    Ev (fun k => impl_greatest.l0 k g l l.length i) (greatM g r) := by
  induction r with
  | nil =>
    intro p g i hi e
    have hlen : l.length = p.length := by rw [e]; simp
    apply ev_up
    simp only [impl_greatest.l0]
    exact ev_n (by omega) (Ev.now _)
  | cons x r ih =>
    intro p g i hi e
    have hlen : l.length = p.length + r.length + 1 := by rw [e]; simp; omega
    have hx : rd l i = x := by rw [e]; exact rdA hi
    apply ev_up
    simp only [impl_greatest.l0]
    refine ev_p (by omega) (ev_p (by omega) (ev_p (by omega) ?_))
    rw [hx, w64 (n := i + 1) (by omega) (by omega)]
    exact ih (p ++ [x]) _ (i + 1) (by simp; omega) (by rw [e]; simp)
theorem impl_greatest_ev (l : List Int) (hl : l.length ≤ 1048576) : Ev (fun k => impl_greatest.f k l) (greatM (-1) l) := by
  unfold impl_greatest.f
  exact impl_greatest_l0 l hl l [] (-1) 0 rfl rfl

/-! #### impl_RoutingText -/
theorem impl_RoutingText_l3 (l : List S80) (tr : List Int) (hl : l.length ≤ 20) (ht : tr.length = l.length) (W t c : Nat) (xs : List Int) (hx : xs.length ≤ 1000000000) (R : ByteArray × Bool) (d : Nat) : ∀ (j : Nat) (a : Int), j + d = l.length →
    Ev (fun k => impl_RoutingText.l2 k l tr ((W : Int) - 1) (xs ++ [chM l tr t c a j d]) t (wrap64 ((c : Int) + 1))) R → Ev (fun k => impl_RoutingText.l3 k l tr ((W : Int) - 1) (xs) t c (a) l l.length j) R := by
  induction d with
  | zero =>
    intro j a hj h
    apply ev_up
    simp only [impl_RoutingText.l3]
    exact ev_n (by omega) (ev_p (by omega) h)
  | succ d ih =>
    intro j a hj h
    have ih' := fun a => ih (j + 1) a (by omega)
    have e97 : (wrap64 (97 + (j : Int))) % 256 = 97 + j := by rw [w64 (n := 97 + (j : Int)) (by omega) (by omega)]; omega
    rw [chM] at h
    apply ev_up
    simp only [impl_RoutingText.l3]
    rw [wN (n := (j : Int) + 1) (m := j + 1) (by omega) (by omega), e97]
    refine ev_p (by omega) (ev_p (by omega) (ev_p (by omega) (ev_p (by omega) (ev_ite (fun c1 => ?_) (fun c1 => ?_)))))
    · refine ev_ite (fun c2 => ev_ite (fun c3 => ?_) (fun c3 => ?_)) (fun c2 => ?_)
      · refine ih' _ ?_
        rw [if_pos (show inC l tr t c j = true from decide_eq_true ⟨c1, c2, c3⟩)] at h
        exact h
      · refine ih' a ?_
        rw [if_neg (show ¬ inC l tr t c j = true from fun hh => c3 (of_decide_eq_true hh).2.2)] at h
        exact h
      · refine ih' a ?_
        rw [if_neg (show ¬ inC l tr t c j = true from fun hh => c2 (of_decide_eq_true hh).2.1)] at h
        exact h
    · refine ih' a ?_
      rw [if_neg (show ¬ inC l tr t c j = true from fun hh => c1 (of_decide_eq_true hh).1)] at h
      exact h
theorem impl_RoutingText_l2 (l : List S80) (tr : List Int) (hl : l.length ≤ 20) (ht : tr.length = l.length) (W t : Nat) (hW : W ≤ 1001) (R : ByteArray × Bool) (d : Nat) : ∀ (c : Nat) (xs : List Int), c + d = W → xs.length + d ≤ 1000000000 →
    Ev (fun k => impl_RoutingText.l1 k l tr ((W : Int) - 1) (xs ++ (rowM l tr t c d ++ [10])) (wrap64 ((t : Int) + 1))) R → Ev (fun k => impl_RoutingText.l2 k l tr ((W : Int) - 1) (xs) t c) R := by
  induction d with
  | zero =>
    intro c xs hc hx h
    apply ev_up
    simp only [impl_RoutingText.l2]
    rw [rowM, List.nil_append] at h
    exact ev_n (by omega) (ev_p (by omega) h)
  | succ d ih =>
    intro c xs hc hx h
    apply ev_up
    simp only [impl_RoutingText.l2]
    refine ev_p (by omega) ?_
    have := impl_RoutingText_l3 l tr hl ht W t c xs (by omega) R l.length 0 46 (by omega)
    refine this ?_
    rw [wN (n := (c : Int) + 1) (m := c + 1) (by omega) (by omega)]
    refine ih (c + 1) _ (by omega) (by simp; omega) ?_
    rw [rowM] at h
    simpa using h
theorem impl_RoutingText_l1 (l : List S80) (tr : List Int) (hl : l.length ≤ 20) (ht : tr.length = l.length) (hb : ∀ x ∈ tr, 0 ≤ x ∧ x ≤ 19) (W : Nat) (hW : W ≤ 1001) (N : Nat) (hN : (N : Int) = greatM (-1) tr + 1) (hN2 : N ≤ 1001) (d : Nat) : ∀ (t : Nat) (xs : List Int), t + d = N → xs.length ≤ t * 1002 →
    Ev (fun k => impl_RoutingText.l1 k l tr ((W : Int) - 1) (xs) t) (strOfNums (xs ++ txtR l tr W t d), true) := by
  induction d with
  | zero =>
    intro t xs ht' hx
    apply ev_up
    simp only [impl_RoutingText.l1]
    refine Ev.bind (impl_greatest_ev tr (by omega)) (ev_n (by omega) (ev_eq (Ev.now _) ?_))
    simp [txtR]
  | succ d ih =>
    intro t xs ht' hx
    apply ev_up
    simp only [impl_RoutingText.l1]
    refine Ev.bind (impl_greatest_ev tr (by omega)) (ev_p (by omega) ?_)
    have hrl := rowM_length l tr t W 0
    refine impl_RoutingText_l2 l tr hl ht W t hW _ W 0 xs (by omega) (by omega) ?_
    rw [wN (n := (t : Int) + 1) (m := t + 1) (by omega) (by omega)]
    refine ev_eq (ih (t + 1) _ (by omega) (by simp; omega)) ?_
    simp [txtR]
theorem impl_RoutingText_l0 (l : List S80) (tr : List Int) (hl : l.length ≤ 20) (hg : ∀ w ∈ l, 0 ≤ w.f1 ∧ w.f1 ≤ 1000) (R : ByteArray × Bool) (r : List S80) : ∀ (p : List S80) (g i : Int), i = p.length → l = p ++ r →
    Ev (fun k => impl_RoutingText.l1 k l tr (greatM g (r.map (·.f1))) [] 0) R → Ev (fun k => impl_RoutingText.l0 k l tr (g) l l.length i) R := by
  induction r with
  | nil =>
    intro p g i hi e h
    have hlen : l.length = p.length := by rw [e]; simp
    apply ev_up
    simp only [impl_RoutingText.l0]
    exact ev_n (by omega) h
  | cons x r ih =>
    intro p g i hi e h
    have hlen : l.length = p.length + r.length + 1 := by rw [e]; simp; omega
    have hx : rd_T80 l i = x := by rw [e]; exact rdWireA hi
    have hxb := hg x (by rw [e]; simp)
    apply ev_up
    simp only [impl_RoutingText.l0]
    refine ev_p (by omega) (ev_p (by omega) (ev_p (by omega) ?_))
    rw [List.map_cons, greatM] at h
    rw [hx, w64 (n := i + 1) (by omega) (by omega)]
    exact ih (p ++ [x]) _ (i + 1) (by simp; omega) (by rw [e]; simp) h
theorem impl_RoutingText_ev (l : List S80) (tr : List Int) (hl : l.length ≤ 1048576) (ht : tr.length ≤ 1048576) : Ev (fun k => impl_RoutingText.f k l tr) (rtextM l tr) := by
  have no : ¬ rtOk l tr → Ev (fun k => impl_RoutingText.j0 k l tr true) (rtextM l tr) := fun h => by
    unfold rtextM
    rw [if_neg h]
    apply ev_up
    simp only [impl_RoutingText.j0]
    exact ev_p (by trivial) (Ev.now _)
  have yes : rtOk l tr → Ev (fun k => impl_RoutingText.j0 k l tr false) (rtextM l tr) := fun h => by
    obtain ⟨⟨h1, h2, h3⟩, h4⟩ := h
    have hg := chan_f1 h1
    obtain ⟨N, hN, hN2⟩ := great_nat h2
    obtain ⟨W, hW, hW2⟩ := wid_nat h1
    unfold rtextM
    rw [if_pos ⟨⟨h1, h2, h3⟩, h4⟩]
    apply ev_up
    simp only [impl_RoutingText.j0]
    refine ev_n (by decide) ?_
    have e : (greatM (-1) tr + 1).toNat = N := by omega
    have e2 : (greatM (-1) (l.map (·.f1)) + 1).toNat = W := by omega
    rw [e, e2]
    refine impl_RoutingText_l0 l tr (chanM_length h1) hg _ l [] (-1) 0 rfl rfl ?_
    have := impl_RoutingText_l1 l tr (chanM_length h1) h3 (tracksM_bounds h2).2 W hW2 N hN hN2 N 0 [] (by omega) (by simp)
    rw [List.nil_append] at this
    rw [show greatM (-1) (l.map (·.f1)) = (W : Int) - 1 by omega]
    exact this
  unfold impl_RoutingText.f
  refine Ev.bind (impl_AreChannelWires_ev l (by omega)) (ev_ite (fun h1 => ?_) (fun h1 => no (fun h => h1 h.1.1)))
  refine Ev.bind (impl_areTracks_ev tr (by omega)) (ev_ite (fun h2 => ev_ite (fun h4 => ?_) (fun h4 => no (fun h => h4 (by rw [h.1.2.2])))) (fun h2 => no (fun h => h2 h.1.2.1)))
  have h4' : tr.length = l.length := by omega
  refine Ev.bind (impl_isRouting_ev l tr hl h4') ?_
  by_cases h5 : routM l tr = true
  · rw [h5]
    exact yes ⟨⟨h1, h2, h4'⟩, h5⟩
  · rw [show routM l tr = false by simpa using h5]
    exact no (fun h => h5 h.2)

/-! #### toIntS -/
theorem toIntS_l0 (r : List Int) : ∀ (p z : List Int) (i : Int), i = p.length → z.length = r.length → p.length + r.length ≤ 9223372036854775806 →
    Ev (fun k => laws_toIntS.l0 k (p ++ r) (p ++ z) i) (p ++ r) := by
  induction r with
  | nil =>
    intro p z i hi hz hb
    obtain rfl : z = [] := List.length_eq_zero_iff.1 hz
    apply ev_up
    simp only [laws_toIntS.l0]
    refine ev_n (by simp; omega) ?_
    exact Ev.now _
  | cons x r ih =>
    intro p z i hi hz hb
    match z, hz with
    | y :: z, hz =>
      simp only [List.length_cons] at hz hb
      apply ev_up
      simp only [laws_toIntS.l0]
      refine ev_p (by simp; omega) (ev_p (by omega) (ev_p (by simp; omega) ?_))
      rw [rdA hi, setA hi, w64 (by omega) (by omega), appA]
      exact ih (p ++ [x]) z (i + 1) (by simp; omega) (by omega) (by simp; omega)
theorem toIntS_ev (a : List Int) (h : a.length ≤ 35184372088832) : Ev (fun k => laws_toIntS.f k a) a := by
  unfold laws_toIntS.f
  refine ev_p (by omega) (ev_p (by omega) ?_)
  exact toIntS_l0 a [] (List.replicate ((a.length : Int)).toNat 0) 0 rfl (by simp) (by simp; omega)
/-! #### eqIntS -/
theorem eqIntS_l0 (r : List Int) : ∀ (s p q : List Int) (i : Int), i = p.length → p.length = q.length → r.length = s.length → p.length + r.length ≤ 9223372036854775807 →
    Ev (fun k => laws_eqIntS.l0 k (p ++ r) (q ++ s) i) (decide (r = s)) := by
  induction r with
  | nil =>
    intro s p q i hi hpq hrs hb
    obtain rfl : s = [] := List.length_eq_zero_iff.1 hrs.symm
    apply ev_up
    simp only [laws_eqIntS.l0]
    refine ev_n (by simp; omega) ?_
    simpa using Ev.now true
  | cons x r ih =>
    intro s p q i hi hpq hrs hb
    match s, hrs with
    | y :: s, hrs =>
      simp only [List.length_cons] at hrs hb
      apply ev_up
      simp only [laws_eqIntS.l0]
      refine ev_p (by simp; omega) (ev_p (by omega) (ev_p (by simp; omega) ?_))
      rw [rdA hi, rdA (by omega)]
      refine ev_ite (fun hxy => ?_) (fun hxy => ?_)
      · subst hxy
        rw [w64 (by omega) (by omega), appA, appA (p := q)]
        refine ev_eq (ih s (p ++ [x]) (q ++ [x]) (i + 1) (by simp; omega) (by simp; omega) (by omega) (by simp; omega)) ?_
        simp
      · refine ev_eq (Ev.now false) ?_
        simp [hxy]
theorem eqIntS_ev (a b : List Int) (h : a.length ≤ 9223372036854775807) : Ev (fun k => laws_eqIntS.f k a b) (decide (a = b)) := by
  unfold laws_eqIntS.f
  refine ev_ite (fun hl => ?_) (fun hl => ?_)
  · exact eqIntS_l0 a b [] [] 0 rfl rfl (by omega) (by simpa using h)
  · refine ev_eq (Ev.now false) ?_
    symm
    apply decide_eq_false
    rintro rfl
    exact hl rfl

/-! #### FnExactRoutingText -/
theorem FnExactRoutingText (l0 : (List (S85))) (l1 : (List Int)) : (l0.length ≤ 9223372036854775807 ∧ ∀ y2 ∈ l0, I64 y2.f0 ∧ I64 y2.f1) → (l1.length ≤ 9223372036854775807 ∧ ∀ y2 ∈ l1, I64 y2) → ∃ k, laws_FnExactRoutingText.f k l0 l1 = some true := by
  rintro ⟨hl, _⟩ ⟨ht, _⟩
  apply ev_get
  unfold laws_FnExactRoutingText.f
  rw [szWireS_eq l0 1048576 (by omega) (by omega) hl]
  refine ev_ite (fun _ => Ev.now _) (fun h1 => Ev.bind (ev_c rfl) (ev_ite (fun _ => Ev.now _) (fun h => ?_)))
  have hl2 := wire_pre h
  have ht2 : l1.length ≤ 1048576 := by omega
  have hto := toWireS_ev l0 hl2
  have hti := toIntS_ev l1 (by omega)
  have hlm : (l0.map cvWire).length ≤ 1048576 := by simpa using hl2
  have heq : Ev (fun k => laws_eqWireS.f k (l0.map cvWire) (l0.map cvWire)) true := by simpa using eqWireS_ev (l0.map cvWire) (l0.map cvWire) (by omega)
  have heqi : Ev (fun k => laws_eqIntS.f k l1 l1) true := by simpa using eqIntS_ev l1 l1 (by omega)
  have hs := spec_RoutingText_ev (l0.map cvWire) l1 hlm ht2
  have hi := impl_RoutingText_ev (l0.map cvWire) l1 hlm ht2
  repeat (first
    | (with_reducible exact Ev.now _)
    | (with_reducible refine Ev.bind hto ?_)
    | (with_reducible refine Ev.bind hti ?_)
    | (with_reducible refine Ev.bind hs ?_)
    | (with_reducible refine Ev.bind hi ?_)
    | (with_reducible refine Ev.bind heq ?_)
    | (with_reducible refine Ev.bind heqi ?_)
    | (with_reducible refine ev_p rfl ?_)
    | (with_reducible refine ev_p True.intro ?_)
    | (refine ev_n ?h ?_; case h => (first | omega | (simp; done) | (simp; omega)))
    | (with_reducible refine ev_up (g := fun n => laws_FnExactRoutingText.j0 n _ _ _ _ _) ?_; simp only [laws_FnExactRoutingText.j0, bne_self_eq_false]))

end Go.Proofs.Ytcameioepklidaa.Pure
