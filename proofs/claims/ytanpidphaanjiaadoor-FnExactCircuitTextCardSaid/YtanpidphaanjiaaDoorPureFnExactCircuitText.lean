/- The pure part of the law FnExactCircuitText: what the program and the reference compute is the same, for all arguments. Conditions: the numbers are of Go's int, the lengths of slices are. -/
import Derived.Test.YtanpidphaanjiaaDoorQFnExactCircuitTextx7
import Derived.Test.YtanpidphaanjiaaDoorKit
set_option linter.unusedVariables false
set_option linter.unusedSimpArgs false
namespace Go.Proofs.YtanpidphaanjiaaDoor.Pure
open Go.RowKit Go.Proofs.YtanpidphaanjiaaDoor.QFnExactCircuitText Go.Proofs.YtanpidphaanjiaaDoorW.PrintWords Go.Proofs.YtanpidphaanjiaaDoorW.PrintLast Go.Proofs.YtanpidphaanjiaaDoor.Open Go.Proofs.YtanpidphaanjiaaDoor.Kit

/-! #### strNums -/
theorem strOfNums_one (n : Int) : (strOfNums [n]).size = 1 := rfl
theorem strOfNums_append (a b : List Int) : strOfNums (a ++ b) = strOfNums a ++ strOfNums b := by
  apply ByteArray.ext
  simp [strOfNums, ByteArray.data_append]
theorem strOfNums_size (a : List Int) : (strOfNums a).size = a.length := by
  simp [strOfNums, ByteArray.size]

/-! #### numD -/
/-- A number below a hundred, in decimal. -/
def numD (n : Int) : List Int := if n < 10 then [48 + n] else [48 + n / 10, 48 + n % 10]
theorem numD_length (n : Int) : 1 ≤ (numD n).length ∧ (numD n).length ≤ 2 := by
  unfold numD
  split <;> simp
theorem l1Num_ev (n : Int) (h0 : 0 ≤ n) (h1 : n < 100) : Ev (fun k => spec_l1Num.f k n) (strOfNums (numD n)) := by
  unfold numD
  by_cases h : n < 10
  · rw [if_pos h]
    apply ev_up
    simp only [spec_l1Num.f]
    refine ev_p h (ev_eq (Ev.now _) ?_)
    rw [w64 (by omega) (by omega)]
    congr 2
    omega
  · rw [if_neg h]
    apply ev_up
    simp only [spec_l1Num.f]
    have e1 : Int.tdiv n 10 = n / 10 := Int.tdiv_eq_ediv_of_nonneg h0
    have e2 : Int.tmod n 10 = n % 10 := Int.tmod_eq_emod_of_nonneg h0
    rw [e1, e2, w64 (n := n / 10) (by omega) (by omega), w64 (n := 48 + n % 10) (by omega) (by omega)]
    have hd : Ev (fun k => spec_l1Num.f k (n / 10)) (strOfNums [48 + n / 10]) := by
      apply ev_up
      simp only [spec_l1Num.f]
      refine ev_p (by omega) (ev_eq (Ev.now _) ?_)
      rw [w64 (by omega) (by omega)]
      congr 2
      omega
    refine ev_n h (Ev.bind hd (Ev.bind (ev_c rfl) (ev_p (by rw [strOfNums_size, strOfNums_size]; simp) (ev_eq (Ev.now _) ?_))))
    rw [← strOfNums_append, show (48 + n % 10) % 256 = 48 + n % 10 by omega]
    rfl

/-! #### gateT -/
theorem rdGateA {p r : List S47} {x : S47} {i : Int} (hi : i = p.length) : rd_T47 (p ++ x :: r) i = x := getDA hi

/-! #### l1In -/
theorem l1In_eq (a b c : Int) : spec_l1In.f a b c = some (decide (b ≤ a ∧ a ≤ c)) := by
  unfold spec_l1In.f
  by_cases h : b ≤ a
  · rw [if_pos h]; simp [h]
  · rw [if_neg h]; simp [h]

/-! #### l1All -/
def inB (a b : Int) (x : Int) : Bool := decide (a ≤ x ∧ x ≤ b)
theorem l1All_l0 (l : List Int) (a b : Int) (hl : l.length ≤ 9223372036854775807) (r : List Int) : ∀ (p : List Int) (i : Int), i = p.length → l = p ++ r →
    Ev (fun k => spec_l1All.l0 k a b l l.length i) (r.all (inB a b)) := by
  induction r with
  | nil =>
    intro p i hi e
    have hlen : l.length = p.length := by rw [e]; simp
    apply ev_up
    simp only [spec_l1All.l0]
    exact ev_n (by omega) (Ev.now _)
  | cons x r ih =>
    intro p i hi e
    have hlen : l.length = p.length + r.length + 1 := by rw [e]; simp; omega
    have hx : rd l i = x := by rw [e]; exact rdA hi
    have ih' := ih (p ++ [x]) (i + 1) (by simp; omega) (by rw [e]; simp)
    apply ev_up
    simp only [spec_l1All.l0]
    refine ev_p (by omega) (ev_p (by omega) (ev_p (by omega) ?_))
    rw [hx, l1In_eq]
    refine Ev.bind (ev_c rfl) ?_
    refine ev_ite (fun h => ?_) (fun h => ?_)
    · rw [w64 (by omega) (by omega)]
      refine ev_eq ih' ?_
      rw [List.all_cons, show inB a b x = true from h, Bool.true_and]
    · refine ev_eq (Ev.now _) ?_
      rw [List.all_cons, show inB a b x = false from decide_eq_false (fun hh => h (decide_eq_true hh)), Bool.false_and]
theorem l1All_ev (l : List Int) (a b : Int) (hl : l.length ≤ 9223372036854775807) : Ev (fun k => spec_l1All.f k l a b) (l.all (inB a b)) := by
  unfold spec_l1All.f
  exact l1All_l0 l a b hl l [] 0 rfl rfl

/-! #### ttInputs -/
theorem ttInputs_eq (a : Int) : spec_ttInputs.f a = some (decide (0 ≤ a ∧ a ≤ 4)) := by
  unfold spec_ttInputs.f
  rw [l1In_eq, Option.bind_some]

/-! #### circuitM -/
/-- A gate is good where there are w wires before it. -/
def gateOk (w : Int) (g : S47) : Bool := decide (1 ≤ g.f0 ∧ g.f0 ≤ 4 ∧ 0 ≤ g.f1 ∧ g.f1 < w ∧ 0 ≤ g.f2 ∧ g.f2 < w ∧ (g.f0 = 4 → g.f1 = g.f2))
def gatesOk (w : Int) : List S47 → Bool
  | [] => true
  | g :: r => gateOk w g && gatesOk (w + 1) r
def circuitM (n : Int) (gs : List S47) (os : List Int) : Bool := decide (0 ≤ n ∧ n ≤ 4 ∧ gs.length ≤ 16 ∧ 1 ≤ os.length ∧ os.length ≤ 4) && (gatesOk n gs && os.all (inB 0 (n + gs.length - 1)))

/-! #### gatesOkI -/
theorem circuitM_of {n : Int} {gs : List S47} {os : List Int} (h : circuitM n gs os = true) :
    ∃ a : Nat, n = a ∧ a ≤ 4 ∧ gs.length ≤ 16 ∧ 1 ≤ os.length ∧ os.length ≤ 4 ∧ gatesOk n gs = true ∧ ∀ o ∈ os, 0 ≤ o ∧ o < n + gs.length := by
  unfold circuitM at h
  rw [Bool.and_eq_true, Bool.and_eq_true, List.all_eq_true] at h
  obtain ⟨h1, h2, h3⟩ := h
  obtain ⟨h4, h5, h6, h7, h8⟩ := of_decide_eq_true h1
  obtain ⟨a, rfl⟩ := nat_of h4
  refine ⟨a, rfl, by omega, h6, h7, h8, h2, fun o ho => ?_⟩
  have := of_decide_eq_true (h3 o ho)
  omega

/-! #### textM -/
def nameG (k : Int) : List Int := if k = 1 then [97, 110, 100] else if k = 2 then [111, 114] else if k = 3 then [120, 111, 114] else [110, 111, 116]
theorem nameG_length (k : Int) : (nameG k).length ≤ 3 := by
  unfold nameG
  split
  · simp
  · split
    · simp
    · split <;> simp
def lineG (g : S47) : List Int := nameG g.f0 ++ (32 :: (numD g.f1 ++ ((if g.f0 = 4 then [] else 32 :: numD g.f2) ++ [10])))
def linesG : List S47 → List Int
  | [] => []
  | g :: r => lineG g ++ linesG r
def outsG : List Int → List Int
  | [] => []
  | o :: r => 32 :: (numD o ++ outsG r)
/-- The text of a circuit. -/
def textM (a : Int) (gs : List S47) (os : List Int) : List Int := numD a ++ (10 :: (linesG gs ++ ([111, 117, 116] ++ (outsG os ++ [10]))))
def gateN (g : S47) : Prop := 1 ≤ g.f0 ∧ g.f0 ≤ 4 ∧ 0 ≤ g.f1 ∧ g.f1 < 100 ∧ 0 ≤ g.f2 ∧ g.f2 < 100
theorem gatesOk_N : ∀ (gs : List S47) (w : Int), gatesOk w gs = true → w + gs.length ≤ 100 → ∀ g ∈ gs, gateN g := by
  intro gs
  induction gs with
  | nil => intro w _ _ g hg; cases hg
  | cons x r ih =>
    intro w h hw g hg
    rw [gatesOk, Bool.and_eq_true] at h
    rw [List.length_cons] at hw
    rcases List.mem_cons.1 hg with e | e
    · subst e
      have := of_decide_eq_true h.1
      unfold gateN
      omega
    · exact ih (w + 1) h.2 (by omega) g e
theorem lineG_length (g : S47) : (lineG g).length ≤ 20 := by
  have h1 := nameG_length g.f0
  have h2 := numD_length g.f1
  have h3 := numD_length g.f2
  unfold lineG
  split <;> simp <;> omega
theorem linesG_length (gs : List S47) : (linesG gs).length ≤ 20 * gs.length := by
  induction gs with
  | nil => simp [linesG]
  | cons g r ih =>
    have := lineG_length g
    rw [linesG, List.length_append, List.length_cons]
    omega
theorem outsG_length (os : List Int) : (outsG os).length ≤ 3 * os.length := by
  induction os with
  | nil => simp [outsG]
  | cons o r ih =>
    have := numD_length o
    rw [outsG, List.length_cons, List.length_append, List.length_cons]
    omega
def gnamesL : List ByteArray := [⟨#[97, 110, 100]⟩, ⟨#[111, 114]⟩, ⟨#[120, 111, 114]⟩, ⟨#[110, 111, 116]⟩]
theorem name_at {k : Int} (h1 : 1 ≤ k) (h4 : k ≤ 4) : rdOf ByteArray.empty gnamesL (k - 1) = strOfNums (nameG k) := by
  have : k = 1 ∨ k = 2 ∨ k = 3 ∨ k = 4 := by omega
  rcases this with rfl | rfl | rfl | rfl <;> rfl
theorem lit32 : (⟨#[32]⟩ : ByteArray) = strOfNums [32] := rfl
theorem lit10 : (⟨#[10]⟩ : ByteArray) = strOfNums [10] := rfl

/-! #### spec_ciText -/
theorem spec_ciText_l1 (os : List Int) (hl : os.length ≤ 1000) (r : List Int) : ∀ (p xs : List Int), os = p ++ r → (∀ o ∈ r, 0 ≤ o ∧ o < 100) → xs.length + 10 * r.length ≤ 1000000 → Ev (fun k => spec_ciText.l1 k (strOfNums xs) os (os.length : Int) ((p.length : Nat) : Int)) (strOfNums (xs ++ (outsG r ++ [10]))) := by
  induction r with
  | nil =>
    intro p xs e _ hx
    have hlen : os.length = p.length := by rw [e]; simp
    apply ev_up
    simp only [spec_ciText.l1]
    refine ev_n (by omega) (ev_p (by rw [strOfNums_size]; simp at hx; omega) (ev_eq (Ev.now _) ?_))
    rw [lit10, ← strOfNums_append]
    rfl
  | cons x r ih =>
    intro p xs e ho hx
    have hlen : os.length = p.length + r.length + 1 := by rw [e]; simp; omega
    have hr : rd os ((p.length : Nat) : Int) = x := by rw [e]; exact rdA rfl
    have hb := ho x List.mem_cons_self
    have hn := numD_length x
    rw [List.length_cons] at hx
    apply ev_up
    simp only [spec_ciText.l1]
    rw [hr, wN (n := ((p.length : Nat) : Int) + 1) (m := p.length + 1) (by omega) (by omega)]
    refine ev_p (by omega) (ev_p (by omega) (ev_p (by omega) (Ev.bind (l1Num_ev x hb.1 hb.2) ?_)))
    rw [lit32, ← strOfNums_append, ← strOfNums_append, strOfNums_size, strOfNums_size, strOfNums_size]
    refine ev_p (by omega) (ev_p (by rw [List.length_append, List.length_singleton]; omega) ?_)
    have := ih (p ++ [x]) (xs ++ ([32] ++ numD x)) (by rw [e]; simp) (fun o h => ho o (List.mem_cons_of_mem _ h)) (by rw [List.length_append, List.length_append, List.length_singleton]; omega)
    rw [List.length_append, List.length_singleton] at this
    refine ev_eq this ?_
    congr 1
    rw [outsG]
    simp
theorem spec_ciText_l0 (a : Int) (gs : List S47) (os : List Int) (hg : gs.length ≤ 1000) (R : ByteArray) (r : List S47) : ∀ (p : List S47) (xs : List Int), gs = p ++ r → (∀ g ∈ r, gateN g) → xs.length + 30 * r.length ≤ 1000000 →
    Ev (fun k => spec_ciText.l1 k (strOfNums (xs ++ (linesG r ++ [111, 117, 116]))) os (os.length : Int) 0) R → Ev (fun k => spec_ciText.l0 k (strOfNums xs) gs (gs.length : Int) ((p.length : Nat) : Int) a gs os) R := by
  induction r with
  | nil =>
    intro p xs e _ hx h
    have hlen : gs.length = p.length := by rw [e]; simp
    apply ev_up
    simp only [spec_ciText.l0]
    refine ev_n (by omega) (ev_p (by rw [strOfNums_size]; simp at hx; omega) ?_)
    rw [show (⟨#[111, 117, 116]⟩ : ByteArray) = strOfNums [111, 117, 116] from rfl, ← strOfNums_append]
    exact h
  | cons x r ih =>
    intro p xs e ho hx h
    have hlen : gs.length = p.length + r.length + 1 := by rw [e]; simp; omega
    have hr : rd_T47 gs ((p.length : Nat) : Int) = x := by rw [e]; exact rdGateA rfl
    obtain ⟨g1, g2, g3, g4, g5, g6⟩ := ho x List.mem_cons_self
    have hn := nameG_length x.f0
    have hn1 := numD_length x.f1
    have hn2 := numD_length x.f2
    have hll := lineG_length x
    rw [List.length_cons] at hx
    have hi := ih (p ++ [x]) (xs ++ lineG x) (by rw [e]; simp) (fun o h => ho o (List.mem_cons_of_mem _ h)) (by rw [List.length_append]; omega) (by
      rw [linesG] at h
      simpa using h)
    rw [List.length_append, List.length_singleton] at hi
    apply ev_up
    simp only [spec_ciText.l0]
    rw [hr, wN (n := ((p.length : Nat) : Int) + 1) (m := p.length + 1) (by omega) (by omega), w64 (n := x.f0 - 1) (by omega) (by omega)]
    refine ev_p (by omega) (ev_p (by omega) (ev_p (by omega) (Ev.bind (ev_c rfl) ?_)))
    rw [show (([(⟨#[97, 110, 100]⟩ : ByteArray), (⟨#[111, 114]⟩ : ByteArray), (⟨#[120, 111, 114]⟩ : ByteArray), (⟨#[110, 111, 116]⟩ : ByteArray)] : List ByteArray)) = gnamesL from rfl, name_at g1 g2, lit32, lit10, ← strOfNums_append, strOfNums_size]
    refine ev_p (by omega) (ev_p (show x.f0 - 1 < (gnamesL.length : Int) by show x.f0 - 1 < 4; omega) (ev_p (by omega) (Ev.bind (l1Num_ev x.f1 g3 g4) ?_)))
    simp only [← strOfNums_append, strOfNums_size, List.length_append, List.length_singleton]
    refine ev_p (by omega) (ev_p (by omega) (ev_ite (fun c => ?_) (fun c => ?_)))
    · refine ev_p (by omega) ?_
      unfold lineG at hi
      rw [if_pos c] at hi
      simpa using hi
    · refine Ev.bind (l1Num_ev x.f2 g5 g6) ?_
      simp only [← strOfNums_append, strOfNums_size, List.length_append, List.length_singleton]
      refine ev_p (by omega) (ev_p (by omega) (ev_p (by omega) ?_))
      unfold lineG at hi
      rw [if_neg c] at hi
      simpa using hi
theorem spec_ciText_ev (a : Int) (gs : List S47) (os : List Int) (h : circuitM a gs os = true) : Ev (fun k => spec_ciText.f k a gs os) (strOfNums (textM a gs os)) := by
  obtain ⟨n, rfl, ha, hg, h1, h4, hk, ho⟩ := circuitM_of h
  have hN := gatesOk_N gs n hk (by omega)
  have hn := numD_length (n : Int)
  have hll := linesG_length gs
  unfold spec_ciText.f
  refine Ev.bind (l1Num_ev (n : Int) (by omega) (by omega)) ?_
  rw [lit10, ← strOfNums_append, strOfNums_size]
  refine ev_p (by omega) ?_
  have := spec_ciText_l0 (n : Int) gs os (by omega) _ gs [] (numD n ++ [10]) rfl hN (by rw [List.length_append, List.length_singleton]; omega) (spec_ciText_l1 os (by omega) os [] _ rfl (fun o h => by have := ho o h; omega) (by rw [List.length_append, List.length_append, List.length_append, List.length_singleton]; simp; omega))
  refine ev_eq this ?_
  congr 1
  unfold textM
  simp

/-! #### itoaD -/
theorem decDigits_num (n : Int) (h0 : 0 ≤ n) (h1 : n < 100) : (⟨(Lib.decDigits n.toNat).toArray⟩ : ByteArray) = strOfNums (numD n) := by
  obtain ⟨m, rfl⟩ := nat_of h0
  rw [Int.toNat_natCast]
  have hm : m < 100 := by omega
  have : ∀ m : Fin 100, (⟨(Lib.decDigits m.val).toArray⟩ : ByteArray) = strOfNums (numD (m.val : Int)) := by decide +kernel
  exact this ⟨m, hm⟩
theorem itoa_num (n : Int) (h0 : 0 ≤ n) (h1 : n < 100) : strconv_Itoa.f n = some (strOfNums (numD n)) := by
  unfold strconv_Itoa.f
  rw [if_pos ⟨h0, h1⟩, decDigits_num n h0 h1]

/-! #### joinN -/
theorem strOfNums_data (xs : List Int) : (strOfNums xs).data.toList = xs.map (fun n => UInt8.ofNat n.toNat) := by
  simp [strOfNums]
theorem joinTail_outs (r : List Int) : Lib.joinTail [32] ((r.map (fun o => strOfNums (numD o))).map (fun x => x.data.toList)) = (outsG r).map (fun n => UInt8.ofNat n.toNat) := by
  induction r with
  | nil => rfl
  | cons o r ih =>
    rw [outsG, List.map_cons, List.map_cons, List.map_cons, List.map_append, ← ih, Lib.joinTail, Lib.joinTail, List.map_cons, List.flatten_cons, strOfNums_data]
    rfl
theorem join_outs (o : Int) (r : List Int) : (⟨(Lib.join (((o :: r).map (fun o => strOfNums (numD o))).map (fun x => x.data.toList)) (⟨#[32]⟩ : ByteArray).data.toList).toArray⟩ : ByteArray) = strOfNums (numD o ++ outsG r) := by
  rw [List.map_cons, List.map_cons, Lib.join_cons, show (⟨#[32]⟩ : ByteArray).data.toList = [32] from rfl, joinTail_outs, strOfNums_data, ← List.map_append]
  rfl

/-! #### impl_IsCircuit -/
theorem impl_IsCircuit_l1 (n : Int) (gs : List S47) (os : List Int) (h0 : 0 ≤ n) (h4 : n ≤ 4) (hg : gs.length ≤ 1048576) (ho : os.length ≤ 1048576) (r : List Int) : ∀ (p : List Int) (i : Int), i = p.length → os = p ++ r →
    Ev (fun k => impl_IsCircuit.l1 k os os.length i n gs os) (r.all (inB 0 (n + gs.length - 1))) := by
  induction r with
  | nil =>
    intro p i hi e
    have hlen : os.length = p.length := by rw [e]; simp
    apply ev_up
    simp only [impl_IsCircuit.l1]
    exact ev_n (by omega) (Ev.now _)
  | cons x r ih =>
    intro p i hi e
    have hlen : os.length = p.length + r.length + 1 := by rw [e]; simp; omega
    have hx : rd os i = x := by rw [e]; exact rdA hi
    have ih' := ih (p ++ [x]) (i + 1) (by simp; omega) (by rw [e]; simp)
    apply ev_up
    simp only [impl_IsCircuit.l1]
    refine ev_p (by omega) (ev_p (by omega) (ev_p (by omega) ?_))
    rw [hx, w64 (n := i + 1) (by omega) (by omega), w64 (n := n + gs.length) (by omega) (by omega)]
    refine ev_ite (fun h1 => ?_) (fun h1 => ev_ite (fun h2 => ?_) (fun h2 => ?_))
    · rw [List.all_cons, show inB 0 (n + gs.length - 1) x = false from decide_eq_false (by omega), Bool.false_and]
      exact Ev.now _
    · rw [List.all_cons, show inB 0 (n + gs.length - 1) x = false from decide_eq_false (by omega), Bool.false_and]
      exact Ev.now _
    · rw [List.all_cons, show inB 0 (n + gs.length - 1) x = true from decide_eq_true (by omega), Bool.true_and]
      exact ih'
theorem impl_IsCircuit_l0 (n : Int) (gs : List S47) (os : List Int) (h0 : 0 ≤ n) (h4 : n ≤ 4) (hg : gs.length ≤ 1048576) (ho : os.length ≤ 1048576) (r : List S47) : ∀ (p : List S47) (i : Int), i = p.length → gs = p ++ r →
    Ev (fun k => impl_IsCircuit.l0 k gs gs.length i n gs os) (gatesOk (n + i) r && os.all (inB 0 (n + gs.length - 1))) := by
  induction r with
  | nil =>
    intro p i hi e
    have hlen : gs.length = p.length := by rw [e]; simp
    apply ev_up
    simp only [impl_IsCircuit.l0]
    refine ev_n (by omega) ?_
    rw [gatesOk, Bool.true_and]
    exact impl_IsCircuit_l1 n gs os h0 h4 hg ho os [] 0 rfl rfl
  | cons x r ih =>
    intro p i hi e
    have hlen : gs.length = p.length + r.length + 1 := by rw [e]; simp; omega
    have hx : rd_T47 gs i = x := by rw [e]; exact rdGateA hi
    have ih' := ih (p ++ [x]) (i + 1) (by simp; omega) (by rw [e]; simp)
    apply ev_up
    simp only [impl_IsCircuit.l0]
    refine ev_p (by omega) (ev_p (by omega) (ev_p (by omega) ?_))
    rw [hx, w64 (n := i + 1) (by omega) (by omega), w64 (n := n + i) (by omega) (by omega)]
    have no : gateOk (n + i) x = false → Ev (fun _ => some false) (gatesOk (n + i) (x :: r) && os.all (inB 0 (n + gs.length - 1))) := fun h => by
      rw [gatesOk, h, Bool.false_and, Bool.false_and]
      exact Ev.now _
    have yes : gateOk (n + i) x = true → Ev (fun k => impl_IsCircuit.l0 k gs gs.length (i + 1) n gs os) (gatesOk (n + i) (x :: r) && os.all (inB 0 (n + gs.length - 1))) := fun h => by
      rw [gatesOk, h, Bool.true_and, Int.add_assoc]
      exact ih'
    refine ev_ite (fun c => no (decide_eq_false (by omega))) (fun c1 => ev_ite (fun c => no (decide_eq_false (by omega))) (fun c2 => ev_ite (fun c => no (decide_eq_false (by omega))) (fun c3 => ev_ite (fun c => no (decide_eq_false (by omega))) (fun c4 => ev_ite (fun c => no (decide_eq_false (by omega))) (fun c5 => ev_ite (fun c => no (decide_eq_false (by omega))) (fun c6 => ev_ite (fun c7 => ev_ite (fun c8 => yes (decide_eq_true (by omega))) (fun c8 => no (decide_eq_false (fun hh => c8 (hh.2.2.2.2.2.2 c7))))) (fun c7 => yes (decide_eq_true (by omega)))))))))
theorem impl_IsCircuit_ev (n : Int) (gs : List S47) (os : List Int) (hg : gs.length ≤ 1048576) (ho : os.length ≤ 1048576) : Ev (fun k => impl_IsCircuit.f k n gs os) (circuitM n gs os) := by
  have bad : ¬ (0 ≤ n ∧ n ≤ 4 ∧ gs.length ≤ 16 ∧ 1 ≤ os.length ∧ os.length ≤ 4) → Ev (fun k => impl_IsCircuit.j0 k true n gs os) (circuitM n gs os) := fun h => by
    apply ev_up
    simp only [impl_IsCircuit.j0]
    unfold circuitM
    rw [decide_eq_false h, Bool.false_and]
    exact ev_p (by trivial) (Ev.now _)
  unfold impl_IsCircuit.f
  refine ev_ite (fun c1 => bad (by omega)) (fun c1 => ev_ite (fun c2 => bad (by omega)) (fun c2 => ev_ite (fun c3 => bad (by omega)) (fun c3 => ev_ite (fun c4 => bad (by omega)) (fun c4 => ?_))))
  apply ev_up
  simp only [impl_IsCircuit.j0]
  refine ev_ite (fun c5 => ?_) (fun c5 => ?_)
  · have c5' := of_decide_eq_true c5
    unfold circuitM
    rw [decide_eq_false (by omega), Bool.false_and]
    exact Ev.now _
  · have c5' : ¬ (os.length : Int) > 4 := fun h => c5 (decide_eq_true h)
    unfold circuitM
    rw [decide_eq_true (by omega), Bool.true_and]
    have := impl_IsCircuit_l0 n gs os (by omega) (by omega) hg ho gs [] 0 rfl rfl
    rwa [Int.add_zero] at this

/-! #### impl_CircuitText -/
theorem numbersText_l0 (os : List Int) (hl : os.length ≤ 1000) (r : List Int) : ∀ (p : List Int), os = p ++ r → (∀ o ∈ os, 0 ≤ o ∧ o < 100) → Ev (fun k => impl_numbersText.l0 k (p.map (fun o => strOfNums (numD o))) os (os.length : Int) ((p.length : Nat) : Int)) (⟨(Lib.join ((os.map (fun o => strOfNums (numD o))).map (fun x => x.data.toList)) (⟨#[32]⟩ : ByteArray).data.toList).toArray⟩ : ByteArray) := by
  induction r with
  | nil =>
    intro p e ho
    have e2 : os = p := by rw [e]; simp
    have hlen : os.length = p.length := by rw [e2]
    apply ev_up
    simp only [impl_numbersText.l0]
    refine ev_n (by omega) (Ev.bind (ev_c ?_) (Ev.now _))
    unfold strings_Join.f
    rw [← e2]
    refine if_pos ⟨by rw [List.length_map]; omega, ?_⟩
    cases os with
    | nil => simp [Lib.join_nil]
    | cons o r =>
      have h := congrArg ByteArray.size (join_outs o r)
      rw [strOfNums_size] at h
      have h2 : (Lib.join (((o :: r).map (fun o => strOfNums (numD o))).map (fun x => x.data.toList)) (⟨#[32]⟩ : ByteArray).data.toList).length = (numD o ++ outsG r).length := by
        rw [← h]
        simp [ByteArray.size]
      rw [h2, List.length_append]
      have := numD_length o
      have := outsG_length r
      rw [List.length_cons] at hl
      omega
  | cons x r ih =>
    intro p e ho
    have hlen : os.length = p.length + r.length + 1 := by rw [e]; simp; omega
    have hr : rd os ((p.length : Nat) : Int) = x := by rw [e]; exact rdA rfl
    have hb := ho x (by rw [e]; simp)
    apply ev_up
    simp only [impl_numbersText.l0]
    rw [hr, wN (n := ((p.length : Nat) : Int) + 1) (m := p.length + 1) (by omega) (by omega)]
    refine ev_p (by omega) (ev_p (by omega) (ev_p (by omega) (Ev.bind (ev_c (itoa_num x hb.1 hb.2)) (ev_p (by rw [List.length_map]; omega) ?_))))
    have := ih (p ++ [x]) (by rw [e]; simp) ho
    rw [List.map_append, List.length_append, List.length_singleton] at this
    exact this
theorem numbersText_ev (o : Int) (r : List Int) (hl : (o :: r).length ≤ 1000) (ho : ∀ x ∈ o :: r, 0 ≤ x ∧ x < 100) : Ev (fun k => impl_numbersText.f k (o :: r)) (strOfNums (numD o ++ outsG r)) := by
  unfold impl_numbersText.f
  rw [← join_outs]
  exact numbersText_l0 (o :: r) hl (o :: r) [] rfl ho
theorem impl_CircuitText_l0 (a : Int) (gs : List S47) (os : List Int) (hg : gs.length ≤ 1000) (o : Int) (t : List Int) (hos : os = o :: t) (hol : os.length ≤ 1000) (hob : ∀ x ∈ os, 0 ≤ x ∧ x < 100) (r : List S47) : ∀ (p : List S47) (xs : List Int), gs = p ++ r → (∀ g ∈ r, gateN g) → xs.length + 30 * r.length ≤ 1000000 →
    Ev (fun k => impl_CircuitText.l0 k (strOfNums xs) gs (gs.length : Int) ((p.length : Nat) : Int) gnames a gs os) (strOfNums (xs ++ (linesG r ++ ([111, 117, 116] ++ (outsG os ++ [10])))), true) := by
  induction r with
  | nil =>
    intro p xs e _ hx
    have hlen : gs.length = p.length := by rw [e]; simp
    have hn := numD_length o
    have hn2 := outsG_length t
    have hnt := numbersText_ev o t (by rw [← hos]; exact hol) (by rw [← hos]; exact hob)
    rw [← hos] at hnt
    rw [hos, List.length_cons] at hol
    apply ev_up
    simp only [impl_CircuitText.l0]
    refine ev_n (by omega) (ev_p (by rw [strOfNums_size]; simp at hx; omega) (Ev.bind hnt ?_))
    rw [show (⟨#[111, 117, 116, 32]⟩ : ByteArray) = strOfNums [111, 117, 116, 32] from rfl, lit10]
    simp only [← strOfNums_append, strOfNums_size, List.length_append, List.length_cons, List.length_nil]
    simp only [List.length_nil] at hx
    refine ev_p (by omega) (ev_p (by omega) (ev_eq (Ev.now _) ?_))
    congr 2
    rw [hos, outsG, linesG]
    simp
  | cons x r ih =>
    intro p xs e ho hx
    have hlen : gs.length = p.length + r.length + 1 := by rw [e]; simp; omega
    have hr : rd_T47 gs ((p.length : Nat) : Int) = x := by rw [e]; exact rdGateA rfl
    obtain ⟨g1, g2, g3, g4, g5, g6⟩ := ho x List.mem_cons_self
    have hn := nameG_length x.f0
    have hn1 := numD_length x.f1
    have hn2 := numD_length x.f2
    have hll := lineG_length x
    rw [List.length_cons] at hx
    have hi := ih (p ++ [x]) (xs ++ lineG x) (by rw [e]; simp) (fun o h => ho o (List.mem_cons_of_mem _ h)) (by rw [List.length_append]; omega)
    rw [List.length_append, List.length_singleton, List.append_assoc] at hi
    rw [linesG, List.append_assoc]
    apply ev_up
    simp only [impl_CircuitText.l0]
    rw [hr, wN (n := ((p.length : Nat) : Int) + 1) (m := p.length + 1) (by omega) (by omega), w64 (n := x.f0 - 1) (by omega) (by omega)]
    refine ev_p (by omega) (ev_p (by omega) (ev_p (by omega) (ev_p (by omega) (ev_p (show x.f0 - 1 < (gnames.length : Int) by show x.f0 - 1 < 4; omega) ?_))))
    rw [show rdOf ByteArray.empty gnames (x.f0 - 1) = strOfNums (nameG x.f0) from name_at g1 g2, lit32, lit10, ← strOfNums_append, strOfNums_size]
    refine ev_p (by omega) (Ev.bind (ev_c (itoa_num x.f1 g3 g4)) ?_)
    simp only [← strOfNums_append, strOfNums_size, List.length_append, List.length_singleton]
    refine ev_p (by omega) (ev_p (by omega) (ev_ite (fun c => ?_) (fun c => ?_)))
    · refine ev_p (by omega) ?_
      unfold lineG at hi ⊢
      rw [if_pos c] at hi ⊢
      simpa using hi
    · refine Ev.bind (ev_c (itoa_num x.f2 g5 g6)) ?_
      simp only [← strOfNums_append, strOfNums_size, List.length_append, List.length_singleton]
      refine ev_p (by omega) (ev_p (by omega) (ev_p (by omega) ?_))
      unfold lineG at hi ⊢
      rw [if_neg c] at hi ⊢
      simpa using hi
def textR (a : Int) (gs : List S47) (os : List Int) : ByteArray × Bool := if circuitM a gs os = true then (strOfNums (textM a gs os), true) else (⟨#[]⟩, false)
theorem impl_CircuitText_ev (a : Int) (gs : List S47) (os : List Int) (hg : gs.length ≤ 1048576) (ho : os.length ≤ 1048576) : Ev (fun k => impl_CircuitText.f k a gs os) (textR a gs os) := by
  unfold impl_CircuitText.f textR
  refine Ev.bind (impl_IsCircuit_ev a gs os hg ho) ?_
  by_cases h : circuitM a gs os = true
  · rw [if_pos h]
    refine ev_p h ?_
    obtain ⟨n, rfl, ha, hg, h1, h4, hk, hob⟩ := circuitM_of h
    have hN := gatesOk_N gs n hk (by omega)
    have hn := numD_length (n : Int)
    refine Ev.bind (ev_c (itoa_num (n : Int) (by omega) (by omega))) ?_
    rw [lit10, ← strOfNums_append, strOfNums_size]
    refine ev_p (by omega) ?_
    obtain ⟨o, t, hos⟩ : ∃ o t, os = o :: t := by
      cases os with
      | nil => simp at h1
      | cons o t => exact ⟨o, t, rfl⟩
    have := impl_CircuitText_l0 (n : Int) gs os (by omega) o t hos (by omega) (fun o h => by have := hob o h; omega) gs [] (numD n ++ [10]) rfl hN (by rw [List.length_append, List.length_singleton]; omega)
    refine ev_eq this ?_
    congr 2
    unfold textM
    simp
  · rw [if_neg h]
    exact ev_n h (Ev.now _)

/-! #### spec_ciGood -/
theorem spec_ciGood_end (n : Int) (gs : List S47) (os : List Int) (hn : I64 n) (hg : gs.length ≤ 1048576) (ho : os.length ≤ 1048576) :
    Ev (fun k => (spec_ttInputs.f n).bind fun t108 => (if t108 = true then (if (gs.length : Int) ≤ 16 then ((spec_l1In.f (os.length : Int) 1 4).bind fun t109 => (if t109 = true then ((spec_l1All.f k os 0 (wrap64 ((wrap64 (n + (gs.length : Int))) - 1))).bind fun t110 => (some t110)) else (some false))) else (some false)) else (some false)))
      (decide (0 ≤ n ∧ n ≤ 4 ∧ gs.length ≤ 16 ∧ 1 ≤ os.length ∧ os.length ≤ 4) && os.all (inB 0 (n + gs.length - 1))) := by
  rw [ttInputs_eq, l1In_eq]
  refine Ev.bind (ev_c rfl) (ev_ite (fun h1 => ?_) (fun h1 => ?_))
  · have h1' := of_decide_eq_true h1
    refine ev_ite (fun h2 => ?_) (fun h2 => ?_)
    · refine Ev.bind (ev_c rfl) (ev_ite (fun h3 => ?_) (fun h3 => ?_))
      · have h3' := of_decide_eq_true h3
        rw [w64 (n := n + gs.length) (by omega) (by omega), w64 (by omega) (by omega), decide_eq_true (by omega), Bool.true_and]
        exact Ev.bind (l1All_ev os 0 _ (by omega)) (Ev.now _)
      · rw [decide_eq_false (fun hh => h3 (decide_eq_true (by omega))), Bool.false_and]
        exact Ev.now _
    · rw [decide_eq_false (by omega), Bool.false_and]
      exact Ev.now _
  · rw [decide_eq_false (fun hh => h1 (decide_eq_true (by omega))), Bool.false_and]
    exact Ev.now _
theorem spec_ciGood_l0 (n : Int) (gs : List S47) (os : List Int) (hn : I64 n) (hg : gs.length ≤ 1048576) (ho : os.length ≤ 1048576) (r : List S47) : ∀ (p : List S47) (i : Int), i = p.length → gs = p ++ r →
    Ev (fun k => spec_ciGood.l0 k gs gs.length i n gs os) (decide (0 ≤ n ∧ n ≤ 4 ∧ gs.length ≤ 16 ∧ 1 ≤ os.length ∧ os.length ≤ 4) && (gatesOk (n + i) r && os.all (inB 0 (n + gs.length - 1)))) := by
  have hn' := hn
  unfold I64 at hn'
  induction r with
  | nil =>
    intro p i hi e
    have hlen : gs.length = p.length := by rw [e]; simp
    apply ev_up
    simp only [spec_ciGood.l0]
    refine ev_n (by omega) ?_
    rw [gatesOk, Bool.true_and]
    exact spec_ciGood_end n gs os hn hg ho
  | cons x r ih =>
    intro p i hi e
    have hlen : gs.length = p.length + r.length + 1 := by rw [e]; simp; omega
    have hx : rd_T47 gs i = x := by rw [e]; exact rdGateA hi
    have ih' := ih (p ++ [x]) (i + 1) (by simp; omega) (by rw [e]; simp)
    apply ev_up
    simp only [spec_ciGood.l0]
    refine ev_p (by omega) (ev_p (by omega) (ev_p (by omega) ?_))
    rw [hx, w64 (n := i + 1) (by omega) (by omega)]
    simp only [l1In_eq]
    by_cases hv : 0 ≤ n ∧ n ≤ 4
    · rw [w64 (n := n + i) (by omega) (by omega), w64 (n := n + i - 1) (by omega) (by omega)]
      have no : gateOk (n + i) x = false → Ev (fun _ => some false) (decide (0 ≤ n ∧ n ≤ 4 ∧ gs.length ≤ 16 ∧ 1 ≤ os.length ∧ os.length ≤ 4) && (gatesOk (n + i) (x :: r) && os.all (inB 0 (n + gs.length - 1)))) := fun h => by
        rw [gatesOk, h, Bool.false_and, Bool.false_and, Bool.and_false]
        exact Ev.now _
      have yes : gateOk (n + i) x = true → Ev (fun k => spec_ciGood.l0 k gs gs.length (i + 1) n gs os) (decide (0 ≤ n ∧ n ≤ 4 ∧ gs.length ≤ 16 ∧ 1 ≤ os.length ∧ os.length ≤ 4) && (gatesOk (n + i) (x :: r) && os.all (inB 0 (n + gs.length - 1)))) := fun h => by
        rw [gatesOk, h, Bool.true_and, Int.add_assoc]
        exact ih'
      refine Ev.bind (ev_c rfl) (ev_ite (fun h1 => Ev.bind (ev_c rfl) (ev_ite (fun h2 => Ev.bind (ev_c rfl) (ev_ite (fun h3 => ev_ite (fun h4 => ev_ite (fun h5 => ?_) (fun h5 => ?_)) (fun h4 => ?_)) (fun h3 => ?_))) (fun h2 => ?_))) (fun h1 => ?_))
      · simp only [decide_eq_true_eq] at h1 h2 h3
        exact yes (decide_eq_true (by omega))
      · exact no (decide_eq_false (fun hh => h5 (hh.2.2.2.2.2.2 h4).symm))
      · simp only [decide_eq_true_eq] at h1 h2 h3
        exact yes (decide_eq_true (by omega))
      · simp only [decide_eq_true_eq] at h3
        exact no (decide_eq_false (by omega))
      · simp only [decide_eq_true_eq] at h2
        exact no (decide_eq_false (by omega))
      · simp only [decide_eq_true_eq] at h1
        exact no (decide_eq_false (by omega))
    · have ef : decide (0 ≤ n ∧ n ≤ 4 ∧ gs.length ≤ 16 ∧ 1 ≤ os.length ∧ os.length ≤ 4) = false := decide_eq_false (by omega)
      rw [ef, Bool.false_and] at ih' ⊢
      refine Ev.bind (ev_c rfl) (ev_ite (fun h1 => Ev.bind (ev_c rfl) (ev_ite (fun h2 => Ev.bind (ev_c rfl) (ev_ite (fun h3 => ev_ite (fun h4 => ev_ite (fun h5 => ih') (fun h5 => Ev.now _)) (fun h4 => ih')) (fun h3 => Ev.now _))) (fun h2 => Ev.now _))) (fun h1 => Ev.now _))
theorem spec_ciGood_ev (n : Int) (gs : List S47) (os : List Int) (hn : I64 n) (hg : gs.length ≤ 1048576) (ho : os.length ≤ 1048576) : Ev (fun k => spec_ciGood.f k n gs os) (circuitM n gs os) := by
  unfold spec_ciGood.f circuitM
  have := spec_ciGood_l0 n gs os hn hg ho gs [] 0 rfl rfl
  rwa [Int.add_zero] at this

/-! #### circuitText -/
theorem spec_CircuitText_ev (a : Int) (gs : List S47) (os : List Int) (hn : I64 a) (hg : gs.length ≤ 1048576) (ho : os.length ≤ 1048576) : Ev (fun k => spec_CircuitText.f k a gs os) (textR a gs os) := by
  unfold spec_CircuitText.f textR
  refine Ev.bind (spec_ciGood_ev a gs os hn hg ho) ?_
  by_cases h : circuitM a gs os = true
  · rw [if_pos h]
    exact ev_p h (Ev.bind (spec_ciText_ev a gs os h) (Ev.now _))
  · rw [if_neg h]
    exact ev_n h (Ev.now _)

/-! #### szIntS -/
theorem szIntS_eq (l : List Int) (a : Int) (ha : 0 ≤ a) (ha2 : a ≤ 1048576) (hl : l.length ≤ 9223372036854775807) : laws_szIntS.f l a = some (if l.length ≤ a then a - l.length else -1) := by
  unfold laws_szIntS.f
  rw [w64 (by omega) (by omega)]
  by_cases h : (l.length : Int) ≤ a
  · rw [if_neg (by omega), if_pos h]
  · rw [if_pos (by omega), if_neg h]

/-! #### szCircuit -/
theorem szGateS_eq (l : List S67) (a : Int) (ha : 0 ≤ a) (ha2 : a ≤ 1048576) (hl : l.length ≤ 9223372036854775807) : laws_szGateS.f l a = some (if l.length ≤ a then a - l.length else -1) := by
  unfold laws_szGateS.f
  rw [w64 (by omega) (by omega)]
  by_cases h : (l.length : Int) ≤ a
  · rw [if_neg (by omega), if_pos h]
  · rw [if_pos (by omega), if_neg h]
theorem szCircuit_eq (n : Int) (gs : List S67) (os : List Int) (hg : gs.length ≤ 9223372036854775807) (ho : os.length ≤ 9223372036854775807) :
    ∃ t, laws_szCircuit.f n gs os 1048576 = some t ∧ (¬ t < 0 → gs.length ≤ 1048576 ∧ os.length ≤ 1048576) := by
  unfold laws_szCircuit.f
  rw [szGateS_eq gs 1048576 (by omega) (by omega) hg, Option.bind_some]
  by_cases h : (gs.length : Int) ≤ 1048576
  · rw [if_pos h, if_neg (by omega), szIntS_eq os _ (by omega) (by omega) ho, Option.bind_some]
    by_cases h2 : (os.length : Int) ≤ 1048576 - gs.length
    · rw [if_pos h2, if_neg (by omega)]
      exact ⟨_, rfl, fun _ => by omega⟩
    · rw [if_neg h2, if_pos (by decide)]
      exact ⟨_, rfl, fun h => absurd (by decide) h⟩
  · rw [if_neg h, if_pos (by decide)]
    exact ⟨_, rfl, fun h => absurd (by decide) h⟩

/-! #### gateL -/
theorem rdLGateA {p r : List S67} {x : S67} {i : Int} (hi : i = p.length) : rd_T67 (p ++ x :: r) i = x := getDA hi
/-- A gate of the laws as one of the program. -/
def cvGate (x : S67) : S47 := ⟨x.f0, x.f1, x.f2⟩

/-! #### toGateS -/
theorem toGateS_l0 (r : List S67) : ∀ (p : List S67) (z : List S47) (i : Int), i = p.length → z.length = r.length → p.length + r.length ≤ 9223372036854775806 →
    Ev (fun k => laws_toGateS.l0 k (p ++ r) (p.map cvGate ++ z) i) ((p ++ r).map cvGate) := by
  induction r with
  | nil =>
    intro p z i hi hz hb
    obtain rfl : z = [] := List.length_eq_zero_iff.1 hz
    apply ev_up
    simp only [laws_toGateS.l0]
    refine ev_n (by simp; omega) ?_
    simpa using Ev.now (p.map cvGate)
  | cons x r ih =>
    intro p z i hi hz hb
    match z, hz with
    | y :: z, hz =>
      simp only [List.length_cons] at hz hb
      apply ev_up
      simp only [laws_toGateS.l0]
      refine ev_p (by simp; omega) (ev_p (by omega) ?_)
      rw [rdLGateA hi]
      refine Ev.bind (ev_c (show laws_toGate.f x.f0 x.f1 x.f2 = some (x.f0, x.f1, x.f2) from rfl)) (ev_p (by simp; omega) ?_)
      rw [setA (by simpa using hi), w64 (by omega) (by omega), appA]
      have := ih (p ++ [x]) z (i + 1) (by simp; omega) (by omega) (by simp; omega)
      simpa [cvGate] using this
theorem toGateS_ev (a : List S67) (h : a.length ≤ 1048576) : Ev (fun k => laws_toGateS.f k a) (a.map cvGate) := by
  unfold laws_toGateS.f
  refine ev_p (by omega) (ev_p (by omega) ?_)
  exact toGateS_l0 a [] (List.replicate ((a.length : Int)).toNat z47) 0 rfl (by simp) (by simp; omega)

/-! #### toIntS -/
theorem toIntS_l0 (r : List Int) : ∀ (p z : List Int) (i : Int), i = p.length → z.length = r.length → p.length + r.length ≤ 9223372036854775806 →
    Ev (fun k => laws_toIntS.l0 k (p ++ r) (p ++ z) i) (p ++ r) := by
  induction r with
  | nil =>
    intro p z i hi hz hb
    obtain rfl : z = [] := List.length_eq_zero_iff.1 hz
    apply ev_up
    simp only [laws_toIntS.l0]
    refine ev_n (by simp; omega) ?_
    exact Ev.now _
  | cons x r ih =>
    intro p z i hi hz hb
    match z, hz with
    | y :: z, hz =>
      simp only [List.length_cons] at hz hb
      apply ev_up
      simp only [laws_toIntS.l0]
      refine ev_p (by simp; omega) (ev_p (by omega) (ev_p (by simp; omega) ?_))
      rw [rdA hi, setA hi, w64 (by omega) (by omega), appA]
      exact ih (p ++ [x]) z (i + 1) (by simp; omega) (by omega) (by simp; omega)
theorem toIntS_ev (a : List Int) (h : a.length ≤ 35184372088832) : Ev (fun k => laws_toIntS.f k a) a := by
  unfold laws_toIntS.f
  refine ev_p (by omega) (ev_p (by omega) ?_)
  exact toIntS_l0 a [] (List.replicate ((a.length : Int)).toNat 0) 0 rfl (by simp) (by simp; omega)
/-! #### toCircuit -/
theorem toCircuit_ev (n : Int) (gs : List S67) (os : List Int) (hg : gs.length ≤ 1048576) (ho : os.length ≤ 1048576) : Ev (fun k => laws_toCircuit.f k n gs os) (n, gs.map cvGate, os) := by
  unfold laws_toCircuit.f
  exact Ev.bind (toGateS_ev gs hg) (Ev.bind (toIntS_ev os (by omega)) (Ev.now _))

/-! #### eqGateS -/
theorem eqGateS_l0 (r : List S47) : ∀ (p : List S47) (i : Int), i = p.length → p.length + r.length ≤ 9223372036854775807 →
    Ev (fun k => laws_eqGateS.l0 k (p ++ r) (p ++ r) i) true := by
  induction r with
  | nil =>
    intro p i hi hb
    apply ev_up
    simp only [laws_eqGateS.l0]
    exact ev_n (by simp; omega) (Ev.now true)
  | cons x r ih =>
    intro p i hi hb
    simp only [List.length_cons] at hb
    apply ev_up
    simp only [laws_eqGateS.l0]
    refine ev_p (by simp; omega) (ev_p (by omega) (ev_p (by simp; omega) ?_))
    rw [rdGateA hi]
    refine Ev.bind (ev_c (show laws_eqGate.f x.f0 x.f1 x.f2 x.f0 x.f1 x.f2 = some true by unfold laws_eqGate.f; rw [if_pos rfl, if_pos rfl, if_pos rfl])) (ev_p rfl ?_)
    rw [w64 (by omega) (by omega), appA]
    exact ih (p ++ [x]) (i + 1) (by simp; omega) (by simp; omega)
theorem eqGateS_self (a : List S47) (h : a.length ≤ 9223372036854775807) : Ev (fun k => laws_eqGateS.f k a a) true := by
  unfold laws_eqGateS.f
  exact ev_p rfl (eqGateS_l0 a [] 0 rfl (by simpa using h))

/-! #### eqIntS -/
theorem eqIntS_l0 (r : List Int) : ∀ (s p q : List Int) (i : Int), i = p.length → p.length = q.length → r.length = s.length → p.length + r.length ≤ 9223372036854775807 →
    Ev (fun k => laws_eqIntS.l0 k (p ++ r) (q ++ s) i) (decide (r = s)) := by
  induction r with
  | nil =>
    intro s p q i hi hpq hrs hb
    obtain rfl : s = [] := List.length_eq_zero_iff.1 hrs.symm
    apply ev_up
    simp only [laws_eqIntS.l0]
    refine ev_n (by simp; omega) ?_
    simpa using Ev.now true
  | cons x r ih =>
    intro s p q i hi hpq hrs hb
    match s, hrs with
    | y :: s, hrs =>
      simp only [List.length_cons] at hrs hb
      apply ev_up
      simp only [laws_eqIntS.l0]
      refine ev_p (by simp; omega) (ev_p (by omega) (ev_p (by simp; omega) ?_))
      rw [rdA hi, rdA (by omega)]
      refine ev_ite (fun hxy => ?_) (fun hxy => ?_)
      · subst hxy
        rw [w64 (by omega) (by omega), appA, appA (p := q)]
        refine ev_eq (ih s (p ++ [x]) (q ++ [x]) (i + 1) (by simp; omega) (by simp; omega) (by omega) (by simp; omega)) ?_
        simp
      · refine ev_eq (Ev.now false) ?_
        simp [hxy]
theorem eqIntS_ev (a b : List Int) (h : a.length ≤ 9223372036854775807) : Ev (fun k => laws_eqIntS.f k a b) (decide (a = b)) := by
  unfold laws_eqIntS.f
  refine ev_ite (fun hl => ?_) (fun hl => ?_)
  · exact eqIntS_l0 a b [] [] 0 rfl rfl (by omega) (by simpa using h)
  · refine ev_eq (Ev.now false) ?_
    symm
    apply decide_eq_false
    rintro rfl
    exact hl rfl

/-! #### eqCircuit -/
theorem eqCircuit_self (n : Int) (gs : List S47) (os : List Int) (hg : gs.length ≤ 9223372036854775807) (ho : os.length ≤ 9223372036854775807) : Ev (fun k => laws_eqCircuit.f k n gs os n gs os) true := by
  unfold laws_eqCircuit.f
  have heq : Ev (fun k => laws_eqIntS.f k os os) true := by simpa using eqIntS_ev os os ho
  exact ev_p rfl (Ev.bind (eqGateS_self gs hg) (ev_p rfl (Ev.bind heq (ev_p rfl (Ev.now _)))))

/-! #### FnExactCircuitText -/
theorem FnExactCircuitText (a0_0 : Int) (l0_1 : (List (S67))) (l0_2 : (List Int)) : I64 a0_0 → (l0_1.length ≤ 9223372036854775807 ∧ ∀ y2 ∈ l0_1, I64 y2.f0 ∧ I64 y2.f1 ∧ I64 y2.f2) → (l0_2.length ≤ 9223372036854775807 ∧ ∀ y2 ∈ l0_2, I64 y2) → ∃ k, laws_FnExactCircuitText.f k a0_0 l0_1 l0_2 = some true := by
  rintro hn ⟨hg, _⟩ ⟨ho, _⟩
  apply ev_get
  obtain ⟨t, ht, hq⟩ := szCircuit_eq a0_0 l0_1 l0_2 hg ho
  unfold laws_FnExactCircuitText.f
  rw [ht]
  refine Ev.bind (ev_c rfl) (ev_ite (fun _ => Ev.now _) (fun h => ?_))
  obtain ⟨hg2, ho2⟩ := hq h
  have hto := toCircuit_ev a0_0 l0_1 l0_2 hg2 ho2
  have hgm : (l0_1.map cvGate).length ≤ 1048576 := by simpa using hg2
  have heq := eqCircuit_self a0_0 (l0_1.map cvGate) l0_2 (by omega) (by omega)
  have hs := spec_CircuitText_ev a0_0 (l0_1.map cvGate) l0_2 hn hgm ho2
  have hi := impl_CircuitText_ev a0_0 (l0_1.map cvGate) l0_2 hgm ho2
  refine Ev.bind hto (Ev.bind hs (Ev.bind hto (Ev.bind hi (ev_p rfl (ev_n (by simp) (Ev.bind hto (Ev.bind heq (ev_p rfl (Ev.now _)))))))))

end Go.Proofs.YtanpidphaanjiaaDoor.Pure
