/- The pure part of the law FnLevels: what the program and the reference compute is the same, for all arguments. Conditions: the numbers are of Go's int, the lengths of slices are. -/
import Derived.Test.YtlnhpkjioppbiaaSFnLevelsx25
import Derived.Test.YtlnhpkjioppbiaaVLeKit
set_option linter.unusedVariables false
set_option linter.unusedSimpArgs false
namespace Go.Proofs.Ytlnhpkjioppbiaa.Pure
open Go.RowKit Go.Proofs.Ytlnhpkjioppbiaa.QFnLevels Go.Proofs.YtlnhpkjioppbiaaW.PrintWords Go.Proofs.YtlnhpkjioppbiaaW.PrintLast Go.Proofs.Ytlnhpkjioppbiaa.Open Go.Proofs.Ytlnhpkjioppbiaa.Kit
theorem rdGateA {p r : List S109} {x : S109} {i : Int} (hi : i = p.length) : rd_T109 (p ++ x :: r) i = x := getDA hi
theorem l1In_eq (a b c : Int) : spec_l1In.f a b c = some (decide (b ≤ a ∧ a ≤ c)) := by
 unfold spec_l1In.f;by_cases h : b ≤ a
 ·rw [if_pos h]; simp [h]
 ·rw [if_neg h]; simp [h]
def inB (a b : Int) (x : Int) : Bool := decide (a ≤ x ∧ x ≤ b)
theorem l1All_l0 (l : List Int) (a b : Int) (hl : l.length ≤ 9223372036854775807) (r : List Int) : ∀ (p : List Int) (i : Int), i = p.length → l = p ++ r →
  Ev (fun k => spec_l1All.l0 k a b l l.length i) (r.all (inB a b)) := by
 induction r with
 | nil =>
  intro p i hi e;have hlen : l.length = p.length := by rw [e]; simp
  apply ev_up;simp only [spec_l1All.l0];exact ev_n (by omega) (Ev.now _)
 | cons x r ih =>
  intro p i hi e;have hlen : l.length = p.length + r.length + 1 := by rw [e]; simp; omega
  have hx : rd l i = x := by rw [e]; exact rdA hi
  have ih' := ih (p ++ [x]) (i + 1) (by simp; omega) (by rw [e]; simp)
  apply ev_up;simp only [spec_l1All.l0];refine ev_p (by omega) (ev_p (by omega) (ev_p (by omega) ?_))
  rw [hx, l1In_eq];refine Ev.bind (ev_c rfl) ?_
  refine ev_ite (fun h => ?_) (fun h => ?_)
  ·rw [w64 (by omega) (by omega)]
   refine ev_eq ih' ?_
   rw [List.all_cons, show inB a b x = true from h, Bool.true_and]
  ·refine ev_eq (Ev.now _) ?_
   rw [List.all_cons, show inB a b x = false from decide_eq_false (fun hh => h (decide_eq_true hh)), Bool.false_and]
theorem l1All_ev (l : List Int) (a b : Int) (hl : l.length ≤ 9223372036854775807) : Ev (fun k => spec_l1All.f k l a b) (l.all (inB a b)) := by
 unfold spec_l1All.f;exact l1All_l0 l a b hl l [] 0 rfl rfl
theorem zz5 (a : Int) : spec_ttInputs.f a = some (decide (0 ≤ a ∧ a ≤ 4)) := by
 unfold spec_ttInputs.f;rw [l1In_eq, Option.bind_some]
def gateOk (w : Int) (g : S109) : Bool := decide (1 ≤ g.f0 ∧ g.f0 ≤ 4 ∧ 0 ≤ g.f1 ∧ g.f1 < w ∧ 0 ≤ g.f2 ∧ g.f2 < w ∧ (g.f0 = 4 → g.f1 = g.f2))
def gatesOk (w : Int) : List S109 → Bool
 | [] => true
 | g :: r => gateOk w g && gatesOk (w + 1) r
def circuitM (n : Int) (gs : List S109) (os : List Int) : Bool := decide (0 ≤ n ∧ n ≤ 4 ∧ gs.length ≤ 16 ∧ 1 ≤ os.length ∧ os.length ≤ 4) && (gatesOk n gs && os.all (inB 0 (n + gs.length - 1)))
theorem zz9 {n : Int} {gs : List S109} {os : List Int} (h : circuitM n gs os = true) :
  ∃ a : Nat, n = a ∧ a ≤ 4 ∧ gs.length ≤ 16 ∧ 1 ≤ os.length ∧ os.length ≤ 4 ∧ gatesOk n gs = true ∧ ∀ o ∈ os, 0 ≤ o ∧ o < n + gs.length := by
 unfold circuitM at h;rw [Bool.and_eq_true, Bool.and_eq_true, List.all_eq_true] at h;obtain ⟨h1, h2, h3⟩ := h
 obtain ⟨h4, h5, h6, h7, h8⟩ := of_decide_eq_true h1
 obtain ⟨a, rfl⟩ := nat_of h4
 refine ⟨a, rfl, by omega, h6, h7, h8, h2, fun o ho => ?_⟩
 have := of_decide_eq_true (h3 o ho)
 omega
theorem rd_mem {ds : List Int} {i : Int} (h0 : 0 ≤ i) (h1 : i < ds.length) : rd ds i ∈ ds := by
 obtain ⟨n, rfl⟩ := nat_of h0
 have hn : n < ds.length := by omega
 rw [rdN hn];exact List.getElem_mem hn
def depthsM : List Int → List S109 → List Int
 | ds, [] => ds
 | ds, g :: r => depthsM (ds ++ [1 + (if rd ds g.f1 < rd ds g.f2 then rd ds g.f2 else rd ds g.f1)]) r
theorem zz12 (r : List S109) : ∀ ds, (depthsM ds r).length = ds.length + r.length := by
 induction r with
 | nil => intro ds; rfl
 | cons g r ih =>
  intro ds;rw [depthsM, ih];simp
  omega
theorem rdIIA {p r : List (List Int)} {x : List Int} {i : Int} (hi : i = p.length) : rd_L4 (p ++ x :: r) i = x := getDA hi
def lvPut (o : List (List Int)) (d : Nat) (v : Int) : List (List Int) := (o ++ List.replicate (d + 1 - o.length) []).set d ((o ++ List.replicate (d + 1 - o.length) []).getD d [] ++ [v])
def lvAll (a : Int) : List Int → Nat → List (List Int) → List (List Int)
 | [], _, o => o
 | d :: r, i, o => lvAll a r (i + 1) (lvPut o d.toNat (a + i))
def levelsM (a : Nat) (gs : List S109) : List (List Int) := lvAll a ((depthsM (List.replicate a 0) gs).drop a) 0 [seqFrom 0 a]
theorem zz17 {o : List (List Int)} {d : Nat} (v : Int) (h : o.length ≤ d) : lvPut (o ++ [[]]) d v = lvPut o d v := by
 have e : (o ++ [[]]) ++ List.replicate (d + 1 - (o ++ [[]]).length) [] = o ++ List.replicate (d + 1 - o.length) ([] : List Int) := by
  rw [List.append_assoc, show d + 1 - o.length = (d + 1 - (o ++ [[]]).length) + 1 by simp; omega, List.replicate_succ]
  rfl
 unfold lvPut;rw [e]
theorem zz18 {o : List (List Int)} {d : Nat} (v : Int) (h : d < o.length) : lvPut o d v = o.set d (o.getD d [] ++ [v]) := by
 unfold lvPut;rw [show d + 1 - o.length = 0 by omega, List.replicate_zero, List.append_nil]
theorem lvPut_ok {o : List (List Int)} {d m : Nat} (v : Int) (h1 : o.length ≤ 40) (hd : d < 40) (h2 : ∀ y ∈ o, y.length ≤ m) : (lvPut o d v).length ≤ 40 ∧ ∀ y ∈ lvPut o d v, y.length ≤ m + 1 := by
 have h3 : ∀ y ∈ o ++ List.replicate (d + 1 - o.length) ([] : List Int), y.length ≤ m := fun y hy => by
  rcases List.mem_append.1 hy with hy | hy
  ·exact h2 y hy
  ·rw [(List.mem_replicate.1 hy).2]; simp
 unfold lvPut;refine ⟨by simp; omega, fun y hy => ?_⟩
 rcases List.mem_or_eq_of_mem_set hy with hy | hy
 ·have := h3 y hy; omega
 ·subst hy
  rw [List.length_append, List.length_singleton];have h4 : ((o ++ List.replicate (d + 1 - o.length) ([] : List Int)).getD d []).length ≤ m := by
   rw [List.getD_eq_getElem?_getD];cases hq : (o ++ List.replicate (d + 1 - o.length) ([] : List Int))[d]? with
   | none => simp
   | some z => exact h3 z (List.mem_of_getElem? hq)
  omega
theorem lvAll_ok (a : Int) (r : List Int) : ∀ (i m : Nat) (o : List (List Int)), o.length ≤ 40 → (∀ y ∈ o, y.length ≤ m) → (∀ x ∈ r, 0 ≤ x ∧ x < 40) → (lvAll a r i o).length ≤ 40 ∧ ∀ y ∈ lvAll a r i o, y.length ≤ m + r.length := by
 induction r with
 | nil => intro i m o h1 h2 _; exact ⟨h1, h2⟩
 | cons d r ih =>
  intro i m o h1 h2 h3;have hd := h3 d (by simp)
  obtain ⟨h4, h5⟩ := lvPut_ok (a + i) h1 (show d.toNat < 40 by omega) h2
  obtain ⟨h6, h7⟩ := ih (i + 1) (m + 1) _ h4 h5 (fun x hx => h3 x (by simp [hx]))
  rw [lvAll, List.length_cons];exact ⟨h6, fun y hy => by have := h7 y hy; omega⟩
theorem rd_or (ds : List Int) (i : Int) : rd ds i ∈ ds ∨ rd ds i = 0 := by
 unfold rd;rw [List.getD_eq_getElem?_getD];cases h : ds[i.toNat]? with
 | none => right; rfl
 | some x => left; exact List.mem_of_getElem? h
theorem zz22 (r : List S109) : ∀ (ds : List Int) (N : Int), 0 ≤ N → (∀ x ∈ ds, 0 ≤ x ∧ x ≤ N) → ∀ x ∈ depthsM ds r, 0 ≤ x ∧ x ≤ N + r.length := by
 induction r with
 | nil => intro ds N _ h x hx; have := h x hx; simp; omega
 | cons g r ih =>
  intro ds N hN h x hx;rw [depthsM] at hx;have hr : ∀ i, 0 ≤ rd ds i ∧ rd ds i ≤ N := fun i => by
   rcases rd_or ds i with hh | hh
   ·exact h _ hh
   ·rw [hh]; omega
  have h1 := hr g.f1
  have h2 := hr g.f2
  have := ih _ (N + 1) (by omega) (fun y hy => by
   rcases List.mem_append.1 hy with hy | hy
   ·have := h y hy; omega
   ·rw [List.mem_singleton] at hy
    subst hy;split <;> omega) x hx
  rw [List.length_cons];omega
theorem zz23 {a : Nat} {gs : List S109} (hg : gs.length ≤ 16) : ∀ x ∈ (depthsM (List.replicate a 0) gs).drop a, 0 ≤ x ∧ x < 40 := fun x hx => by
 have := zz22 gs (List.replicate a 0) 0 (by omega) (fun y hy => by rw [(List.mem_replicate.1 hy).2]; omega) x (List.mem_of_mem_drop hx)
 omega
theorem zz24 (a : Nat) (gs : List S109) : ((depthsM (List.replicate a 0) gs).drop a).length = gs.length := by
 rw [List.length_drop, zz12, List.length_replicate]; omega
theorem zz25 {a : Nat} {gs : List S109} (ha : a ≤ 4) (hg : gs.length ≤ 16) : (levelsM a gs).length ≤ 40 ∧ ∀ y ∈ levelsM a gs, y.length ≤ 20 := by
 obtain ⟨h1, h2⟩ := lvAll_ok a ((depthsM (List.replicate a 0) gs).drop a) 0 4 [seqFrom 0 a] (by simp) (fun y hy => by rw [List.mem_singleton] at hy; rw [hy, seqFrom_length]; exact ha) (zz23 hg)
 refine ⟨h1, fun y hy => ?_⟩
 have := h2 y hy
 rw [zz24] at this;omega
theorem zz26 (s : Int) (n : Nat) : seqFrom s n ++ [s + n] = seqFrom s (n + 1) := by
 induction n generalizing s with
 | zero => simp [seqFrom]
 | succ n ih =>
  rw [seqFrom, List.cons_append, show s + ((n + 1 : Nat) : Int) = (s + 1) + (n : Int) by omega, ih (s + 1)]
  rfl
theorem zz27 (o : List (List Int)) (d : Nat) (v : Int) (e : Nat) : (lvPut o d v).getD e [] = if e = d then o.getD e [] ++ [v] else o.getD e [] := by
 have hpad : ∀ e, (o ++ List.replicate (d + 1 - o.length) ([] : List Int)).getD e [] = o.getD e [] := by
  intro e;rw [List.getD_eq_getElem?_getD, List.getD_eq_getElem?_getD];by_cases h : e < o.length
  ·rw [List.getElem?_append_left h]
  ·rw [List.getElem?_append_right (by omega), List.getElem?_eq_none (by omega : o.length ≤ e)]
   cases hq : (List.replicate (d + 1 - o.length) ([] : List Int))[e - o.length]? with
   | none => rfl
   | some z => rw [(List.mem_replicate.1 (List.mem_of_getElem? hq)).2]; rfl
 unfold lvPut;rw [List.getD_eq_getElem?_getD, List.getElem?_set];by_cases h : d = e
 ·subst h
  rw [if_pos rfl, if_pos rfl, if_pos (by simp; omega), Option.getD_some, hpad]
 ·rw [if_neg h, if_neg (fun hh => h hh.symm), ← List.getD_eq_getElem?_getD, hpad]
theorem zz28 (n : Int) (gs : List S109) (os : List Int) (hn : I64 n) (hg : gs.length ≤ 1048576) (ho : os.length ≤ 1048576) :
  Ev (fun k => (spec_ttInputs.f n).bind fun t108 => (if t108 = true then (if (gs.length : Int) ≤ 16 then ((spec_l1In.f (os.length : Int) 1 4).bind fun t109 => (if t109 = true then ((spec_l1All.f k os 0 (wrap64 ((wrap64 (n + (gs.length : Int))) - 1))).bind fun t110 => (some t110)) else (some false))) else (some false)) else (some false)))
   (decide (0 ≤ n ∧ n ≤ 4 ∧ gs.length ≤ 16 ∧ 1 ≤ os.length ∧ os.length ≤ 4) && os.all (inB 0 (n + gs.length - 1))) := by
 rw [zz5, l1In_eq];refine Ev.bind (ev_c rfl) (ev_ite (fun h1 => ?_) (fun h1 => ?_))
 ·have h1' := of_decide_eq_true h1
  refine ev_ite (fun h2 => ?_) (fun h2 => ?_)
  ·refine Ev.bind (ev_c rfl) (ev_ite (fun h3 => ?_) (fun h3 => ?_))
   ·have h3' := of_decide_eq_true h3
    rw [w64 (n := n + gs.length) (by omega) (by omega), w64 (by omega) (by omega), decide_eq_true (by omega), Bool.true_and]
    exact Ev.bind (l1All_ev os 0 _ (by omega)) (Ev.now _)
   ·rw [decide_eq_false (fun hh => h3 (decide_eq_true (by omega))), Bool.false_and]
    exact Ev.now _
  ·rw [decide_eq_false (by omega), Bool.false_and]
   exact Ev.now _
 ·rw [decide_eq_false (fun hh => h1 (decide_eq_true (by omega))), Bool.false_and]
  exact Ev.now _
theorem zz29 (n : Int) (gs : List S109) (os : List Int) (hn : I64 n) (hg : gs.length ≤ 1048576) (ho : os.length ≤ 1048576) (r : List S109) : ∀ (p : List S109) (i : Int), i = p.length → gs = p ++ r →
  Ev (fun k => spec_ciGood.l0 k gs gs.length i n gs os) (decide (0 ≤ n ∧ n ≤ 4 ∧ gs.length ≤ 16 ∧ 1 ≤ os.length ∧ os.length ≤ 4) && (gatesOk (n + i) r && os.all (inB 0 (n + gs.length - 1)))) := by
 have hn' := hn
 unfold I64 at hn';induction r with
 | nil =>
  intro p i hi e;have hlen : gs.length = p.length := by rw [e]; simp
  apply ev_up;simp only [spec_ciGood.l0];refine ev_n (by omega) ?_
  rw [gatesOk, Bool.true_and];exact zz28 n gs os hn hg ho
 | cons x r ih =>
  intro p i hi e;have hlen : gs.length = p.length + r.length + 1 := by rw [e]; simp; omega
  have hx : rd_T109 gs i = x := by rw [e]; exact rdGateA hi
  have ih' := ih (p ++ [x]) (i + 1) (by simp; omega) (by rw [e]; simp)
  apply ev_up;simp only [spec_ciGood.l0];refine ev_p (by omega) (ev_p (by omega) (ev_p (by omega) ?_))
  rw [hx, w64 (n := i + 1) (by omega) (by omega)]
  simp only [l1In_eq];by_cases hv : 0 ≤ n ∧ n ≤ 4
  ·rw [w64 (n := n + i) (by omega) (by omega), w64 (n := n + i - 1) (by omega) (by omega)]
   have no : gateOk (n + i) x = false → Ev (fun _ => some false) (decide (0 ≤ n ∧ n ≤ 4 ∧ gs.length ≤ 16 ∧ 1 ≤ os.length ∧ os.length ≤ 4) && (gatesOk (n + i) (x :: r) && os.all (inB 0 (n + gs.length - 1)))) := fun h => by
    rw [gatesOk, h, Bool.false_and, Bool.false_and, Bool.and_false];exact Ev.now _
   have yes : gateOk (n + i) x = true → Ev (fun k => spec_ciGood.l0 k gs gs.length (i + 1) n gs os) (decide (0 ≤ n ∧ n ≤ 4 ∧ gs.length ≤ 16 ∧ 1 ≤ os.length ∧ os.length ≤ 4) && (gatesOk (n + i) (x :: r) && os.all (inB 0 (n + gs.length - 1)))) := fun h => by
    rw [gatesOk, h, Bool.true_and, Int.add_assoc];exact ih'
   refine Ev.bind (ev_c rfl) (ev_ite (fun h1 => Ev.bind (ev_c rfl) (ev_ite (fun h2 => Ev.bind (ev_c rfl) (ev_ite (fun h3 => ev_ite (fun h4 => ev_ite (fun h5 => ?_) (fun h5 => ?_)) (fun h4 => ?_)) (fun h3 => ?_))) (fun h2 => ?_))) (fun h1 => ?_))
   ·simp only [decide_eq_true_eq] at h1 h2 h3
    exact yes (decide_eq_true (by omega))
   ·exact no (decide_eq_false (fun hh => h5 (hh.2.2.2.2.2.2 h4).symm))
   ·simp only [decide_eq_true_eq] at h1 h2 h3
    exact yes (decide_eq_true (by omega))
   ·simp only [decide_eq_true_eq] at h3
    exact no (decide_eq_false (by omega))
   ·simp only [decide_eq_true_eq] at h2
    exact no (decide_eq_false (by omega))
   ·simp only [decide_eq_true_eq] at h1
    exact no (decide_eq_false (by omega))
  ·have ef : decide (0 ≤ n ∧ n ≤ 4 ∧ gs.length ≤ 16 ∧ 1 ≤ os.length ∧ os.length ≤ 4) = false := decide_eq_false (by omega)
   rw [ef, Bool.false_and] at ih' ⊢
   refine Ev.bind (ev_c rfl) (ev_ite (fun h1 => Ev.bind (ev_c rfl) (ev_ite (fun h2 => Ev.bind (ev_c rfl) (ev_ite (fun h3 => ev_ite (fun h4 => ev_ite (fun h5 => ih') (fun h5 => Ev.now _)) (fun h4 => ih')) (fun h3 => Ev.now _))) (fun h2 => Ev.now _))) (fun h1 => Ev.now _))
theorem zz30 (n : Int) (gs : List S109) (os : List Int) (hn : I64 n) (hg : gs.length ≤ 1048576) (ho : os.length ≤ 1048576) : Ev (fun k => spec_ciGood.f k n gs os) (circuitM n gs os) := by
 unfold spec_ciGood.f circuitM;have := zz29 n gs os hn hg ho gs [] 0 rfl rfl
 rwa [Int.add_zero] at this
theorem zz31 (a b : Int) : spec_l1Most.f a b = some (if a < b then b else a) := by
 unfold spec_l1Most.f;by_cases h : a > b
 ·rw [if_pos h, if_neg (by omega)]
 ·rw [if_neg h]
  by_cases h2 : a < b
  ·rw [if_pos h2]
  ·rw [if_neg h2]
   congr 1
   omega
theorem zz32 (a : Nat) (ha : a ≤ 4) (gs : List S109) (os : List Int) (hg : gs.length ≤ 16) (r : List S109) : ∀ (p : List S109) (ds : List Int) (i : Int), i = p.length → gs = p ++ r → (ds.length : Int) = a + i → gatesOk (a + i) r = true → (∀ x ∈ ds, 0 ≤ x ∧ x ≤ i) →
  Ev (fun k => spec_ciDepths.l0 k ds gs gs.length i a gs os) ((depthsM ds r).drop a) := by
 induction r with
 | nil =>
  intro p ds i hi e hd hk hb;have hlen : gs.length = p.length := by rw [e]; simp
  apply ev_up;simp only [spec_ciDepths.l0];refine ev_n (by omega) (ev_p (by omega) (ev_p (by omega) ?_))
  rw [Int.toNat_natCast];exact Ev.now _
 | cons x r ih =>
  intro p ds i hi e hd hk hb;have hlen : gs.length = p.length + r.length + 1 := by rw [e]; simp; omega
  have hx : rd_T109 gs i = x := by rw [e]; exact rdGateA hi
  rw [gatesOk, Bool.and_eq_true] at hk;have hk1 := of_decide_eq_true hk.1
  have b1 := hb _ (rd_mem (i := x.f1) (by omega) (by omega))
  have b2 := hb _ (rd_mem (i := x.f2) (by omega) (by omega))
  apply ev_up;simp only [spec_ciDepths.l0];refine ev_p (by omega) (ev_p (by omega) (ev_p (by omega) ?_))
  rw [hx];refine ev_p (by omega) (ev_p (by omega) (ev_p (by omega) (ev_p (by omega) ?_)))
  rw [zz31];refine Ev.bind (ev_c rfl) (ev_p (by omega) ?_)
  have hm : 0 ≤ (if rd ds x.f1 < rd ds x.f2 then rd ds x.f2 else rd ds x.f1) ∧ (if rd ds x.f1 < rd ds x.f2 then rd ds x.f2 else rd ds x.f1) ≤ i := by
   split <;> omega
  rw [w64 (n := i + 1) (by omega) (by omega), w64 (by omega) (by omega), depthsM]
  refine ih (p ++ [x]) _ (i + 1) (by simp; omega) (by rw [e]; simp) (by simp; omega) (by rw [← Int.add_assoc]; exact hk.2) (fun y hy => ?_)
  rw [List.mem_append] at hy;rcases hy with hy | hy
  ·have := hb y hy
   omega
  ·simp only [List.mem_singleton] at hy
   omega
theorem zz33 (a : Nat) (gs : List S109) (os : List Int) (h : circuitM a gs os = true) : Ev (fun k => spec_ciDepths.f k a gs os) ((depthsM (List.replicate a 0) gs).drop a) := by
 obtain ⟨b, hab, ha, hg, _, _, hk, _⟩ := zz9 h
 obtain rfl : a = b := by omega
 unfold spec_ciDepths.f;refine ev_p (by omega) (ev_p (by omega) ?_)
 rw [Int.toNat_natCast];exact zz32 a ha gs os hg gs [] _ 0 rfl rfl (by simp) (by rw [Int.add_zero]; exact hk) (fun x hx => by have := (List.mem_replicate.1 hx).2; omega)
def zz34 (n : Int) (gs : List S109) (os : List Int) : List Int × Bool := if circuitM n gs os = true then ((depthsM (List.replicate n.toNat 0) gs).drop n.toNat, true) else ([], false)
theorem zz35 (n : Int) (gs : List S109) (os : List Int) : (zz34 n gs os).1.length ≤ 16 := by
 unfold zz34;by_cases h : circuitM n gs os = true
 ·rw [if_pos h]
  obtain ⟨a, rfl, ha, hg, _⟩ := zz9 h
  simp [zz12]
  exact hg
 ·rw [if_neg h]
  simp
theorem zz36 (n : Int) (gs : List S109) (os : List Int) (h0 : 0 ≤ n) (h4 : n ≤ 4) (hg : gs.length ≤ 1048576) (ho : os.length ≤ 1048576) (r : List Int) : ∀ (p : List Int) (i : Int), i = p.length → os = p ++ r →
  Ev (fun k => impl_IsCircuit.l1 k os os.length i n gs os) (r.all (inB 0 (n + gs.length - 1))) := by
 induction r with
 | nil =>
  intro p i hi e;have hlen : os.length = p.length := by rw [e]; simp
  apply ev_up;simp only [impl_IsCircuit.l1];exact ev_n (by omega) (Ev.now _)
 | cons x r ih =>
  intro p i hi e;have hlen : os.length = p.length + r.length + 1 := by rw [e]; simp; omega
  have hx : rd os i = x := by rw [e]; exact rdA hi
  have ih' := ih (p ++ [x]) (i + 1) (by simp; omega) (by rw [e]; simp)
  apply ev_up;simp only [impl_IsCircuit.l1];refine ev_p (by omega) (ev_p (by omega) (ev_p (by omega) ?_))
  rw [hx, w64 (n := i + 1) (by omega) (by omega), w64 (n := n + gs.length) (by omega) (by omega)]
  refine ev_ite (fun h1 => ?_) (fun h1 => ev_ite (fun h2 => ?_) (fun h2 => ?_))
  ·rw [List.all_cons, show inB 0 (n + gs.length - 1) x = false from decide_eq_false (by omega), Bool.false_and]
   exact Ev.now _
  ·rw [List.all_cons, show inB 0 (n + gs.length - 1) x = false from decide_eq_false (by omega), Bool.false_and]
   exact Ev.now _
  ·rw [List.all_cons, show inB 0 (n + gs.length - 1) x = true from decide_eq_true (by omega), Bool.true_and]
   exact ih'
theorem zz37 (n : Int) (gs : List S109) (os : List Int) (h0 : 0 ≤ n) (h4 : n ≤ 4) (hg : gs.length ≤ 1048576) (ho : os.length ≤ 1048576) (r : List S109) : ∀ (p : List S109) (i : Int), i = p.length → gs = p ++ r →
  Ev (fun k => impl_IsCircuit.l0 k gs gs.length i n gs os) (gatesOk (n + i) r && os.all (inB 0 (n + gs.length - 1))) := by
 induction r with
 | nil =>
  intro p i hi e;have hlen : gs.length = p.length := by rw [e]; simp
  apply ev_up;simp only [impl_IsCircuit.l0];refine ev_n (by omega) ?_
  rw [gatesOk, Bool.true_and];exact zz36 n gs os h0 h4 hg ho os [] 0 rfl rfl
 | cons x r ih =>
  intro p i hi e;have hlen : gs.length = p.length + r.length + 1 := by rw [e]; simp; omega
  have hx : rd_T109 gs i = x := by rw [e]; exact rdGateA hi
  have ih' := ih (p ++ [x]) (i + 1) (by simp; omega) (by rw [e]; simp)
  apply ev_up;simp only [impl_IsCircuit.l0];refine ev_p (by omega) (ev_p (by omega) (ev_p (by omega) ?_))
  rw [hx, w64 (n := i + 1) (by omega) (by omega), w64 (n := n + i) (by omega) (by omega)]
  have no : gateOk (n + i) x = false → Ev (fun _ => some false) (gatesOk (n + i) (x :: r) && os.all (inB 0 (n + gs.length - 1))) := fun h => by
   rw [gatesOk, h, Bool.false_and, Bool.false_and];exact Ev.now _
  have yes : gateOk (n + i) x = true → Ev (fun k => impl_IsCircuit.l0 k gs gs.length (i + 1) n gs os) (gatesOk (n + i) (x :: r) && os.all (inB 0 (n + gs.length - 1))) := fun h => by
   rw [gatesOk, h, Bool.true_and, Int.add_assoc];exact ih'
  refine ev_ite (fun c => no (decide_eq_false (by omega))) (fun c1 => ev_ite (fun c => no (decide_eq_false (by omega))) (fun c2 => ev_ite (fun c => no (decide_eq_false (by omega))) (fun c3 => ev_ite (fun c => no (decide_eq_false (by omega))) (fun c4 => ev_ite (fun c => no (decide_eq_false (by omega))) (fun c5 => ev_ite (fun c => no (decide_eq_false (by omega))) (fun c6 => ev_ite (fun c7 => ev_ite (fun c8 => yes (decide_eq_true (by omega))) (fun c8 => no (decide_eq_false (fun hh => c8 (hh.2.2.2.2.2.2 c7))))) (fun c7 => yes (decide_eq_true (by omega)))))))))
theorem zz38 (n : Int) (gs : List S109) (os : List Int) (hg : gs.length ≤ 1048576) (ho : os.length ≤ 1048576) : Ev (fun k => impl_IsCircuit.f k n gs os) (circuitM n gs os) := by
 have bad : ¬ (0 ≤ n ∧ n ≤ 4 ∧ gs.length ≤ 16 ∧ 1 ≤ os.length ∧ os.length ≤ 4) → Ev (fun k => impl_IsCircuit.j0 k true n gs os) (circuitM n gs os) := fun h => by
  apply ev_up;simp only [impl_IsCircuit.j0];unfold circuitM;rw [decide_eq_false h, Bool.false_and];exact ev_p (by trivial) (Ev.now _)
 unfold impl_IsCircuit.f;refine ev_ite (fun c1 => bad (by omega)) (fun c1 => ev_ite (fun c2 => bad (by omega)) (fun c2 => ev_ite (fun c3 => bad (by omega)) (fun c3 => ev_ite (fun c4 => bad (by omega)) (fun c4 => ?_))))
 apply ev_up;simp only [impl_IsCircuit.j0];refine ev_ite (fun c5 => ?_) (fun c5 => ?_)
 ·have c5' := of_decide_eq_true c5
  unfold circuitM;rw [decide_eq_false (by omega), Bool.false_and]
  exact Ev.now _
 ·have c5' : ¬ (os.length : Int) > 4 := fun h => c5 (decide_eq_true h)
  unfold circuitM;rw [decide_eq_true (by omega), Bool.true_and]
  have := zz37 n gs os (by omega) (by omega) hg ho gs [] 0 rfl rfl
  rwa [Int.add_zero] at this
theorem zz39 (a : Nat) (ha : a ≤ 4) (gs : List S109) (os : List Int) (hg : gs.length ≤ 16) (r : List S109) : ∀ (p : List S109) (ds : List Int) (i : Int), i = p.length → gs = p ++ r → (ds.length : Int) = a + i → gatesOk (a + i) r = true → (∀ x ∈ ds, 0 ≤ x ∧ x ≤ i) →
  Ev (fun k => impl_GateDepths.l0 k ds gs gs.length i a gs os) ((depthsM ds r).drop a, true) := by
 induction r with
 | nil =>
  intro p ds i hi e hd hk hb;have hlen : gs.length = p.length := by rw [e]; simp
  apply ev_up;simp only [impl_GateDepths.l0];refine ev_n (by omega) (Ev.bind (ev_c rfl) (ev_p (by omega) (ev_p (by omega) (Ev.bind (ev_c rfl) (ev_p (by simp; omega) ?_)))))
  rw [Int.toNat_natCast];exact Ev.now _
 | cons x r ih =>
  intro p ds i hi e hd hk hb;have hlen : gs.length = p.length + r.length + 1 := by rw [e]; simp; omega
  have hx : rd_T109 gs i = x := by rw [e]; exact rdGateA hi
  rw [gatesOk, Bool.and_eq_true] at hk;have hk1 := of_decide_eq_true hk.1
  have b1 := hb _ (rd_mem (i := x.f1) (by omega) (by omega))
  have b2 := hb _ (rd_mem (i := x.f2) (by omega) (by omega))
  apply ev_up;simp only [impl_GateDepths.l0];refine ev_p (by omega) (ev_p (by omega) (ev_p (by omega) ?_))
  rw [hx];refine ev_p (by omega) (ev_p (by omega) (ev_p (by omega) (ev_p (by omega) (ev_p (by omega) ?_))))
  have hm : 0 ≤ (if rd ds x.f1 < rd ds x.f2 then rd ds x.f2 else rd ds x.f1) ∧ (if rd ds x.f1 < rd ds x.f2 then rd ds x.f2 else rd ds x.f1) ≤ i := by
   split <;> omega
  unfold mx;rw [w64 (n := i + 1) (by omega) (by omega), w64 (by omega) (by omega), depthsM]
  refine ih (p ++ [x]) _ (i + 1) (by simp; omega) (by rw [e]; simp) (by simp; omega) (by rw [← Int.add_assoc]; exact hk.2) (fun y hy => ?_)
  rw [List.mem_append] at hy;rcases hy with hy | hy
  ·have := hb y hy
   omega
  ·simp only [List.mem_singleton] at hy
   omega
theorem zz40 (n : Int) (gs : List S109) (os : List Int) (hg : gs.length ≤ 1048576) (ho : os.length ≤ 1048576) : Ev (fun k => impl_GateDepths.f k n gs os) (zz34 n gs os) := by
 unfold impl_GateDepths.f zz34;refine Ev.bind (zz38 n gs os hg ho) (ev_ite (fun h => ?_) (fun h => ?_))
 ·rw [if_pos h]
  obtain ⟨a, rfl, ha, hg', _, _, hk, _⟩ := zz9 h
  refine ev_p (by omega) (ev_p (by omega) ?_)
  rw [Int.toNat_natCast];exact zz39 a ha gs os hg' gs [] _ 0 rfl rfl (by simp) (by rw [Int.add_zero]; exact hk) (fun x hx => by have := (List.mem_replicate.1 hx).2; omega)
 ·rw [if_neg h]
  exact Ev.now _
theorem zz41 (a : Nat) (ha : a ≤ 4) (gs : List S109) (os ds : List Int) (hl : ds.length ≤ 16) (i : Nat) (hi : i < ds.length) (d : Nat) (hd : d < 40) (R : List (List Int)) (n : Nat) : ∀ (o : List (List Int)), n = d + 1 - o.length → o.length ≤ 40 → (∀ y ∈ o, y.length ≤ 100) →
  Ev (fun k => spec_plLevels.l1 k (lvPut o d ((a : Int) + i)) ds ds.length (wrap64 ((i : Int) + 1)) a gs os) R → Ev (fun k => spec_plLevels.l2 k o i d ds ds.length i a gs os) R := by
 induction n with
 | zero =>
  intro o hn h1 h2 h;have hlt : d < o.length := by omega
  rw [zz18 _ hlt] at h;have hr : rd_L4 o (d : Int) = o.getD d [] := rfl
  have h3 : (o.getD d []).length ≤ 100 := by
   rw [List.getD_eq_getElem?_getD, List.getElem?_eq_getElem hlt];exact h2 _ (List.getElem_mem hlt)
  apply ev_up;simp only [spec_plLevels.l2];refine ev_n (by omega) (ev_p (by omega) (ev_p (by omega) (ev_p (by rw [hr]; omega) ?_)))
  rw [hr, w64 (n := (a : Int) + i) (by omega) (by omega), Int.toNat_natCast]
  exact h
 | succ n ih =>
  intro o hn h1 h2 h;apply ev_up;simp only [spec_plLevels.l2];refine ev_p (by omega) (ev_p (by omega) ?_)
  refine ih (o ++ [[]]) (by simp; omega) (by simp; omega) (fun y hy => ?_) ?_
  ·rcases List.mem_append.1 hy with hy | hy
   ·exact h2 y hy
   ·rw [List.mem_singleton] at hy; rw [hy]; simp
  ·rw [zz17 _ (by omega)]
   exact h
theorem zz42 (a : Nat) (ha : a ≤ 4) (gs : List S109) (os ds : List Int) (hl : ds.length ≤ 16) (r : List Int) : ∀ (p : List Int) (i : Nat) (o : List (List Int)), i = p.length → ds = p ++ r → (∀ x ∈ r, 0 ≤ x ∧ x < 40) → o.length ≤ 40 → (∀ y ∈ o, y.length ≤ 4 + i) →
  Ev (fun k => spec_plLevels.l1 k o ds ds.length i a gs os) (lvAll a r i o) := by
 induction r with
 | nil =>
  intro p i o hi e hb h1 h2;have hlen : ds.length = p.length := by rw [e]; simp
  apply ev_up;simp only [spec_plLevels.l1];exact ev_n (by omega) (Ev.now _)
 | cons x r ih =>
  intro p i o hi e hb h1 h2;have hlen : ds.length = p.length + r.length + 1 := by rw [e]; simp; omega
  have hx : rd ds (i : Int) = x := by rw [e]; exact rdA (by omega)
  have hxb := hb x (by simp)
  obtain ⟨d, rfl⟩ : ∃ d : Nat, x = d := ⟨x.toNat, by omega⟩
  obtain ⟨h4, h5⟩ := lvPut_ok ((a : Int) + i) h1 (show d < 40 by omega) h2
  have ih' := ih (p ++ [(d : Int)]) (i + 1) (lvPut o d ((a : Int) + i)) (by simp; omega) (by rw [e]; simp) (fun y hy => hb y (by simp [hy])) h4 (fun y hy => by have := h5 y hy; omega)
  apply ev_up;simp only [spec_plLevels.l1];refine ev_p (by omega) (ev_p (by omega) (ev_p (by omega) ?_))
  rw [hx];refine zz41 a ha gs os ds hl i (by omega) d (by omega) _ _ o rfl h1 (fun y hy => by have := h2 y hy; omega) ?_
  rw [wN (n := (i : Int) + 1) (m := i + 1) (by omega) (by omega), lvAll, Int.toNat_natCast]
  exact ih'
theorem zz43 (a : Nat) (gs : List S109) (os : List Int) (h : circuitM a gs os = true) (ha : a ≤ 4) (hg : gs.length ≤ 16) (d : Nat) : ∀ (i : Nat), i + d = a →
  Ev (fun k => spec_plLevels.l0 k (seqFrom 0 i) i a gs os) (levelsM a gs) := by
 induction d with
 | zero =>
  intro i hi;obtain rfl : i = a := by omega
  have hd := zz23 (a := i) hg
  have hdl := zz24 i gs
  apply ev_up;simp only [spec_plLevels.l0];refine ev_n (by omega) (Ev.bind (zz33 i gs os h) ?_)
  exact zz42 i ha gs os _ (by omega) _ [] 0 [seqFrom 0 i] rfl rfl hd (by simp) (fun y hy => by rw [List.mem_singleton] at hy; rw [hy, seqFrom_length]; omega)
 | succ d ih =>
  intro i hi;have ih' := ih (i + 1) (by omega)
  rw [← zz26 0 i] at ih'
  apply ev_up;simp only [spec_plLevels.l0];refine ev_p (by omega) (ev_p (by rw [seqFrom_length]; omega) ?_)
  rw [wN (n := (i : Int) + 1) (m := i + 1) (by omega) (by omega)]
  simpa using ih'
theorem zz44 (a : Nat) (gs : List S109) (os : List Int) (h : circuitM a gs os = true) : Ev (fun k => spec_plLevels.f k a gs os) (levelsM a gs) := by
 obtain ⟨b, hab, ha, hg, _⟩ := zz9 h
 obtain rfl : a = b := by omega
 unfold spec_plLevels.f;exact zz43 a gs os h ha hg a 0 (by omega)
theorem zz45 (a : Nat) (ha : a ≤ 4) (gs : List S109) (os ds : List Int) (hl : ds.length ≤ 16) (i : Nat) (hi : i < ds.length) (d : Nat) (hd : d < 40) (R : List (List Int)) (n : Nat) : ∀ (o : List (List Int)), n = d + 1 - o.length → o.length ≤ 40 → (∀ y ∈ o, y.length ≤ 100) →
  Ev (fun k => impl_levelsOf.l1 k (lvPut o d ((a : Int) + i)) ds ds.length (wrap64 ((i : Int) + 1)) a gs os) R → Ev (fun k => impl_levelsOf.l2 k o i d ds ds.length i a gs os) R := by
 induction n with
 | zero =>
  intro o hn h1 h2 h;have hlt : d < o.length := by omega
  rw [zz18 _ hlt] at h;have hr : rd_L4 o (d : Int) = o.getD d [] := rfl
  have h3 : (o.getD d []).length ≤ 100 := by
   rw [List.getD_eq_getElem?_getD, List.getElem?_eq_getElem hlt];exact h2 _ (List.getElem_mem hlt)
  apply ev_up;simp only [impl_levelsOf.l2];refine ev_n (by omega) (ev_p (by omega) (ev_p (by omega) (ev_p (by rw [hr]; omega) ?_)))
  rw [hr, w64 (n := (a : Int) + i) (by omega) (by omega), Int.toNat_natCast]
  exact h
 | succ n ih =>
  intro o hn h1 h2 h;apply ev_up;simp only [impl_levelsOf.l2];refine ev_p (by omega) (ev_p (by omega) ?_)
  refine ih (o ++ [[]]) (by simp; omega) (by simp; omega) (fun y hy => ?_) ?_
  ·rcases List.mem_append.1 hy with hy | hy
   ·exact h2 y hy
   ·rw [List.mem_singleton] at hy; rw [hy]; simp
  ·rw [zz17 _ (by omega)]
   exact h
theorem zz46 (a : Nat) (ha : a ≤ 4) (gs : List S109) (os ds : List Int) (hl : ds.length ≤ 16) (r : List Int) : ∀ (p : List Int) (i : Nat) (o : List (List Int)), i = p.length → ds = p ++ r → (∀ x ∈ r, 0 ≤ x ∧ x < 40) → o.length ≤ 40 → (∀ y ∈ o, y.length ≤ 4 + i) →
  Ev (fun k => impl_levelsOf.l1 k o ds ds.length i a gs os) (lvAll a r i o) := by
 induction r with
 | nil =>
  intro p i o hi e hb h1 h2;have hlen : ds.length = p.length := by rw [e]; simp
  apply ev_up;simp only [impl_levelsOf.l1];exact ev_n (by omega) (Ev.now _)
 | cons x r ih =>
  intro p i o hi e hb h1 h2;have hlen : ds.length = p.length + r.length + 1 := by rw [e]; simp; omega
  have hx : rd ds (i : Int) = x := by rw [e]; exact rdA (by omega)
  have hxb := hb x (by simp)
  obtain ⟨d, rfl⟩ : ∃ d : Nat, x = d := ⟨x.toNat, by omega⟩
  obtain ⟨h4, h5⟩ := lvPut_ok ((a : Int) + i) h1 (show d < 40 by omega) h2
  have ih' := ih (p ++ [(d : Int)]) (i + 1) (lvPut o d ((a : Int) + i)) (by simp; omega) (by rw [e]; simp) (fun y hy => hb y (by simp [hy])) h4 (fun y hy => by have := h5 y hy; omega)
  apply ev_up;simp only [impl_levelsOf.l1];refine ev_p (by omega) (ev_p (by omega) (ev_p (by omega) ?_))
  rw [hx];refine zz45 a ha gs os ds hl i (by omega) d (by omega) _ _ o rfl h1 (fun y hy => by have := h2 y hy; omega) ?_
  rw [wN (n := (i : Int) + 1) (m := i + 1) (by omega) (by omega), lvAll, Int.toNat_natCast]
  exact ih'
theorem zz47 (a : Nat) (gs : List S109) (os : List Int) (ha : a ≤ 4) (hg : gs.length ≤ 16) (d : Nat) : ∀ (i : Nat), i + d = a →
  Ev (fun k => impl_levelsOf.l0 k ((depthsM (List.replicate a 0) gs).drop a) [seqFrom 0 i] i a gs os) (levelsM a gs) := by
 induction d with
 | zero =>
  intro i hi;obtain rfl : i = a := by omega
  have hd := zz23 (a := i) hg
  have hdl := zz24 i gs
  apply ev_up;simp only [impl_levelsOf.l0];refine ev_n (by omega) ?_
  exact zz46 i ha gs os _ (by omega) _ [] 0 [seqFrom 0 i] rfl rfl hd (by simp) (fun y hy => by rw [List.mem_singleton] at hy; rw [hy, seqFrom_length]; omega)
 | succ d ih =>
  intro i hi;have ih' := ih (i + 1) (by omega)
  rw [← zz26 0 i] at ih'
  have hr : rd_L4 [seqFrom 0 i] 0 = seqFrom 0 i := rfl
  apply ev_up;simp only [impl_levelsOf.l0];refine ev_p (by omega) (ev_p (by simp) (ev_p (by rw [hr, seqFrom_length]; omega) ?_))
  rw [hr, wN (n := (i : Int) + 1) (m := i + 1) (by omega) (by omega)]
  simpa using ih'
theorem zz48 (a : Nat) (gs : List S109) (os : List Int) (h : circuitM a gs os = true) : Ev (fun k => impl_levelsOf.f k a gs os) (levelsM a gs) := by
 obtain ⟨b, hab, ha, hg, _, ho, _⟩ := zz9 h
 obtain rfl : a = b := by omega
 have hd := zz40 a gs os (by omega) (by omega)
 unfold zz34 at hd;rw [if_pos h, Int.toNat_natCast] at hd;unfold impl_levelsOf.f;exact Ev.bind hd (zz47 a gs os ha hg a 0 (by omega))
def zz49 (n : Int) (gs : List S109) (os : List Int) : List (List Int) × Bool := if circuitM n gs os = true then (levelsM n.toNat gs, true) else ([], false)
theorem zz50 (n : Int) (gs : List S109) (os : List Int) : (zz49 n gs os).1.length ≤ 400 ∧ ∀ y ∈ (zz49 n gs os).1, y.length ≤ 20 := by
 unfold zz49;split
 ·rename_i h
  obtain ⟨a, rfl, ha, hg, _⟩ := zz9 h
  obtain ⟨h1, h2⟩ := zz25 ha hg
  simp only [Int.toNat_natCast];exact ⟨by omega, h2⟩
 ·simp
theorem zz51 (n : Int) (gs : List S109) (os : List Int) (hn : I64 n) (hg : gs.length ≤ 1048576) (ho : os.length ≤ 1048576) : Ev (fun g => spec_LevelsOf.f g n gs os) (zz49 n gs os) := by
 unfold spec_LevelsOf.f zz49;refine Ev.bind (zz30 n gs os hn hg ho) (ev_ite (fun h => ?_) (fun h => ?_))
 ·obtain ⟨a, rfl, _⟩ := zz9 h
  rw [if_pos h, Int.toNat_natCast];exact Ev.bind (zz44 a gs os h) (Ev.now _)
 ·rw [if_neg h]
  exact Ev.now _
theorem zz52 (n : Int) (gs : List S109) (os : List Int) (hg : gs.length ≤ 1048576) (ho : os.length ≤ 1048576) : Ev (fun g => impl_LevelsOf.f g n gs os) (zz49 n gs os) := by
 unfold impl_LevelsOf.f zz49;refine Ev.bind (zz38 n gs os hg ho) (ev_ite (fun h => ?_) (fun h => ?_))
 ·obtain ⟨a, rfl, _⟩ := zz9 h
  rw [if_pos h, Int.toNat_natCast];exact Ev.bind (zz48 a gs os h) (Ev.now _)
 ·rw [if_neg h]
  exact Ev.now _
theorem zz53 (n : Int) (gs : List S109) (os : List Int) (hn : I64 n) (hg : gs.length ≤ 1048576) (ho : os.length ≤ 1048576) : Ev (fun k => spec_GateDepths.f k n gs os) (zz34 n gs os) := by
 unfold spec_GateDepths.f zz34;refine Ev.bind (zz30 n gs os hn hg ho) (ev_ite (fun h => ?_) (fun h => ?_))
 ·rw [if_pos h]
  obtain ⟨a, rfl, _⟩ := zz9 h
  rw [Int.toNat_natCast];exact Ev.bind (zz33 a gs os h) (Ev.now _)
 ·rw [if_neg h]
  exact Ev.now _
def bytesOk (code : List Int) : Prop := code.length ≤ 140737488355328 ∧ ∀ x ∈ code, 0 ≤ x ∧ x ≤ 255
theorem bits255 (y : Int) : 0 ≤ wrap64 (Go.bits .and .u64 y 255) ∧ wrap64 (Go.bits .and .u64 y 255) ≤ 255 := by
 show 0 ≤ wrap64 (IntKind.u64.wrap ((BitVec.ofInt 64 y &&& BitVec.ofInt 64 255).toNat : Int)) ∧ wrap64 (IntKind.u64.wrap ((BitVec.ofInt 64 y &&& BitVec.ofInt 64 255).toNat : Int)) ≤ 255
 have h : (BitVec.ofInt 64 y &&& BitVec.ofInt 64 255).toNat ≤ 255 := by
  rw [BitVec.toNat_and];exact Nat.le_trans Nat.and_le_right (by decide)
 generalize (BitVec.ofInt 64 y &&& BitVec.ofInt 64 255).toNat = m at h
 rw [u64w (by omega) (by omega), w64 (n := (m : Int)) (by omega) (by omega)]
 omega
theorem next_ok {code : List Int} (hc : bytesOk code) (at_ mix : Int) (h0 : 0 ≤ at_) (h1 : at_ ≤ 4000000000000000000) : ∃ r m, spec_l1Cur_next.f code at_ mix = some (r, at_ + 1, m) ∧ 0 ≤ r ∧ r ≤ 255 := by
 unfold spec_l1Cur_next.f;rw [w64 (n := at_ + 1) (by omega) (by omega)]
 by_cases c1 : at_ < (code.length : Int)
 ·have hm := hc.2 (rd code at_) (rd_mem h0 c1)
  rw [if_pos c1, if_pos h0, if_pos (by omega), w64 (n := rd code at_) (by omega) (by omega)]
  exact ⟨_, _, rfl, hm.1, hm.2⟩
 ·rw [if_neg c1, if_neg (by omega)]
  exact ⟨_, _, rfl, (bits255 _).1, (bits255 _).2⟩
theorem pick_ok {code : List Int} (hc : bytesOk code) (at_ mix n : Int) (h0 : 0 ≤ at_) (h1 : at_ ≤ 3999999999999999990) : ∃ r a m, spec_l1Cur_pick.f code at_ mix n = some (r, a, m) ∧ (at_ ≤ a ∧ a ≤ at_ + 2) ∧ 0 ≤ r ∧ (r = 0 ∨ r < n) := by
 unfold spec_l1Cur_pick.f;by_cases c : n ≤ 1
 ·rw [if_pos c]
  exact ⟨0, at_, mix, rfl, by omega, by omega, .inl rfl⟩
 ·rw [if_neg c]
  obtain ⟨r, m, e, hr0, hr1⟩ := next_ok hc at_ mix h0 (by omega)
  rw [e, Option.bind_some];by_cases c2 : n > 200
  ·obtain ⟨r2, m2, e2, hs0, hs1⟩ := next_ok hc (at_ + 1) m (by omega) (by omega)
   rw [if_pos c2, e2, Option.bind_some, if_neg (by omega)]
   dsimp only;rw [w64 (n := r * 256) (by omega) (by omega), w64 (n := r * 256 + r2) (by omega) (by omega)]
   exact ⟨_, _, _, rfl, by omega, Int.tmod_nonneg _ (by omega), .inr (Int.tmod_lt_of_pos _ (by omega))⟩
  ·rw [if_neg c2, if_neg (by omega)]
   dsimp only;exact ⟨_, _, _, rfl, by omega, Int.tmod_nonneg _ (by omega), .inr (Int.tmod_lt_of_pos _ (by omega))⟩
theorem among_ok {code : List Int} (hc : bytesOk code) (at_ mix : Int) (l : List Int) (hl : 0 < l.length) (h0 : 0 ≤ at_) (h1 : at_ ≤ 3999999999999999990) : ∃ r a m, spec_l1Cur_among.f code at_ mix l = some (r, a, m) ∧ (at_ ≤ a ∧ a ≤ at_ + 2) ∧ r ∈ l := by
 unfold spec_l1Cur_among.f;obtain ⟨r, a, m, e, ha, hr0, hr1⟩ := pick_ok hc at_ mix (l.length : Int) h0 h1
 have hr2 : r < (l.length : Int) := by omega
 rw [e, Option.bind_some];dsimp only;rw [if_pos hr0, if_pos hr2];exact ⟨_, _, _, rfl, ha, rd_mem hr0 hr2⟩
theorem one_ok {code : List Int} (hc : bytesOk code) (at_ mix n : Int) (h0 : 0 ≤ at_) (h1 : at_ ≤ 3999999999999999990) : ∃ r a m, spec_l1Cur_one.f code at_ mix n = some (r, a, m) ∧ (at_ ≤ a ∧ a ≤ at_ + 2) := by
 unfold spec_l1Cur_one.f;obtain ⟨r, a, m, e, ha, _⟩ := pick_ok hc at_ mix n h0 h1
 rw [e, Option.bind_some];exact ⟨_, _, _, rfl, ha⟩
theorem bytes_of {l : List Int} (h1 : l.length * 1 ≤ 140737488351232) (h2 : ∀ x ∈ l, (Lit.int .u8 x).wf = true) : bytesOk l := by
 refine ⟨by omega, fun x hx => ?_⟩
 have := h2 x hx
 simp [Lit.wf, IntKind.min, IntKind.max, IntKind.bits, IntKind.signed] at this
 omega
theorem zz61 {code : List Int} (hc : bytesOk code) (inp : Int) : ∀ (d : Nat) (l : List S109) (a m : Int), 0 ≤ a → a + 6 * d ≤ 1000000000 → ∃ l' a' m', ciGates code inp d l a m = some (l', a', m') ∧ (a ≤ a' ∧ a' ≤ a + 6 * d) ∧ l'.length = l.length + d := by
 intro d;induction d with
 | zero => intro l a m h0 _; exact ⟨l, a, m, rfl, by omega, by omega⟩
 | succ d ih =>
  intro l a m h0 h1;rw [ciGates];obtain ⟨x, a1, m1, e1, ha1, _⟩ := pick_ok hc a m 4 h0 (by omega)
  rw [e1, Option.bind_some];dsimp only;obtain ⟨y, a2, m2, e2, ha2, _⟩ := pick_ok hc a1 m1 (wrap64 (inp + (l.length : Int))) (by omega) (by omega)
  rw [e2, Option.bind_some];dsimp only;obtain ⟨z, a3, m3, e3, ha3, _⟩ := pick_ok hc a2 m2 (wrap64 (inp + (l.length : Int))) (by omega) (by omega)
  rw [e3, Option.bind_some];dsimp only;obtain ⟨l', a', m', e, ha, hl⟩ := ih (l ++ [(⟨wrap64 (1 + x), y, if wrap64 (1 + x) = 4 then y else z⟩ : S109)]) a3 m3 (by omega) (by omega)
  exact ⟨l', a', m', e, by omega, by rw [hl, List.length_append, List.length_singleton]; omega⟩
theorem zz62 {code : List Int} (hc : bytesOk code) (inp n : Int) : ∀ (d : Nat) (l : List Int) (a m : Int), 0 ≤ a → a + 6 * d ≤ 1000000000 → ∃ l' a' m', ciOuts code inp n d l a m = some (l', a', m') ∧ (a ≤ a' ∧ a' ≤ a + 6 * d) ∧ l'.length = l.length + d := by
 intro d;induction d with
 | zero => intro l a m h0 _; exact ⟨l, a, m, rfl, by omega, by omega⟩
 | succ d ih =>
  intro l a m h0 h1;rw [ciOuts];obtain ⟨y, a1, m1, e1, ha1, _⟩ := pick_ok hc a m (wrap64 (inp + n)) h0 (by omega)
  rw [e1, Option.bind_some];dsimp only;obtain ⟨z, a2, m2, e2, ha2, _⟩ := among_ok hc a1 m1 [wrap64 (wrap64 (inp + n) - 1), y] (by simp) (by omega) (by omega)
  rw [e2, Option.bind_some];dsimp only;obtain ⟨l', a', m', e, ha, hl⟩ := ih (l ++ [z]) a2 m2 (by omega) (by omega)
  exact ⟨l', a', m', e, by omega, by rw [hl, List.length_append, List.length_singleton]; omega⟩
theorem zz63 {code : List Int} (hc : bytesOk code) (a m : Int) (h0 : 0 ≤ a) (h1 : a ≤ 900000000) : ∃ n gs os a' m', spec_l1Cur_circuit.f code a m = some (n, gs, os, a', m') ∧ (a ≤ a' ∧ a' ≤ a + 1000) ∧ (1 ≤ n ∧ n ≤ 4) ∧ gs.length ≤ 16 ∧ (1 ≤ os.length ∧ os.length ≤ 3) := by
 unfold spec_l1Cur_circuit.f;obtain ⟨x, a1, m1, e1, ha1, hx0, hx1⟩ := pick_ok hc a m 4 h0 (by omega)
 rw [e1, Option.bind_some];dsimp only;obtain ⟨n, a2, m2, e2, ha2, hn0, hn1⟩ := pick_ok hc a1 m1 7 (by omega) (by omega)
 rw [e2, Option.bind_some];dsimp only;obtain ⟨b, a3, m3, e3, ha3⟩ := one_ok hc a2 m2 20 (by omega) (by omega)
 rw [e3, Option.bind_some];dsimp only;rw [w64 (n := 1 + x) (by omega) (by omega)]
 have body : ∀ N : Int, 0 ≤ N → N ≤ 16 → ∃ n gs os a' m', ciBody code (1 + x) N a3 m3 = some (n, gs, os, a', m') ∧ (a3 ≤ a' ∧ a' ≤ a3 + 900) ∧ (1 ≤ n ∧ n ≤ 4) ∧ gs.length ≤ 16 ∧ (1 ≤ os.length ∧ os.length ≤ 3) := by
  intro N hN0 hN1;unfold ciBody;rw [if_pos (by omega)]
  obtain ⟨gs, a4, m4, e4, ha4, hl4⟩ := zz61 hc (1 + x) N.toNat [] a3 m3 (by omega) (by omega)
  rw [e4, Option.bind_some];dsimp only;obtain ⟨k, a5, m5, e5, ha5, hk0, hk1⟩ := pick_ok hc a4 m4 3 (by omega) (by omega)
  rw [e5, Option.bind_some];dsimp only;rw [w64 (n := 1 + k) (by omega) (by omega), if_pos (by omega)]
  obtain ⟨os, a6, m6, e6, ha6, hl6⟩ := zz62 hc (1 + x) N (1 + k).toNat [] a5 m5 (by omega) (by omega)
  rw [e6, Option.bind_some];rw [List.length_nil, Nat.zero_add] at hl4 hl6;exact ⟨1 + x, gs, os, a6, m6, rfl, by omega, by omega, by omega, by omega⟩
 cases b with
 | true =>
  rw [if_pos rfl];obtain ⟨n', gs, os, a', m', e, h2, h3⟩ := body 16 (by omega) (by omega)
  exact ⟨n', gs, os, a', m', e, by omega, h3⟩
 | false =>
  rw [if_neg (by decide)]
  obtain ⟨n', gs, os, a', m', e, h2, h3⟩ := body n hn0 (by omega)
  exact ⟨n', gs, os, a', m', e, by omega, h3⟩
theorem anG_ok {code : List Int} (hc : bytesOk code) (inp : Int) (l : List S109) (a m : Int) (h0 : 0 ≤ a) (h1 : a ≤ 900000000) : ∃ l' a' m', anG code inp (l.length : Int) l a m = some (l', a', m') ∧ (a ≤ a' ∧ a' ≤ a + 10) ∧ l'.length = l.length := by
 unfold anG;by_cases c : (0 : Int) < (l.length : Int)
 ·rw [if_pos c]
  obtain ⟨q, a1, m1, e1, ha1, hq0, hq1⟩ := pick_ok hc a m (l.length : Int) h0 (by omega)
  rw [e1, Option.bind_some];dsimp only;rw [if_pos ⟨hq0, by omega⟩]
  obtain ⟨s, a2, m2, e2, ha2, _⟩ := pick_ok hc a1 m1 30 (by omega) (by omega)
  rw [e2, Option.bind_some];dsimp only;by_cases s0 : s = 0
  ·rw [if_pos s0]
   obtain ⟨z, a3, m3, e3, ha3, _⟩ := among_ok hc a2 m2 [0, 4, 5] (by simp) (by omega) (by omega)
   rw [e3, Option.bind_some];exact ⟨_, _, _, rfl, by dsimp only; omega, List.length_set ..⟩
  rw [if_neg s0];by_cases s1 : s = 1
  ·rw [if_pos s1]
   obtain ⟨z, a3, m3, e3, ha3, _⟩ := among_ok hc a2 m2 [-1, wrap64 (inp + (l.length : Int))] (by simp) (by omega) (by omega)
   rw [e3, Option.bind_some];exact ⟨_, _, _, rfl, by dsimp only; omega, List.length_set ..⟩
  rw [if_neg s1];by_cases s2 : s = 2
  ·rw [if_pos s2]
   obtain ⟨z, a3, m3, e3, ha3, _⟩ := among_ok hc a2 m2 [-1, wrap64 (wrap64 (inp + (l.length : Int)) - 1)] (by simp) (by omega) (by omega)
   rw [e3, Option.bind_some];exact ⟨_, _, _, rfl, by dsimp only; omega, List.length_set ..⟩
  ·rw [if_neg s2]
   exact ⟨_, _, _, rfl, by omega, rfl⟩
 ·rw [if_neg c]
  exact ⟨_, _, _, rfl, by omega, rfl⟩
theorem anE_ok {code : List Int} (hc : bytesOk code) (inp : Int) (l : List S109) (lo : List Int) (a m : Int) (h0 : 0 ≤ a) (h1 : a ≤ 900000000) (hn : 1 ≤ inp ∧ inp ≤ 4) (hl : l.length ≤ 16) (ho : 1 ≤ lo.length ∧ lo.length ≤ 3) : ∃ n gs os a' m', anE code inp l lo a m = some (n, gs, os, a', m') ∧ (a ≤ a' ∧ a' ≤ a + 10) ∧ (-1 ≤ n ∧ n ≤ 5) ∧ gs.length ≤ 100 ∧ os.length ≤ 100 := by
 unfold anE;obtain ⟨s, a1, m1, e1, ha1, hs0, hs1⟩ := pick_ok hc a m 30 h0 (by omega)
 rw [e1, Option.bind_some];dsimp only;by_cases s0 : s = 0
 ·rw [if_pos s0]
  obtain ⟨z, a3, m3, e3, ha3, hz⟩ := among_ok hc a1 m1 [-1, 0, 5] (by simp) (by omega) (by omega)
  rw [e3, Option.bind_some];simp only [List.mem_cons, List.not_mem_nil, or_false] at hz;exact ⟨z, l, lo, a3, m3, rfl, by omega, by omega, by omega, by omega⟩
 rw [if_neg s0];by_cases s1 : s = 1
 ·rw [if_pos s1]
  exact ⟨_, _, _, _, _, rfl, by omega, by omega, by omega, by simp⟩
 rw [if_neg s1];by_cases s2 : s = 2
 ·rw [if_pos s2]
  obtain ⟨z, a3, m3, e3, ha3, hz0, hz1⟩ := pick_ok hc a1 m1 2 (by omega) (by omega)
  rw [e3, Option.bind_some];dsimp only;rw [w64 (n := 4 + z) (by omega) (by omega), if_pos ⟨by omega, by omega⟩]
  exact ⟨_, _, _, _, _, rfl, by omega, by omega, by omega, by rw [List.length_append, List.length_replicate]; omega⟩
 rw [if_neg s2];by_cases s3 : s = 3
 ·rw [if_pos s3, if_pos (by omega)]
  obtain ⟨z, a3, m3, e3, ha3, _⟩ := among_ok hc a1 m1 [-1, wrap64 (inp + (l.length : Int))] (by simp) (by omega) (by omega)
  rw [e3, Option.bind_some];exact ⟨inp, l, lo.set 0 z, a3, m3, rfl, by omega, by omega, by omega, by rw [List.length_set]; omega⟩
 rw [if_neg s3];by_cases s4 : s = 4
 ·rw [if_pos s4]
  obtain ⟨z, a3, m3, e3, ha3, hz0, hz1⟩ := pick_ok hc a1 m1 2 (by omega) (by omega)
  rw [e3, Option.bind_some];dsimp only;rw [w64 (n := 16 + z) (by omega) (by omega), if_pos ⟨by omega, by omega⟩]
  exact ⟨_, _, _, _, _, rfl, by omega, by omega, by rw [List.length_append, List.length_replicate]; omega, by omega⟩
 ·rw [if_neg s4]
  exact ⟨_, _, _, _, _, rfl, by omega, by omega, by omega, by omega⟩
theorem zz66 {code : List Int} (hc : bytesOk code) (a m : Int) (h0 : 0 ≤ a) (h1 : a ≤ 800000000) : ∃ n gs os a' m', spec_l1Cur_anyCircuit.f code a m = some (n, gs, os, a', m') ∧ (a ≤ a' ∧ a' ≤ a + 2000) ∧ (-1 ≤ n ∧ n ≤ 5) ∧ gs.length ≤ 100 ∧ os.length ≤ 100 := by
 unfold spec_l1Cur_anyCircuit.f;obtain ⟨n, gs, os, a1, m1, e1, ha1, hn, hg, ho⟩ := zz63 hc a m h0 (by omega)
 rw [e1, Option.bind_some];dsimp only;obtain ⟨l', a2, m2, e2, ha2, hl⟩ := anG_ok hc n gs a1 m1 (by omega) (by omega)
 rw [e2, Option.bind_some];dsimp only;obtain ⟨n', gs', os', a3, m3, e3, ha3, hr⟩ := anE_ok hc n l' os a2 m2 (by omega) (by omega) hn (by omega) ho
 exact ⟨n', gs', os', a3, m3, e3, by omega, hr⟩
def goodW (m : Int) : List Int → Bool
 | [a, b] => decide (0 ≤ a ∧ a ≤ 29 ∧ 0 ≤ b ∧ b < m)
 | _ => false
def zz68 (l : List (List Int)) (m : Int) : Bool := decide (1 ≤ m ∧ m ≤ 7 ∧ l.length ≤ 30) && l.all (goodW m)
theorem zz69 {m : Int} {w : List Int} (h : w.length ≠ 2) : goodW m w = false := by
 match w, h with
 | [], _ => rfl
 | [_], _ => rfl
 | [_, _], h => simp at h
 | _ :: _ :: _ :: _, _ => rfl
theorem two_of {w : List Int} (h : w.length = 2) : ∃ a b, w = [a, b] := by
 match w, h with
 | [a, b], _ => exact ⟨a, b, rfl⟩
def cross (x y : List Int) : Bool := decide ((rd x 0 - rd y 0) * (rd x 1 - rd y 1) < 0)
def isW (m : Int) (w : List Int) : Prop := ∃ a b, w = [a, b] ∧ 0 ≤ a ∧ a ≤ 29 ∧ 0 ≤ b ∧ b < m
theorem isW_of {m : Int} {w : List Int} (h : goodW m w = true) : isW m w := by
 match w, h with
 | [a, b], h =>
  have := of_decide_eq_true (show decide (0 ≤ a ∧ a ≤ 29 ∧ 0 ≤ b ∧ b < m) = true from h)
  exact ⟨a, b, rfl, this⟩
 | [], h => simp [goodW] at h
 | [_], h => simp [goodW] at h
 | _ :: _ :: _ :: _, h => simp [goodW] at h
theorem zz74 {l : List (List Int)} {m : Int} (h : zz68 l m = true) : 1 ≤ m ∧ m ≤ 7 ∧ l.length ≤ 30 ∧ ∀ w ∈ l, isW m w := by
 unfold zz68 at h;rw [Bool.and_eq_true, List.all_eq_true] at h;have := of_decide_eq_true h.1
 exact ⟨this.1, this.2.1, this.2.2, fun w hw => isW_of (h.2 w hw)⟩
theorem zz75 {a b : Int} (h1 : -30 ≤ a) (h2 : a ≤ 30) (h3 : -30 ≤ b) (h4 : b ≤ 30) : -900 ≤ a * b ∧ a * b ≤ 900 := by
 have e : ∀ x y : Int, 0 ≤ x → 0 ≤ y → 0 ≤ x * y := fun x y hx hy => Int.mul_nonneg hx hy
 have p1 := e (30 - a) (30 - b) (by omega) (by omega)
 have p2 := e (30 + a) (30 + b) (by omega) (by omega)
 have p3 := e (30 - a) (30 + b) (by omega) (by omega)
 have p4 := e (30 + a) (30 - b) (by omega) (by omega)
 simp only [Int.sub_mul, Int.mul_sub, Int.add_mul, Int.mul_add] at p1 p2 p3 p4;generalize a * b = c at *
 omega
def cntM : List (List Int) → List (List Int) → Nat
 | _, [] => 0
 | p, x :: r => p.countP (cross x) + cntM (p ++ [x]) r
def hit (a b : List Int) (i k : Nat) : Bool := decide (rd a 1 = i ∧ rd b 1 = k ∧ rd a 1 ≠ rd b 1 ∧ rd a 0 > rd b 0)
def mkRow (m : Nat) (f : Nat → Nat) : List Int := (List.range m).map (fun k => ((f k : Nat) : Int))
def mkT (m : Nat) (T : Nat → Nat → Nat) : List (List Int) := (List.range m).map (fun i => mkRow m (T i))
theorem zz80 (m : Nat) (f : Nat → Nat) : (mkRow m f).length = m := by simp [mkRow]
theorem zz81 (m : Nat) (T : Nat → Nat → Nat) : (mkT m T).length = m := by simp [mkT]
theorem mkRow_rd {m : Nat} {f : Nat → Nat} {k : Nat} (h : k < m) : rd (mkRow m f) (k : Int) = (f k : Nat) := by
 rw [rdN (by rw [zz80]; exact h)]
 simp [mkRow]
theorem mkT_rd {m : Nat} {T : Nat → Nat → Nat} {i : Nat} (h : i < m) : rd_L4 (mkT m T) (i : Int) = mkRow m (T i) := by
 have e : rd_L4 (mkT m T) (i : Int) = (mkT m T)[i]'(by rw [zz81]; exact h) := getDN (by rw [zz81]; exact h)
 rw [e];simp [mkT]
theorem zz84 {m : Nat} {f : Nat → Nat} {k v : Nat} (h : k < m) : (mkRow m f).set k (v : Int) = mkRow m (fun j => if j = k then v else f j) := by
 apply List.ext_getElem
 ·simp [mkRow]
 ·intro n h1 h2
  rw [List.getElem_set];simp only [mkRow, List.getElem_map, List.getElem_range];by_cases e : n = k
  ·rw [if_pos e.symm, if_pos e]
  ·rw [if_neg (fun h => e h.symm), if_neg e]
theorem mkT_set {m : Nat} {T : Nat → Nat → Nat} {i : Nat} {g : Nat → Nat} (h : i < m) : (mkT m T).set i (mkRow m g) = mkT m (fun j => if j = i then g else T j) := by
 apply List.ext_getElem
 ·simp [mkT]
 ·intro n h1 h2
  rw [List.getElem_set];simp only [mkT, List.getElem_map, List.getElem_range];by_cases e : n = i
  ·rw [if_pos e.symm, if_pos e]
  ·rw [if_neg (fun h => e h.symm), if_neg e]
theorem zz86 {m : Nat} {T U : Nat → Nat → Nat} (h : ∀ i k, i < m → k < m → T i k = U i k) : mkT m T = mkT m U := by
 unfold mkT mkRow;apply List.map_congr_left
 intro i hi;apply List.map_congr_left
 intro k hk;rw [h i k (by simpa using hi) (by simpa using hk)]
theorem zz87 {m : Nat} {f g : Nat → Nat} (h : ∀ k, k < m → f k = g k) : mkRow m f = mkRow m g := by
 unfold mkRow;apply List.map_congr_left
 intro k hk;rw [h k (by simpa using hk)]
def tabP (l p : List (List Int)) (i k : Nat) : Nat := (p.map (fun a => l.countP (fun b => hit a b i k))).sum
def tabM (l : List (List Int)) (m : Nat) : List (List Int) := mkT m (tabP l l)
theorem tabP_le (l p : List (List Int)) (i k : Nat) : tabP l p i k ≤ p.length * l.length := by
 induction p with
 | nil => simp [tabP]
 | cons a p ih =>
  have h1 := List.countP_le_length (p := fun b => hit a b i k) (l := l)
  have h2 : tabP l (a :: p) i k = l.countP (fun b => hit a b i k) + tabP l p i k := rfl
  rw [h2, List.length_cons, Nat.add_mul, Nat.one_mul];omega
theorem zz91 (l p : List (List Int)) (a : List Int) (i k : Nat) : tabP l (p ++ [a]) i k = tabP l p i k + l.countP (fun b => hit a b i k) := by
 simp [tabP]
def innerB (T : Nat → Nat → Nat) (i k : Nat) : Nat → Nat
 | 0 => 0
 | d + 1 => min (T i k) (T k i) + innerB T i (k + 1) d
def outerB (T : Nat → Nat → Nat) (m i : Nat) : Nat → Nat
 | 0 => 0
 | d + 1 => innerB T i (i + 1) (m - (i + 1)) + outerB T m (i + 1) d
theorem zz94 {T : Nat → Nat → Nat} (hT : ∀ i k, T i k ≤ 900) (i : Nat) (d : Nat) : ∀ k, innerB T i k d ≤ 900 * d := by
 induction d with
 | zero => intro k; simp [innerB]
 | succ d ih =>
  intro k;have h1 := ih (k + 1)
  have h2 := hT i k
  have h3 : min (T i k) (T k i) ≤ T i k := Nat.min_le_left _ _
  unfold innerB;omega
theorem tabP900 {l : List (List Int)} (hl : l.length ≤ 30) (i k : Nat) : tabP l l i k ≤ 900 := by
 have h1 := tabP_le l l i k
 have h2 : l.length * l.length ≤ 30 * 30 := Nat.mul_le_mul hl hl
 omega
def xo (a b : List Int) : Bool := decide (rd a 1 < rd b 1 ∧ rd a 0 > rd b 0)
theorem zz97 (f : List Int → Bool) (b : List Int) (l : List (List Int)) : (b :: l).countP f = (if f b = true then 1 else 0) + l.countP f := by
 rw [List.countP_cons];omega
theorem zz98 (l p : List (List Int)) (a : List Int) (i k : Nat) : tabP l (a :: p) i k = l.countP (fun b => hit a b i k) + tabP l p i k := by
 unfold tabP;rw [List.map_cons, List.sum_cons]
def xs_ (l p : List (List Int)) : Nat := (p.map (fun a => l.countP (xo a))).sum
theorem zz100 (u v : Int) : u * v < 0 ↔ (u < 0 ∧ v > 0) ∨ (u > 0 ∧ v < 0) := by
 rcases Int.lt_trichotomy u 0 with hu | rfl | hu
 ·rcases Int.lt_trichotomy v 0 with hv | rfl | hv
  ·have := Int.mul_pos_of_neg_of_neg hu hv
   omega
  ·simp
  ·have := Int.mul_neg_of_neg_of_pos hu hv
   omega
 ·simp
 ·rcases Int.lt_trichotomy v 0 with hv | rfl | hv
  ·have := Int.mul_neg_of_pos_of_neg hu hv
   omega
  ·simp
  ·have := Int.mul_pos hu hv
   omega
theorem cross_xo (x a : List Int) : (if xo a x = true then 1 else 0) + (if xo x a = true then 1 else 0) = if cross x a = true then 1 else 0 := by
 unfold xo cross;simp only [decide_eq_true_eq, zz100];split <;> split <;> split <;> omega
theorem zz102 (x : List Int) (p : List (List Int)) : p.countP (fun a => xo a x) + p.countP (xo x) = p.countP (cross x) := by
 induction p with
 | nil => rfl
 | cons a p ih =>
  rw [zz97, zz97, zz97, ← cross_xo x a];omega
theorem xs_more (l p : List (List Int)) (x : List Int) : xs_ (l ++ [x]) p = xs_ l p + p.countP (fun a => xo a x) := by
 induction p with
 | nil => rfl
 | cons a p ih =>
  unfold xs_ at ih ⊢
  rw [List.map_cons, List.sum_cons, List.map_cons, List.sum_cons, ih, List.countP_append, zz97, List.countP_cons, List.countP_nil];omega
theorem xs_snoc (p : List (List Int)) (x : List Int) : xs_ (p ++ [x]) (p ++ [x]) = xs_ p p + p.countP (cross x) := by
 have e : xs_ (p ++ [x]) (p ++ [x]) = xs_ (p ++ [x]) p + (p ++ [x]).countP (xo x) := by
  unfold xs_;simp
 have h0 : xo x x = false := decide_eq_false (by omega)
 rw [e, xs_more, List.countP_append, List.countP_cons, List.countP_nil, h0, ← zz102];simp
 omega
theorem xs_cnt (r : List (List Int)) : ∀ p : List (List Int), xs_ (p ++ r) (p ++ r) = xs_ p p + cntM p r := by
 induction r with
 | nil => intro p; rw [List.append_nil]; rfl
 | cons x r ih =>
  intro p;have := ih (p ++ [x])
  rw [List.append_assoc, xs_snoc] at this;rw [cntM, ← Nat.add_assoc];exact this
def okO (m : Nat) : List Int → List Int → Bool
 | _, [] => true
 | p, x :: r => decide (0 ≤ x ∧ x < m ∧ ¬ x ∈ p) && okO m (p ++ [x]) r
theorem zz107 {l : List (List Int)} {m : Int} (h : zz68 l m = true) : ∃ n : Nat, m = n ∧ 1 ≤ n ∧ n ≤ 7 ∧ l.length ≤ 30 ∧ ∀ w ∈ l, isW n w := by
 obtain ⟨h1, h2, h3, h4⟩ := zz74 h
 obtain ⟨n, rfl⟩ := nat_of (show 0 ≤ m by omega)
 exact ⟨n, rfl, by omega, by omega, h3, h4⟩
theorem zz108 {m : Nat} {w : List Int} (h : isW m w) : 0 < (w.length : Int) ∧ 1 < (w.length : Int) ∧ 0 ≤ rd w 1 ∧ rd w 1 < m ∧ w.length = 2 := by
 obtain ⟨a, b, rfl, _, _, h3, h4⟩ := h
 exact ⟨by simp, by simp, h3, h4, rfl⟩
def moveP (o : List Int) (w : List Int) : List Int := [rd w 0, rd o (rd w 1)]
def zz110 (l : List (List Int)) (m : Int) (o : List Int) : List (List Int) × Bool := if zz68 l m = true ∧ (okO m.toNat [] o && decide (o.length = m.toNat)) = true then (l.map (moveP o), true) else ([], false)
theorem okO_all {m : Nat} (r : List Int) : ∀ p, okO m p r = true → ∀ x ∈ r, 0 ≤ x ∧ x < m := by
 induction r with
 | nil => intro p _ x hx; simp at hx
 | cons y r ih =>
  intro p h x hx;rw [okO, Bool.and_eq_true, decide_eq_true_eq] at h;rcases List.mem_cons.1 hx with rfl | hx
  ·exact ⟨h.1.1, h.1.2.1⟩
  ·exact ih _ h.2 x hx
theorem zz112 {l : List (List Int)} {m : Int} {o : List Int} (h : zz68 l m = true) (ho : okO m.toNat [] o = true) (hl : o.length = m.toNat) : zz68 (l.map (moveP o)) m = true := by
 have h0 := h
 obtain ⟨h1, h2, h3, h4⟩ := zz74 h
 unfold zz68 at h ⊢
 rw [Bool.and_eq_true] at h ⊢
 refine ⟨by rw [List.length_map]; exact h.1, ?_⟩
 rw [List.all_eq_true];intro w hw;obtain ⟨v, hv, rfl⟩ := List.mem_map.1 hw
 obtain ⟨a, b, rfl, ha, hb, hc, hd⟩ := h4 v hv
 have hb2 : rd [a, b] 1 = b := rfl
 have := okO_all o [] ho (rd o b) (rd_mem hc (by omega))
 unfold moveP;rw [hb2];show decide (0 ≤ a ∧ a ≤ 29 ∧ 0 ≤ rd o b ∧ rd o b < m) = true
 exact decide_eq_true ⟨ha, hb, this.1, by omega⟩
def dRow (f : Nat → Nat → Nat) (i : Nat) : Nat → Nat
 | 0 => 0
 | k + 1 => dRow f i k + f i k
def dSum (f : Nat → Nat → Nat) (m : Nat) : Nat → Nat
 | 0 => 0
 | i + 1 => dSum f m i + dRow f i m
theorem dRow_add (f g : Nat → Nat → Nat) (i d : Nat) : dRow (fun i k => f i k + g i k) i d = dRow f i d + dRow g i d := by
 induction d with
 | zero => rfl
 | succ d ih => rw [dRow, dRow, dRow, ih]; omega
theorem dSum_add (f g : Nat → Nat → Nat) (m d : Nat) : dSum (fun i k => f i k + g i k) m d = dSum f m d + dSum g m d := by
 induction d with
 | zero => rfl
 | succ d ih => rw [dSum, dSum, dSum, ih, dRow_add]; omega
theorem zz117 (i d : Nat) : dRow (fun _ _ => 0) i d = 0 := by
 induction d with
 | zero => rfl
 | succ d ih => rw [dRow, ih]
theorem zz118 (m d : Nat) : dSum (fun _ _ => 0) m d = 0 := by
 induction d with
 | zero => rfl
 | succ d ih => rw [dSum, ih, zz117]
theorem dRow_one (i0 k0 : Nat) (c : Prop) [Decidable c] (i d : Nat) : dRow (fun i k => if i = i0 ∧ k = k0 ∧ c then 1 else 0) i d = if i = i0 ∧ k0 < d ∧ c then 1 else 0 := by
 by_cases hc : c
 ·simp only [hc, and_true]
  induction d with
  | zero => rw [dRow, if_neg (by omega)]
  | succ d ih =>
   rw [dRow, ih];split <;> (try split) <;> (try split) <;> omega
 ·simp only [hc, and_false, if_false]
  exact zz117 i d
theorem dSum_one (i0 k0 : Nat) (c : Prop) [Decidable c] (m d : Nat) : dSum (fun i k => if i = i0 ∧ k = k0 ∧ c then 1 else 0) m d = if i0 < d ∧ k0 < m ∧ c then 1 else 0 := by
 induction d with
 | zero => rw [dSum, if_neg (by omega)]
 | succ d ih =>
  rw [dSum, ih, dRow_one];by_cases hc : c
  ·simp only [hc, and_true]
   split <;> (try split) <;> (try split) <;> omega
  ·simp only [hc, and_false, if_false]
theorem zz121 {f g : Nat → Nat → Nat} (i d : Nat) (h : ∀ k, k < d → f i k ≤ g i k) : dRow f i d ≤ dRow g i d := by
 induction d with
 | zero => exact Nat.le_refl _
 | succ d ih =>
  have h1 := ih (fun k hk => h k (by omega))
  have h2 := h d (by omega)
  rw [dRow, dRow];omega
theorem zz122 {f g : Nat → Nat → Nat} (m d : Nat) (h : ∀ i k, i < d → k < m → f i k ≤ g i k) : dSum f m d ≤ dSum g m d := by
 induction d with
 | zero => exact Nat.le_refl _
 | succ d ih =>
  have h1 := ih (fun i k hi hk => h i k (by omega) hk)
  have h2 := zz121 d m (fun k hk => h d k (by omega) hk)
  rw [dSum, dSum];omega
theorem dSum_col (h : Nat → Nat → Nat) (n m : Nat) : dSum h (n + 1) m = dSum h n m + dRow (fun i k => h k i) n m := by
 induction m with
 | zero => rfl
 | succ m ih =>
  rw [dSum, ih, dSum, dRow, dRow];omega
theorem zz124 (f : Nat → Nat → Nat) (m : Nat) : ∀ n, dSum (fun i k => f k i) n m = dSum f m n := by
 intro n;induction n with
 | zero =>
  have : ∀ d, dSum (fun i k => f k i) 0 d = 0 := by
   intro d;induction d with
   | zero => rfl
   | succ d ih => rw [dSum, ih]; rfl
  exact this m
 | succ n ih => rw [dSum_col, ih, dSum]
def invF (f : Nat → Nat → Nat) (o : List Int) (i k : Nat) : Nat := if rd o (i : Int) < rd o (k : Int) then f i k else 0
def costO (T : Nat → Nat → Nat) (m : Nat) (o : List Int) : Nat := dSum (invF T o) m m
theorem invF_add (f g : Nat → Nat → Nat) (o : List Int) : invF (fun i k => f i k + g i k) o = fun i k => invF f o i k + invF g o i k := by
 funext i k
 unfold invF;split <;> rfl
theorem inv_one {m : Nat} {a b : List Int} (ha : isW m a) (hb : isW m b) (o : List Int) : dSum (invF (fun i k => if hit a b i k = true then 1 else 0) o) m m = if xo (moveP o a) (moveP o b) = true then 1 else 0 := by
 obtain ⟨a0, a1, rfl, ha0, ha1, ha2, ha3⟩ := ha
 obtain ⟨b0, b1, rfl, hb0, hb1, hb2, hb3⟩ := hb
 obtain ⟨p, rfl⟩ := Int.eq_ofNat_of_zero_le ha2
 obtain ⟨q, rfl⟩ := Int.eq_ofNat_of_zero_le hb2
 have e : invF (fun i k => if hit [a0, (p : Int)] [b0, (q : Int)] i k = true then 1 else 0) o = fun i k => if i = p ∧ k = q ∧ (rd o (p : Int) < rd o (q : Int) ∧ a0 > b0) then 1 else 0 := by
  funext i k
  unfold invF;have hh : (hit [a0, (p : Int)] [b0, (q : Int)] i k = true) ↔ ((p : Int) = i ∧ (q : Int) = k ∧ (p : Int) ≠ q ∧ a0 > b0) := by
   unfold hit;rw [decide_eq_true_eq];exact Iff.rfl
  by_cases c : rd o (i : Int) < rd o (k : Int)
  ·rw [if_pos c]
   refine ite_congr (propext (hh.trans ⟨fun h => ?_, fun h => ?_⟩)) (fun _ => rfl) (fun _ => rfl)
   ·obtain ⟨h1, h2, h3, h4⟩ := h
    refine ⟨by omega, by omega, ?_, h4⟩
    rw [h1, h2];exact c
   ·obtain ⟨h1, h2, h3, h4⟩ := h
    refine ⟨by omega, by omega, fun e => ?_, h4⟩
    rw [e] at h3;omega
  ·rw [if_neg c, if_neg]
   rintro ⟨h1, h2, h3, h4⟩
   rw [h1, h2] at c;exact c h3
 rw [e, dSum_one];refine ite_congr (propext ?_) (fun _ => rfl) (fun _ => rfl)
 unfold xo;rw [decide_eq_true_eq];show _ ↔ (rd o (p : Int) < rd o (q : Int) ∧ a0 > b0)
 exact ⟨fun h => h.2.2, fun h => ⟨by omega, by omega, h⟩⟩
theorem inv_zero (o : List Int) (m : Nat) : dSum (invF (fun _ _ => 0) o) m m = 0 := by
 have : invF (fun _ _ => 0) o = fun _ _ => 0 := by
  funext i k
  unfold invF;split <;> rfl
 rw [this];exact zz118 m m
theorem inv_row {m : Nat} {a : List Int} (ha : isW m a) (o : List Int) (l : List (List Int)) (hl : ∀ w ∈ l, isW m w) : dSum (invF (fun i k => l.countP (fun b => hit a b i k)) o) m m = (l.map (moveP o)).countP (xo (moveP o a)) := by
 induction l with
 | nil => simp only [List.countP_nil]; exact inv_zero o m
 | cons b l ih =>
  simp only [List.map_cons, zz97];rw [invF_add, dSum_add, inv_one ha (hl b (by simp)) o, ih (fun w hw => hl w (by simp [hw]))]
theorem inv_tab {m : Nat} (o : List Int) (l : List (List Int)) (hl : ∀ w ∈ l, isW m w) (p : List (List Int)) (hp : ∀ w ∈ p, isW m w) : dSum (invF (tabP l p) o) m m = xs_ (l.map (moveP o)) (p.map (moveP o)) := by
 induction p with
 | nil => exact inv_zero o m
 | cons a p ih =>
  have e : tabP l (a :: p) = fun i k => l.countP (fun b => hit a b i k) + tabP l p i k := by funext i k; exact zz98 l p a i k
  rw [e, invF_add, dSum_add, inv_row (hp a (by simp)) o l hl]
  show _ + dSum (invF (tabP l p) o) m m = _
  rw [ih (fun w hw => hp w (by simp [hw]))]
  unfold xs_;rw [List.map_cons, List.map_cons, List.sum_cons]
theorem zz132 {m : Nat} (o : List Int) (l : List (List Int)) (hl : ∀ w ∈ l, isW m w) : costO (tabP l l) m o = cntM [] (l.map (moveP o)) := by
 unfold costO;rw [inv_tab o l hl l hl];have := xs_cnt (l.map (moveP o)) []
 rw [List.nil_append] at this;rw [this];exact Nat.zero_add _
theorem zz133 (T : Nat → Nat → Nat) (i d : Nat) : ∀ k, i < k → dRow (fun i k => if i < k then min (T i k) (T k i) else 0) i k + innerB T i k d = dRow (fun i k => if i < k then min (T i k) (T k i) else 0) i (k + d) := by
 induction d with
 | zero => intro k _; rfl
 | succ d ih =>
  intro k h;have := ih (k + 1) (by omega)
  rw [dRow, if_pos h] at this;rw [innerB, show k + (d + 1) = k + 1 + d by omega, ← this]
  omega
theorem zz134 (T : Nat → Nat → Nat) (i : Nat) : ∀ k, k ≤ i + 1 → dRow (fun i k => if i < k then min (T i k) (T k i) else 0) i k = 0 := by
 intro k;induction k with
 | zero => intro _; rfl
 | succ k ih =>
  intro h;rw [dRow, ih (by omega), if_neg (by omega)]
theorem zz135 (T : Nat → Nat → Nat) (m d : Nat) : ∀ i, i + d ≤ m → dSum (fun i k => if i < k then min (T i k) (T k i) else 0) m i + outerB T m i d = dSum (fun i k => if i < k then min (T i k) (T k i) else 0) m (i + d) := by
 induction d with
 | zero => intro i _; rfl
 | succ d ih =>
  intro i h;have h1 := ih (i + 1) (by omega)
  have h2 := zz133 T i (m - (i + 1)) (i + 1) (by omega)
  rw [zz134 T i (i + 1) (Nat.le_refl _), show i + 1 + (m - (i + 1)) = m by omega] at h2
  rw [dSum] at h1;rw [outerB, show i + (d + 1) = i + 1 + d by omega, ← h1]
  omega
theorem zz136 (T : Nat → Nat → Nat) (m : Nat) (o : List Int) (hi : ∀ i k : Nat, i < m → k < m → rd o (i : Int) = rd o (k : Int) → i = k) : outerB T m 0 m ≤ costO T m o := by
 have h1 := zz135 T m m 0 (by omega)
 rw [Nat.zero_add] at h1;have h2 : dSum (fun i k => if i < k then min (T i k) (T k i) else 0) m m + dSum (fun i k => if k < i then min (T k i) (T i k) else 0) m m ≤ dSum (invF T o) m m + dSum (fun i k => invF T o k i) m m := by
  rw [← dSum_add, ← dSum_add];refine zz122 m m (fun i k hi' hk' => ?_)
  have hin := hi i k hi' hk'
  have hin2 := hi k i hk' hi'
  have m1 : min (T i k) (T k i) ≤ T i k := Nat.min_le_left _ _
  have m2 : min (T i k) (T k i) ≤ T k i := Nat.min_le_right _ _
  have m3 : min (T k i) (T i k) ≤ T k i := Nat.min_le_left _ _
  have m4 : min (T k i) (T i k) ≤ T i k := Nat.min_le_right _ _
  unfold invF;rcases Int.lt_trichotomy (rd o (i : Int)) (rd o (k : Int)) with c | c | c
  ·rw [if_pos c, if_neg (show ¬ rd o (k : Int) < rd o (i : Int) by omega)]
   split <;> split <;> omega
  ·have := hin c
   split <;> split <;> omega
  ·rw [if_neg (show ¬ rd o (i : Int) < rd o (k : Int) by omega), if_pos c]
   split <;> split <;> omega
 have h3 := zz124 (fun i k => if i < k then min (T i k) (T k i) else 0) m m
 have h4 := zz124 (invF T o) m m
 have h0 : dSum (fun i k => if i < k then min (T i k) (T k i) else 0) m 0 = 0 := rfl
 unfold costO;omega
def costL (T : Nat → Nat → Nat) : List Int → Nat
 | [] => 0
 | x :: r => (r.map (fun y => T x.toNat y.toNat)).sum + costL T r
theorem zz138 (T : Nat → Nat → Nat) (a b : Int) (r p : List Int) : costL T (p ++ a :: b :: r) + T b.toNat a.toNat = costL T (p ++ b :: a :: r) + T a.toNat b.toNat := by
 induction p with
 | nil =>
  simp only [List.nil_append, costL, List.map_cons, List.sum_cons];omega
 | cons x p ih =>
  simp only [List.cons_append, costL, List.map_append, List.map_cons, List.sum_append, List.sum_cons];omega
def inR (m : Nat) (q : List Int) : Prop := ∀ y ∈ q, 0 ≤ y ∧ y < m
theorem okO_of {m : Nat} (r : List Int) : ∀ p, r.Nodup → (∀ x ∈ r, ¬ x ∈ p) → (∀ x ∈ r, 0 ≤ x ∧ x < m) → okO m p r = true := by
 induction r with
 | nil => intro p _ _ _; rfl
 | cons x r ih =>
  intro p hn hd hb;obtain ⟨h1, h2⟩ := List.nodup_cons.1 hn
  have hx := hb x List.mem_cons_self
  rw [okO, decide_eq_true ⟨hx.1, hx.2, hd x List.mem_cons_self⟩, Bool.true_and];refine ih _ h2 (fun y hy hyp => ?_) (fun y hy => hb y (List.mem_cons_of_mem _ hy))
  rcases List.mem_append.1 hyp with e | e
  ·exact hd y (List.mem_cons_of_mem _ hy) e
  ·rw [List.mem_singleton] at e
   rw [e] at hy;exact h1 hy
theorem okO_inj {m : Nat} (r : List Int) : ∀ p, okO m p r = true → r.Nodup ∧ ∀ x ∈ r, ¬ x ∈ p := by
 induction r with
 | nil => intro p _; exact ⟨List.nodup_nil, fun x hx => by cases hx⟩
 | cons x r ih =>
  intro p h;rw [okO, Bool.and_eq_true, decide_eq_true_eq] at h;obtain ⟨h1, h2⟩ := ih _ h.2
  refine ⟨List.nodup_cons.2 ⟨fun hx => h2 x hx (List.mem_append.2 (.inr List.mem_cons_self)), h1⟩, fun y hy => ?_⟩
  rcases List.mem_cons.1 hy with e | e
  ·rw [e]; exact h.1.2.2
  ·exact fun hyp => h2 y e (List.mem_append.2 (.inl hyp))
theorem pm_has (n : Nat) : ∀ (d : Nat) (l r : List Int), r.length = d → okO n l r = true → l ++ r ∈ Sep.pm n d l := by
 intro d;induction d with
 | zero =>
  intro l r hr _;have : r = [] := List.length_eq_zero_iff.1 hr
  rw [this, List.append_nil];exact List.mem_singleton.2 rfl
 | succ d ih =>
  intro l r hr h;match r, hr, h with
  | [], hr, _ => simp at hr
  | x :: r, hr, h =>
   rw [okO, Bool.and_eq_true, decide_eq_true_eq] at h;obtain ⟨⟨h1, h2, h3⟩, h4⟩ := h
   obtain ⟨i, rfl⟩ := nat_of h1
   rw [Sep.pm, List.mem_flatMap];refine ⟨i, List.mem_range.2 (by omega), ?_⟩
   rw [if_neg h3];have := ih (l ++ [(i : Int)]) r (by simpa using hr) h4
   rw [List.append_assoc] at this;exact this
theorem pm_okO (n : Nat) : ∀ (d : Nat) (l o : List Int), o ∈ Sep.pm n d l → ∃ r, o = l ++ r ∧ r.length = d ∧ okO n l r = true := by
 intro d;induction d with
 | zero =>
  intro l o h;exact ⟨[], by rw [List.append_nil]; exact List.mem_singleton.1 h, rfl, rfl⟩
 | succ d ih =>
  intro l o h;rw [Sep.pm, List.mem_flatMap] at h;obtain ⟨i, hi, h⟩ := h
  split at h
  ·cases h
  ·rename_i hn
   obtain ⟨r, h1, h2, h3⟩ := ih _ _ h
   have := List.mem_range.1 hi
   refine ⟨(i : Int) :: r, by rw [h1]; simp, by simp [h2], ?_⟩
   rw [okO, h3, Bool.and_true];exact decide_eq_true ⟨by omega, by omega, hn⟩
theorem zz144 (m : Nat) : (Sep.iota m).Nodup := by
 unfold Sep.iota;rw [List.Nodup, List.pairwise_map];exact List.Pairwise.imp (fun h => by omega) List.pairwise_lt_range
theorem iota_range {n : Nat} {y : Int} : y ∈ Sep.iota n ↔ 0 ≤ y ∧ y < n := by
 unfold Sep.iota;rw [List.mem_map];constructor
 ·rintro ⟨i, hi, rfl⟩
  have := List.mem_range.1 hi
  omega
 ·rintro ⟨h1, h2⟩
  obtain ⟨i, rfl⟩ := nat_of h1
  exact ⟨i, List.mem_range.2 (by omega), rfl⟩
theorem iota_okO (m : Nat) : okO m [] (Sep.iota m) = true := okO_of _ [] (zz144 m) (fun x _ h => by cases h) (fun x hx => iota_range.1 hx)
theorem iota_rd {m : Nat} {b : Int} (h0 : 0 ≤ b) (h1 : b < m) : rd (Sep.iota m) b = b := by
 obtain ⟨i, rfl⟩ := nat_of h0
 unfold rd Sep.iota;rw [List.getD_eq_getElem?_getD, Int.toNat_natCast, List.getElem?_map, List.getElem?_range (by omega)]
 rfl
theorem zz148 {m : Nat} (l : List (List Int)) (hl : ∀ w ∈ l, isW m w) : l.map (moveP (Sep.iota m)) = l := by
 have : l.map (moveP (Sep.iota m)) = l.map id := by
  refine List.map_congr_left (fun w hw => ?_)
  obtain ⟨a, b, rfl, h1, h2, h3, h4⟩ := hl w hw
  unfold moveP;show [a, rd (Sep.iota m) b] = [a, b]
  rw [iota_rd h3 h4]
 rw [this, List.map_id]
theorem rd_inj {l : List Int} (h : l.Nodup) {i k : Nat} (hi : i < l.length) (hk : k < l.length) (e : rd l (i : Int) = rd l (k : Int)) : i = k := by
 rw [rdN hi, rdN hk] at e;exact (List.getElem_inj h).1 e
theorem set_rd {xs : List Int} {a b v : Int} (ha : 0 ≤ a) (hb : 0 ≤ b) (hl : a < (xs.length : Int)) : rd (xs.set a.toNat v) b = if b = a then v else rd xs b := by
 obtain ⟨i, rfl⟩ := nat_of ha
 obtain ⟨k, rfl⟩ := nat_of hb
 unfold rd;rw [List.getD_eq_getElem?_getD, List.getD_eq_getElem?_getD, Int.toNat_natCast, Int.toNat_natCast, List.getElem?_set];by_cases h : i = k
 ·rw [if_pos h, if_pos (show i < xs.length by omega), if_pos (by omega)]
  rfl
 ·rw [if_neg h, if_neg (by omega)]
theorem zz151 (q : List Int) (hq : q.length ≤ 1000) (hr : inR q.length q) (hn : q.Nodup) (r : List Int) : ∀ (p : List Int) (i : Int) (x : List Int), i = p.length → q = p ++ r → x.length = q.length → (∀ j : Nat, j < p.length → rd x (rd q (j : Int)) = j) →
  ∃ R, R.length = q.length ∧ (∀ j : Nat, j < q.length → rd R (rd q (j : Int)) = j) ∧ Ev (fun k => spec_plOrder.l0 k x q q.length i) R := by
 induction r with
 | nil =>
  intro p i x hi e hx h;have hlen : q.length = p.length := by rw [e]; simp
  refine ⟨x, hx, fun j hj => h j (by omega), ?_⟩
  apply ev_up;simp only [spec_plOrder.l0];exact ev_n (by omega) (Ev.now _)
 | cons y r ih =>
  intro p i x hi e hx h;have hlen : q.length = p.length + r.length + 1 := by rw [e]; simp; omega
  have hy : rd q i = y := by rw [e]; exact rdA hi
  have hyb := hr y (by rw [e]; simp)
  obtain ⟨R, hR, hv, hE⟩ := ih (p ++ [y]) (i + 1) (x.set y.toNat i) (by simp; omega) (by rw [e]; simp) (by simpa using hx) (fun j hj => by
   have hjq := hr (rd q (j : Int)) (rd_mem (by omega) (by rw [List.length_append, List.length_singleton] at hj; omega))
   rw [set_rd hyb.1 hjq.1 (by omega)]
   by_cases c : rd q (j : Int) = y
   ·rw [if_pos c]
    rw [← hy, hi] at c;have := rd_inj hn (by rw [List.length_append, List.length_singleton] at hj; omega) (by omega) c
    omega
   ·rw [if_neg c]
    refine h j ?_
    rw [List.length_append, List.length_singleton] at hj;have : j ≠ p.length := fun e2 => c (by rw [e2, ← hi]; exact hy)
    omega)
  refine ⟨R, hR, hv, ?_⟩
  apply ev_up;simp only [spec_plOrder.l0];refine ev_p (by omega) (ev_p (by omega) (ev_p (by omega) ?_))
  rw [hy, w64 (n := i + 1) (by omega) (by omega)]
  exact ev_p (by omega) (ev_p (by omega) hE)
theorem zz152 {m : Nat} (hm : m ≤ 7) {q : List Int} (hq : q.Perm (Sep.iota m)) : ∃ R, R.length = m ∧ okO m [] R = true ∧ (∀ j : Nat, j < m → rd R (rd q (j : Int)) = j) ∧ Ev (fun k => spec_plOrder.f k q) R := by
 have hl : q.length = m := by rw [hq.length_eq, Sep.iota_length]
 have hn : q.Nodup := hq.nodup_iff.2 (zz144 m)
 have hr : ∀ y ∈ q, 0 ≤ y ∧ y < m := fun y hy => iota_range.1 (hq.mem_iff.1 hy)
 obtain ⟨R, h1, h2, h3⟩ := zz151 q (by omega) (by rw [hl]; exact hr) hn q [] 0 (List.replicate ((q.length : Int)).toNat 0) rfl rfl (by simp) (fun j hj => by simp at hj)
 have key : ∀ k : Nat, k < m → ∃ j : Nat, j < m ∧ rd q (j : Int) = k ∧ rd R (k : Int) = j := by
  intro k hk;obtain ⟨j, hj, e⟩ := List.mem_iff_getElem.1 (hq.mem_iff.2 (iota_range.2 ⟨show (0 : Int) ≤ (k : Int) by omega, by omega⟩))
  have e' : rd q (j : Int) = k := by rw [rdN hj]; exact e
  refine ⟨j, by omega, e', ?_⟩
  rw [← e'];exact h2 j hj
 have hRb : ∀ x ∈ R, 0 ≤ x ∧ x < m := by
  intro x hx;obtain ⟨k, hk, e⟩ := List.mem_iff_getElem.1 hx
  obtain ⟨j, hj, _, e2⟩ := key k (by omega)
  rw [rdN hk, e] at e2;omega
 have hRn : R.Nodup := by
  rw [List.Nodup, List.pairwise_iff_getElem];intro i k hi hk hik e;obtain ⟨j1, _, a1, b1⟩ := key i (by omega)
  obtain ⟨j2, _, a2, b2⟩ := key k (by omega)
  rw [rdN hi] at b1;rw [rdN hk] at b2;have : j1 = j2 := by omega
  rw [this] at a1;omega
 refine ⟨R, by rw [h1, hl], okO_of R [] hRn (fun x _ h => by cases h) hRb, fun j hj => h2 j (by omega), ?_⟩
 unfold spec_plOrder.f;exact ev_p (by omega) (ev_p (by omega) h3)
def sumL (f : Int → Nat) (q : List Int) : Nat := (q.map f).sum
theorem zz154 (f : Int → Nat) (x : Int) (q : List Int) : sumL f (x :: q) = f x + sumL f q := by
 unfold sumL;rw [List.map_cons, List.sum_cons]
theorem zz155 (f : Int → Nat) {p q : List Int} (h : p.Perm q) : sumL f p = sumL f q := (h.map f).sum_nat
theorem sumL_add (f g : Int → Nat) (q : List Int) : sumL (fun x => f x + g x) q = sumL f q + sumL g q := by
 induction q with
 | nil => rfl
 | cons x q ih => rw [zz154, zz154, zz154, ih]; omega
theorem zz157 {f g : Int → Nat} {q : List Int} (h : ∀ x ∈ q, f x = g x) : sumL f q = sumL g q := by
 unfold sumL;rw [List.map_congr_left h]
theorem zz158 (m : Nat) : Sep.iota (m + 1) = Sep.iota m ++ [(m : Int)] := by
 unfold Sep.iota;rw [List.range_succ, List.map_append];rfl
theorem zz159 (f : Int → Nat) (p q : List Int) : sumL f (p ++ q) = sumL f p + sumL f q := by
 unfold sumL;rw [List.map_append, List.sum_append]
theorem zz160 (h : Int → Int → Nat) (i m : Nat) : dRow (fun i k => h i k) i m = sumL (h i) (Sep.iota m) := by
 induction m with
 | zero => rfl
 | succ m ih =>
  rw [dRow, zz158, zz159, ih];rfl
theorem zz161 (h : Int → Int → Nat) (m d : Nat) : dSum (fun i k => h i k) m d = sumL (fun x => sumL (h x) (Sep.iota m)) (Sep.iota d) := by
 induction d with
 | zero => rfl
 | succ d ih =>
  rw [dSum, zz158, zz159, ih, zz160];rfl
theorem sum_cost (T : Nat → Nat → Nat) (R q : List Int) (hp : q.Pairwise (fun x y => rd R x < rd R y)) : sumL (fun x => sumL (fun y => if rd R x < rd R y then T x.toNat y.toNat else 0) q) q = costL T q := by
 induction q with
 | nil => rfl
 | cons x q ih =>
  obtain ⟨h1, h2⟩ := List.pairwise_cons.1 hp
  have e1 : (fun z => sumL (fun y => if rd R z < rd R y then T z.toNat y.toNat else 0) (x :: q)) = fun z => (if rd R z < rd R x then T z.toNat x.toNat else 0) + sumL (fun y => if rd R z < rd R y then T z.toNat y.toNat else 0) q := by
   funext z
   rw [zz154]
  rw [e1, sumL_add, zz154, zz154, ih h2, if_neg (by omega), costL]
  have e2 : sumL (fun z => if rd R z < rd R x then T z.toNat x.toNat else 0) q = sumL (fun _ => 0) q := zz157 (fun z hz => by rw [if_neg (by have := h1 z hz; omega)])
  have e3 : sumL (fun y => if rd R x < rd R y then T x.toNat y.toNat else 0) q = sumL (fun y => T x.toNat y.toNat) q := zz157 (fun z hz => by rw [if_pos (h1 z hz)])
  have e4 : ∀ q : List Int, sumL (fun _ => 0) q = 0 := by
   intro q;induction q with
   | nil => rfl
   | cons z q ih => rw [zz154, ih]
  rw [e2, e3, e4];unfold sumL;omega
theorem zz163 {m : Nat} (T : Nat → Nat → Nat) {q R : List Int} (hq : q.Perm (Sep.iota m)) (hR : ∀ j : Nat, j < m → rd R (rd q (j : Int)) = j) : costO T m R = costL T q := by
 have hl : q.length = m := by rw [hq.length_eq, Sep.iota_length]
 have hp : q.Pairwise (fun x y => rd R x < rd R y) := by
  rw [List.pairwise_iff_getElem];intro i k hi hk hik;have h1 := hR i (by omega)
  have h2 := hR k (by omega)
  rw [rdN hi] at h1;rw [rdN hk] at h2;omega
 rw [← sum_cost T R q hp];have e := zz161 (fun x y => if rd R x < rd R y then T x.toNat y.toNat else 0) m m
 have e0 : costO T m R = dSum (fun i k : Nat => if rd R (i : Int) < rd R (k : Int) then T ((i : Int)).toNat ((k : Int)).toNat else 0) m m := rfl
 rw [e0, e, ← zz155 _ hq];exact zz157 (fun x _ => (zz155 _ hq).symm)
theorem zz164 (k : Nat) : ∀ x q n i, impl_placesOf.l0 k x q n i = spec_plOrder.l0 k x q n i := by
 induction k with
 | zero => intro x q n i; rfl
 | succ k ih =>
  intro x q n i;simp only [impl_placesOf.l0, spec_plOrder.l0, ih]
theorem zz165 (k : Nat) (q : List Int) : impl_placesOf.f k q = spec_plOrder.f k q := by
 unfold impl_placesOf.f spec_plOrder.f;simp only [zz164]
theorem zz166 (k : Nat) : (∀ m T q f, impl_SwappedOrder.l1 k m T q f = spec_SwappedOrder.l1 k m T q f) ∧ (∀ m T q f i, impl_SwappedOrder.l2 k m T q f i = spec_SwappedOrder.l2 k m T q f i) := by
 induction k with
 | zero => exact ⟨fun _ _ _ _ => rfl, fun _ _ _ _ _ => rfl⟩
 | succ k ih =>
  constructor
  ·intro m T q f
   simp only [impl_SwappedOrder.l1, spec_SwappedOrder.l1, ih.2, zz165]
  ·intro m T q f i
   simp only [impl_SwappedOrder.l2, spec_SwappedOrder.l2, ih.1, ih.2]
theorem zz167 (k : Nat) : ∀ m T q i, impl_SwappedOrder.l0 k m T q i = spec_SwappedOrder.l0 k m T q i := by
 induction k with
 | zero => intro m T q i; rfl
 | succ k ih =>
  intro m T q i;simp only [impl_SwappedOrder.l0, spec_SwappedOrder.l0, ih, (zz166 k).1]
theorem zz168 (m : Nat) (hm : m ≤ 7) (l : List (List Int)) (hl : l.length ≤ 30) (i : Nat) (hi : i < m) (acc : List (List Int)) (a : List Int) (ha : isW m a) (xs : List (List Int)) (e j : Int) (res : List (List Int)) (r : List (List Int)) : ∀ (q : List (List Int)) (f : Nat → Nat) (n : Int), n = q.length → l = q ++ r → (∀ w ∈ r, isW m w) → (∀ k, f k + r.length ≤ 100000) →
  Ev (fun k => spec_plTable.l1 k l m acc i (mkRow m (fun k => f k + r.countP (fun b => hit a b i k))) xs e (wrap64 (j + 1))) res → Ev (fun k => spec_plTable.l2 k l m acc i (mkRow m f) a xs e j l l.length n) res := by
 induction r with
 | nil =>
  intro q f n hn el hw hT hk;have hlen : l.length = q.length := by rw [el]; simp
  apply ev_up;simp only [spec_plTable.l2];refine ev_n (by omega) ?_
  simpa using hk
 | cons b r ih =>
  intro q f n hn el hw hT hk;have hlen : l.length = q.length + r.length + 1 := by rw [el]; simp; omega
  have hr : rd_L4 l n = b := by rw [el]; exact rdIIA hn
  simp only [List.length_cons] at hT;obtain ⟨a0, a1, rfl, ha0, ha1, ha2, ha3⟩ := ha
  obtain ⟨b0, b1, rfl, hb0, hb1, hb2, hb3⟩ := hw b (by simp)
  obtain ⟨na, rfl⟩ := nat_of ha2
  obtain ⟨nb, rfl⟩ := nat_of hb2
  have ea0 : rd [a0, (na : Int)] 0 = a0 := rfl
  have ea1 : rd [a0, (na : Int)] 1 = na := rfl
  have eb0 : rd [b0, (nb : Int)] 0 = b0 := rfl
  have eb1 : rd [b0, (nb : Int)] 1 = nb := rfl
  have skip : (∀ k, hit [a0, (na : Int)] [b0, (nb : Int)] i k = false) → Ev (fun k => spec_plTable.l2 k l m acc i (mkRow m f) [a0, (na : Int)] xs e j l l.length (n + 1)) res := fun hf => by
   refine ih (q ++ [[b0, (nb : Int)]]) f (n + 1) (by simp; omega) (by rw [el]; simp) (fun w h => hw w (by simp [h])) (fun k => by have := hT k; omega) ?_
   simpa [hf] using hk
  apply ev_up;simp only [spec_plTable.l2];refine ev_p (by omega) (ev_p (by omega) (ev_p (by omega) (ev_p (by simp) ?_)))
  rw [hr, ea0, ea1, eb0, eb1, w64 (n := n + 1) (by omega) (by omega)]
  refine ev_ite (fun h0 => ev_p (by simp) (ev_ite (fun h1 => ?_) (fun h1 => ?_))) (fun h0 => ?_)
  ·exact skip (fun k => decide_eq_false (fun hh => hh.2.2.1 (by rw [ea1, eb1]; omega)))
  ·refine ev_p (by simp) (ev_p (by simp) (ev_ite (fun h2 => ?_) (fun h2 => ?_)))
   ·have hnb : nb < m := by omega
    refine ev_p (by omega) (ev_p (by rw [zz80]; omega) ?_)
    rw [mkRow_rd hnb, wN (n := ((f nb : Nat) : Int) + 1) (m := f nb + 1) (by omega) (by have := hT nb; omega), Int.toNat_natCast, zz84 hnb]
    refine ih (q ++ [[b0, (nb : Int)]]) _ (n + 1) (by simp; omega) (by rw [el]; simp) (fun w h => hw w (by simp [h])) (fun k => ?_) ?_
    ·have h3 := hT k
     have h4 := hT nb
     by_cases ek : k = nb
     ·simp only [if_pos ek]; omega
     ·simp only [if_neg ek]; omega
    ·have : mkRow m (fun k => (if k = nb then f nb + 1 else f k) + r.countP (fun b => hit [a0, (na : Int)] b i k)) = mkRow m (fun k => f k + ([b0, (nb : Int)] :: r).countP (fun b => hit [a0, (na : Int)] b i k)) := by
      apply zz87
      intro k _;rw [List.countP_cons];have eh : hit [a0, (na : Int)] [b0, (nb : Int)] i k = decide (k = nb) := by
       unfold hit;rw [ea0, ea1, eb0, eb1];exact decide_eq_decide.2 ⟨fun h => by omega, fun h => ⟨by omega, by omega, by omega, h2⟩⟩
      rw [eh];by_cases ek : k = nb
      ·simp [ek]; omega
      ·simp [ek]
     rw [this];exact hk
   ·exact skip (fun k => decide_eq_false (fun hh => h2 (by have := hh.2.2.2; rw [ea0, eb0] at this; exact this)))
  ·exact skip (fun k => decide_eq_false (fun hh => h0 (by rw [ea1] at hh; exact hh.1)))
theorem zz169 (m : Nat) (hm : m ≤ 7) (l : List (List Int)) (hl : l.length ≤ 30) (hw : ∀ w ∈ l, isW m w) (i : Nat) (hi : i < m) (acc : List (List Int)) (hacc : acc.length ≤ 7) (res : List (List Int)) (r : List (List Int)) : ∀ (p : List (List Int)) (n : Int), n = p.length → l = p ++ r →
  Ev (fun k => spec_plTable.l0 k l m (acc ++ [mkRow m (tabP l l i)]) (wrap64 ((i : Int) + 1))) res → Ev (fun k => spec_plTable.l1 k l m acc i (mkRow m (tabP l p i)) l l.length n) res := by
 induction r with
 | nil =>
  intro p n hn e hk;have hlen : l.length = p.length := by rw [e]; simp
  have hp : l = p := by rw [e]; simp
  apply ev_up;simp only [spec_plTable.l1];rw [← hp];exact ev_n (by omega) (ev_p (by omega) hk)
 | cons a r ih =>
  intro p n hn e hk;have hlen : l.length = p.length + r.length + 1 := by rw [e]; simp; omega
  have hr : rd_L4 l n = a := by rw [e]; exact rdIIA hn
  apply ev_up;simp only [spec_plTable.l1];refine ev_p (by omega) (ev_p (by omega) (ev_p (by omega) ?_))
  rw [hr];refine zz168 m hm l hl i hi acc a (hw a (by rw [e]; simp)) l l.length n _ l [] (tabP l p i) 0 rfl rfl hw (fun k => ?_) ?_
  ·have h1 := tabP_le l p i k
   have h2 : p.length * l.length ≤ 30 * 30 := Nat.mul_le_mul (by omega) hl
   omega
  ·rw [w64 (n := n + 1) (by omega) (by omega)]
   have := ih (p ++ [a]) (n + 1) (by simp; omega) (by rw [e]; simp) hk
   have e2 : tabP l (p ++ [a]) i = fun k => tabP l p i k + l.countP (fun b => hit a b i k) := by
    funext k
    exact zz91 l p a i k
   rw [e2] at this;exact this
theorem zz170 (m : Nat) (hm : m ≤ 7) (l : List (List Int)) (hl : l.length ≤ 30) (hw : ∀ w ∈ l, isW m w) (d : Nat) : ∀ (i : Nat), i + d = m →
  Ev (fun k => spec_plTable.l0 k l m ((List.range i).map (fun i => mkRow m (tabP l l i))) i) (tabM l m) := by
 induction d with
 | zero =>
  intro i hi;apply ev_up;simp only [spec_plTable.l0];have e : i = m := by omega
  subst e;exact ev_n (by omega) (Ev.now _)
 | succ d ih =>
  intro i hi;apply ev_up;simp only [spec_plTable.l0];refine ev_p (by omega) (ev_p (by omega) (ev_p (by omega) ?_))
  have e0 : List.replicate ((m : Int)).toNat (0 : Int) = mkRow m (tabP l [] i) := by
   have e1 : mkRow m (tabP l [] i) = (List.range m).map (fun _ => (0 : Int)) := rfl
   rw [e1, List.map_const', List.length_range, Int.toNat_natCast]
  rw [e0];refine zz169 m hm l hl hw i (by omega) _ (by simp; omega) _ l [] 0 rfl rfl ?_
  rw [wN (n := (i : Int) + 1) (m := i + 1) (by omega) (by omega)]
  have := ih (i + 1) (by omega)
  rw [List.range_succ, List.map_append] at this;exact this
theorem zz171 (m : Nat) (hm : m ≤ 7) (l : List (List Int)) (hl : l.length ≤ 30) (hw : ∀ w ∈ l, isW m w) : Ev (fun k => spec_plTable.f k l m) (tabM l m) := by
 unfold spec_plTable.f;exact zz170 m hm l hl hw m 0 (by omega)
theorem zz172 (m : Nat) (hm : m ≤ 7) (l : List (List Int)) (hl : l.length ≤ 30) (a : List Int) (ha : isW m a) (xs : List (List Int)) (e j : Int) (res : List (List Int)) (r : List (List Int)) : ∀ (q : List (List Int)) (T : Nat → Nat → Nat) (i : Int), i = q.length → l = q ++ r → (∀ w ∈ r, isW m w) → (∀ i k, T i k + r.length ≤ 100000) →
  Ev (fun k => impl_crossingTable.l1 k l (mkT m (fun i k => T i k + r.countP (fun b => hit a b i k))) xs e (wrap64 (j + 1))) res → Ev (fun k => impl_crossingTable.l2 k l (mkT m T) a xs e j l l.length i) res := by
 induction r with
 | nil =>
  intro q T i hi el hw hT hk;have hlen : l.length = q.length := by rw [el]; simp
  apply ev_up;simp only [impl_crossingTable.l2];refine ev_n (by omega) ?_
  simpa using hk
 | cons b r ih =>
  intro q T i hi el hw hT hk;have hlen : l.length = q.length + r.length + 1 := by rw [el]; simp; omega
  have hr : rd_L4 l i = b := by rw [el]; exact rdIIA hi
  simp only [List.length_cons] at hT;obtain ⟨a0, a1, rfl, ha0, ha1, ha2, ha3⟩ := ha
  obtain ⟨b0, b1, rfl, hb0, hb1, hb2, hb3⟩ := hw b (by simp)
  obtain ⟨na, rfl⟩ := nat_of ha2
  obtain ⟨nb, rfl⟩ := nat_of hb2
  have ea0 : rd [a0, (na : Int)] 0 = a0 := rfl
  have ea1 : rd [a0, (na : Int)] 1 = na := rfl
  have eb0 : rd [b0, (nb : Int)] 0 = b0 := rfl
  have eb1 : rd [b0, (nb : Int)] 1 = nb := rfl
  have skip : (∀ i k, hit [a0, (na : Int)] [b0, (nb : Int)] i k = false) → Ev (fun k => impl_crossingTable.l2 k l (mkT m T) [a0, (na : Int)] xs e j l l.length (i + 1)) res := fun hf => by
   refine ih (q ++ [[b0, (nb : Int)]]) T (i + 1) (by simp; omega) (by rw [el]; simp) (fun w h => hw w (by simp [h])) (fun i k => by have := hT i k; omega) ?_
   simpa [hf] using hk
  apply ev_up;simp only [impl_crossingTable.l2];refine ev_p (by omega) (ev_p (by omega) (ev_p (by omega) (ev_p (by simp) ?_)))
  rw [hr];refine ev_p (by simp) ?_
  rw [ea0, ea1, eb0, eb1, w64 (n := i + 1) (by omega) (by omega)]
  refine ev_ite (fun h1 => ?_) (fun h1 => ?_)
  ·exact skip (fun i k => decide_eq_false (fun hh => hh.2.2.1 (by rw [ea1, eb1]; exact h1)))
  ·refine ev_p (by simp) (ev_p (by simp) (ev_ite (fun h2 => ?_) (fun h2 => ?_)))
   ·have hna : na < m := by omega
    have hnb : nb < m := by omega
    refine ev_p (by omega) (ev_p (by rw [zz81]; omega) (ev_p (by omega) ?_))
    rw [mkT_rd hna];refine ev_p (by rw [zz80]; omega) ?_
    rw [mkRow_rd hnb, wN (n := ((T na nb : Nat) : Int) + 1) (m := T na nb + 1) (by omega) (by have := hT na nb; omega), Int.toNat_natCast, Int.toNat_natCast, zz84 hnb, mkT_set hna]
    refine ih (q ++ [[b0, (nb : Int)]]) _ (i + 1) (by simp; omega) (by rw [el]; simp) (fun w h => hw w (by simp [h])) (fun i k => ?_) ?_
    ·have h3 := hT i k
     have h4 := hT na nb
     by_cases ei : i = na
     ·subst ei
      simp only [if_true];by_cases ek : k = nb
      ·rw [if_pos ek]; omega
      ·rw [if_neg ek]; omega
     ·simp only [if_neg ei]
      omega
    ·refine ev_eq (r := res) ?_ rfl
     have : mkT m (fun i k => (if i = na then fun j => if j = nb then T na nb + 1 else T na j else T i) k + r.countP (fun b => hit [a0, (na : Int)] b i k)) = mkT m (fun i k => T i k + ([b0, (nb : Int)] :: r).countP (fun b => hit [a0, (na : Int)] b i k)) := by
      apply zz86
      intro i k _ _;rw [List.countP_cons];have eh : hit [a0, (na : Int)] [b0, (nb : Int)] i k = decide (i = na ∧ k = nb) := by
       unfold hit;rw [ea0, ea1, eb0, eb1];exact decide_eq_decide.2 ⟨fun h => ⟨by omega, by omega⟩, fun h => ⟨by omega, by omega, h1, h2⟩⟩
      rw [eh];by_cases ei : i = na
      ·subst ei
       simp only [if_true];by_cases ek : k = nb
       ·simp [ek]; omega
       ·simp [ek]
      ·simp [ei]
     rw [this];exact hk
   ·exact skip (fun i k => decide_eq_false (fun hh => h2 (by have := hh.2.2.2; rw [ea0, eb0] at this; exact this)))
theorem zz173 (m : Nat) (hm : m ≤ 7) (l : List (List Int)) (hl : l.length ≤ 30) (hw : ∀ w ∈ l, isW m w) (r : List (List Int)) : ∀ (p : List (List Int)) (i : Int), i = p.length → l = p ++ r →
  Ev (fun k => impl_crossingTable.l1 k l (mkT m (tabP l p)) l l.length i) (tabM l m) := by
 induction r with
 | nil =>
  intro p i hi e;have hlen : l.length = p.length := by rw [e]; simp
  have hp : l = p := by rw [e]; simp
  apply ev_up;simp only [impl_crossingTable.l1];rw [← hp];exact ev_n (by omega) (Ev.now _)
 | cons a r ih =>
  intro p i hi e;have hlen : l.length = p.length + r.length + 1 := by rw [e]; simp; omega
  have hr : rd_L4 l i = a := by rw [e]; exact rdIIA hi
  apply ev_up;simp only [impl_crossingTable.l1];refine ev_p (by omega) (ev_p (by omega) (ev_p (by omega) ?_))
  rw [hr];refine zz172 m hm l hl a (hw a (by rw [e]; simp)) l l.length i _ l [] (tabP l p) 0 rfl rfl hw (fun i k => ?_) ?_
  ·have h1 := tabP_le l p i k
   have h2 : p.length * l.length ≤ 30 * 30 := Nat.mul_le_mul (by omega) hl
   omega
  ·rw [w64 (n := i + 1) (by omega) (by omega)]
   have := ih (p ++ [a]) (i + 1) (by simp; omega) (by rw [e]; simp)
   have e2 : tabP l (p ++ [a]) = fun i k => tabP l p i k + l.countP (fun b => hit a b i k) := by
    funext i k
    exact zz91 l p a i k
   rw [e2] at this;exact this
theorem zz174 (m : Nat) (hm : m ≤ 7) (l : List (List Int)) (hl : l.length ≤ 30) (hw : ∀ w ∈ l, isW m w) (d : Nat) : ∀ (i : Nat), i + d = m →
  Ev (fun k => impl_crossingTable.l0 k l m (List.replicate i (List.replicate m 0) ++ List.replicate d []) m i) (tabM l m) := by
 induction d with
 | zero =>
  intro i hi;apply ev_up;simp only [impl_crossingTable.l0];refine ev_n (by omega) ?_
  have := zz173 m hm l hl hw l [] 0 rfl rfl
  have e : mkT m (tabP l []) = List.replicate i (List.replicate m 0) ++ List.replicate 0 [] := by
   have e1 : mkT m (tabP l []) = (List.range m).map (fun _ => (List.range m).map (fun _ => (0 : Int))) := rfl
   rw [e1, List.map_const', List.map_const', List.length_range, List.replicate_zero, List.append_nil, show i = m by omega]
  rw [← e];exact this
 | succ d ih =>
  intro i hi;apply ev_up;simp only [impl_crossingTable.l0];refine ev_p (by omega) (ev_p (by omega) (ev_p (by omega) (ev_p (by omega) (ev_p (by simp; omega) ?_))))
  rw [List.replicate_succ, setA (by simp), Int.toNat_natCast, wN (m := i + 1) (by omega) (by omega)]
  have := ih (i + 1) (by omega)
  rw [List.replicate_succ'] at this;simpa using this
theorem zz175 (m : Nat) (hm : m ≤ 7) (l : List (List Int)) (hl : l.length ≤ 30) (hw : ∀ w ∈ l, isW m w) : Ev (fun k => impl_crossingTable.f k l m) (tabM l m) := by
 unfold impl_crossingTable.f;refine ev_p (by omega) (ev_p (by omega) (Ev.bind (ev_c rfl) ?_))
 rw [Int.toNat_natCast, List.length_replicate];exact zz174 m hm l hl hw m 0 (by omega)
theorem zz176 (l : List (List Int)) (m : Int) (hm : I64 m) (hl : l.length ≤ 9223372036854775807) (r : List (List Int)) : ∀ (p : List (List Int)) (i : Int), i = p.length → l = p ++ r →
  Ev (fun k => spec_plWires.l0 k l m l l.length i) (decide (1 ≤ m ∧ m ≤ 7 ∧ l.length ≤ 30) && r.all (goodW m)) := by
 unfold I64 at hm;induction r with
 | nil =>
  intro p i hi e;have hlen : l.length = p.length := by rw [e]; simp
  apply ev_up;simp only [spec_plWires.l0];refine ev_n (by omega) ?_
  refine ev_ite (fun h => ?_) (fun h => ?_)
  ·rw [l1In_eq]
   refine Ev.bind (ev_c rfl) ?_
   refine ev_eq (Ev.now _) ?_
   rw [List.all_nil, Bool.and_true];exact decide_eq_decide.2 ⟨fun hh => ⟨hh.1, hh.2, by omega⟩, fun hh => ⟨hh.1, hh.2.1⟩⟩
  ·refine ev_eq (Ev.now _) ?_
   rw [List.all_nil, Bool.and_true];exact (decide_eq_false (fun hh => h (by omega))).symm
 | cons x r ih =>
  intro p i hi e;have hlen : l.length = p.length + r.length + 1 := by rw [e]; simp; omega
  have hx : rd_L4 l i = x := by rw [e]; exact rdIIA hi
  have ih' := ih (p ++ [x]) (i + 1) (by simp; omega) (by rw [e]; simp)
  apply ev_up;simp only [spec_plWires.l0];refine ev_p (by omega) (ev_p (by omega) (ev_p (by omega) ?_))
  rw [hx];refine ev_ite (fun h2 => ?_) (fun h2 => ?_)
  ·obtain ⟨a, b, rfl⟩ := two_of (w := x) (by omega)
   refine ev_p (by simp) ?_
   rw [l1In_eq];refine Ev.bind (ev_c rfl) ?_
   have e0 : rd [a, b] 0 = a := rfl
   have e1 : rd [a, b] 1 = b := rfl
   rw [e0, e1];refine ev_ite (fun ha => ?_) (fun ha => ?_)
   ·have ha' := of_decide_eq_true ha
    refine ev_p (by simp) ?_
    rw [l1In_eq];refine Ev.bind (ev_c rfl) ?_
    refine ev_ite (fun hb => ?_) (fun hb => ?_)
    ·have hb' := of_decide_eq_true hb
     rw [w64 (by omega) (by omega)]
     refine ev_eq ih' ?_
     by_cases h1 : 1 ≤ m
     ·rw [w64 (by omega) (by omega)] at hb'
      have : goodW m [a, b] = true := by simp [goodW]; omega
      simp [this]
     ·have : decide (1 ≤ m ∧ m ≤ 7 ∧ l.length ≤ 30) = false := decide_eq_false (fun h => h1 h.1)
      simp [this]
    ·refine ev_eq (Ev.now _) ?_
     by_cases h1 : 1 ≤ m
     ·rw [w64 (by omega) (by omega)] at hb
      have : goodW m [a, b] = false := by
       simp only [goodW];exact decide_eq_false (fun h => hb (decide_eq_true (by omega)))
      simp [this]
     ·have : decide (1 ≤ m ∧ m ≤ 7 ∧ l.length ≤ 30) = false := decide_eq_false (fun h => h1 h.1)
      simp [this]
   ·refine ev_eq (Ev.now _) ?_
    have : goodW m [a, b] = false := by
     simp only [goodW];exact decide_eq_false (fun h => ha (decide_eq_true (by omega)))
    simp [this]
  ·refine ev_eq (Ev.now _) ?_
   have : goodW m x = false := zz69 (by omega)
   simp [this]
theorem zz177 (l : List (List Int)) (m : Int) (hm : I64 m) (hl : l.length ≤ 9223372036854775807) : Ev (fun k => spec_plWires.f k l m) (zz68 l m) := by
 unfold spec_plWires.f zz68;exact zz176 l m hm hl l [] 0 rfl rfl
theorem zz178 (l : List (List Int)) (m : Int) (hl : l.length ≤ 9223372036854775807) (r : List (List Int)) : ∀ (p : List (List Int)) (i : Int), i = p.length → l = p ++ r →
  Ev (fun k => impl_AreLevelWires.l0 k m l l.length i) (r.all (goodW m)) := by
 induction r with
 | nil =>
  intro p i hi e;have hlen : l.length = p.length := by rw [e]; simp
  apply ev_up;simp only [impl_AreLevelWires.l0];exact ev_n (by omega) (Ev.now _)
 | cons x r ih =>
  intro p i hi e;have hlen : l.length = p.length + r.length + 1 := by rw [e]; simp; omega
  have hx : rd_L4 l i = x := by rw [e]; exact rdIIA hi
  have ih' := ih (p ++ [x]) (i + 1) (by simp; omega) (by rw [e]; simp)
  apply ev_up;simp only [impl_AreLevelWires.l0];refine ev_p (by omega) (ev_p (by omega) (ev_p (by omega) ?_))
  rw [hx];refine ev_ite (fun h2 => ?_) (fun h2 => ?_)
  ·obtain ⟨a, b, rfl⟩ := two_of (w := x) (by omega)
   have e0 : rd [a, b] 0 = a := rfl
   have e1 : rd [a, b] 1 = b := rfl
   rw [e0, e1];refine ev_p (by simp) ?_
   by_cases hg : goodW m [a, b] = true
   ·have hg' := hg
    simp only [goodW, decide_eq_true_eq] at hg'
    refine ev_n (by omega) (ev_n (by omega) (ev_p (by simp) (ev_n (by omega) (ev_n (by omega) ?_))))
    rw [w64 (by omega) (by omega)]
    refine ev_eq ih' ?_
    simp [hg]
   ·have hf : goodW m [a, b] = false := by simpa using hg
    have er : false = (([a, b] :: r).all (goodW m)) := by simp [hf]
    rw [← er];refine ev_ite (fun _ => Ev.now _) (fun c1 => ev_ite (fun _ => Ev.now _) (fun c2 => ev_p (by simp) (ev_ite (fun _ => Ev.now _) (fun c3 => ev_ite (fun _ => Ev.now _) (fun c4 => ?_)))))
    exact absurd (by simp only [goodW]; exact decide_eq_true (by omega)) hg
  ·refine ev_eq (Ev.now _) ?_
   have : goodW m x = false := zz69 (by omega)
   simp [this]
theorem zz179 (l : List (List Int)) (m : Int) (hl : l.length ≤ 9223372036854775807) : Ev (fun k => impl_AreLevelWires.f k l m) (zz68 l m) := by
 have h0 := zz178 l m hl l [] 0 rfl rfl
 unfold impl_AreLevelWires.f zz68;refine ev_ite (fun h1 => ?_) (fun h1 => ev_ite (fun h2 => ?_) (fun h2 => ?_))
 ·apply ev_up
  simp only [impl_AreLevelWires.j0];refine ev_p (by simp) (ev_eq (Ev.now _) ?_)
  rw [decide_eq_false (by omega), Bool.false_and]
 ·apply ev_up
  simp only [impl_AreLevelWires.j0];refine ev_p (by simp) (ev_eq (Ev.now _) ?_)
  rw [decide_eq_false (by omega), Bool.false_and]
 ·apply ev_up
  simp only [impl_AreLevelWires.j0];refine ev_ite (fun h3 => ?_) (fun h3 => ?_)
  ·have h3' := of_decide_eq_true h3
   refine ev_eq (Ev.now _) ?_
   rw [decide_eq_false (by omega), Bool.false_and]
  ·have h3' : ¬ (l.length : Int) > 30 := fun h => h3 (decide_eq_true h)
   refine ev_eq h0 ?_
   rw [decide_eq_true (by omega), Bool.true_and]
theorem swap_l2 (m : Nat) (hm : m ≤ 7) (T : Nat → Nat → Nat) (s : List Int) : ∀ (p : List Int) (a : Int) (flag : Bool), (p ++ a :: s).length = m → inR m (p ++ a :: s) →
  ∃ q flag', q.length = m ∧ q.Perm (p ++ a :: s) ∧ costL T q ≤ costL T (p ++ a :: s) ∧ (flag' = true → flag = true ∨ costL T q < costL T (p ++ a :: s)) ∧ ∀ R, Ev (fun k => spec_SwappedOrder.l1 k m (mkT m T) q flag') R → Ev (fun k => spec_SwappedOrder.l2 k m (mkT m T) (p ++ a :: s) flag ((p.length + 1 : Nat) : Int)) R := by
 induction s with
 | nil =>
  intro p a flag hl hr;refine ⟨_, flag, hl, List.Perm.refl _, Nat.le_refl _, fun h => Or.inl h, fun R h => ?_⟩
  have : m = p.length + 1 := by rw [← hl]; simp
  apply ev_up;simp only [spec_SwappedOrder.l2];exact ev_n (by omega) h
 | cons b r ih =>
  intro p a flag hl hr;have hlen : m = p.length + r.length + 2 := by rw [← hl]; simp; omega
  have hra := hr a (by simp)
  have hrb := hr b (by simp)
  obtain ⟨x, rfl⟩ := nat_of hra.1
  obtain ⟨y, rfl⟩ := nat_of hrb.1
  have hx : x < m := by omega
  have hy : y < m := by omega
  have e1 : wrap64 (((p.length + 1 : Nat) : Int) - 1) = (p.length : Int) := wN (by omega) (by omega)
  have e2 : wrap64 (((p.length + 1 : Nat) : Int) + 1) = (((p ++ [(0 : Int)]).length + 1 : Nat) : Int) := wN (by simp) (by simp; omega)
  have ra : rd (p ++ (x : Int) :: (y : Int) :: r) (p.length : Int) = x := rdA rfl
  have rb : rd (p ++ (x : Int) :: (y : Int) :: r) ((p.length + 1 : Nat) : Int) = y := by
   rw [show p ++ (x : Int) :: (y : Int) :: r = (p ++ [(x : Int)]) ++ (y : Int) :: r by simp]
   exact rdA (by simp)
  have walk : ∀ (R : List Int × Bool), Ev (fun k => if ((T y x : Nat) : Int) < ((T x y : Nat) : Int) then spec_SwappedOrder.l2 k m (mkT m T) ((p ++ [(y : Int)]) ++ (x : Int) :: r) true (((p ++ [(0 : Int)]).length + 1 : Nat) : Int) else spec_SwappedOrder.l2 k m (mkT m T) (p ++ (x : Int) :: (y : Int) :: r) flag (((p ++ [(0 : Int)]).length + 1 : Nat) : Int)) R →
    Ev (fun k => spec_SwappedOrder.l2 k m (mkT m T) (p ++ (x : Int) :: (y : Int) :: r) flag ((p.length + 1 : Nat) : Int)) R := fun R h => by
   apply ev_up;simp only [spec_SwappedOrder.l2];rw [e1, e2, ra, rb, mkT_rd hx, mkT_rd hy, mkRow_rd hx, mkRow_rd hy, zz80, zz80, zz81];have es : ((p ++ (x : Int) :: (y : Int) :: r).set ((p.length : Int)).toNat (y : Int)).set (((p.length + 1 : Nat) : Int)).toNat (x : Int) = (p ++ [(y : Int)]) ++ (x : Int) :: r := by
    rw [setA rfl, setA (by simp)]
    simp
   rw [es];exact ev_p (by omega) (ev_p (by omega) (ev_p (by simp; omega) (ev_p (by omega) (ev_p (by simp; omega) (ev_p (by omega) (ev_p (by omega) (ev_p (by omega) (ev_p (by omega) (ev_p (by omega) (ev_p (by omega) h))))))))))
  have hcs := zz138 T (x : Int) (y : Int) r p
  simp only [Int.toNat_natCast] at hcs;by_cases c : T y x < T x y
  ·obtain ⟨q, f', h1, h2, h3, h4, h5⟩ := ih (p ++ [(y : Int)]) (x : Int) true (by rw [← hl]; simp) (fun z hz => hr z (by simp only [List.mem_append, List.mem_cons, List.not_mem_nil, or_false] at hz ⊢; rcases hz with (h | h) | h | h <;> simp [h]))
   have ec : costL T (p ++ [(y : Int)] ++ (x : Int) :: r) = costL T (p ++ (y : Int) :: (x : Int) :: r) := by simp
   refine ⟨q, f', h1, h2.trans (by rw [List.append_assoc]; exact List.Perm.append_left p (List.Perm.swap _ _ r)), by omega, fun _ => Or.inr (by omega), fun R h => walk R (ev_p (by omega) ?_)⟩
   have := h5 R h
   rw [show (p ++ [(y : Int)]).length = (p ++ [(0 : Int)]).length by simp] at this
   exact this
  ·obtain ⟨q, f', h1, h2, h3, h4, h5⟩ := ih (p ++ [(x : Int)]) (y : Int) flag (by rw [← hl]; simp) (fun z hz => hr z (by simp only [List.mem_append, List.mem_cons, List.not_mem_nil, or_false] at hz ⊢; rcases hz with (h | h) | h | h <;> simp [h]))
   have ec : costL T (p ++ [(x : Int)] ++ (y : Int) :: r) = costL T (p ++ (x : Int) :: (y : Int) :: r) := by simp
   refine ⟨q, f', h1, h2.trans (by rw [List.append_assoc]; exact List.Perm.refl _), by omega, fun hf => (h4 hf).imp id (fun hh => by omega), fun R h => walk R (ev_n (by omega) ?_)⟩
   have := h5 R h
   rw [show (p ++ [(x : Int)]).length = (p ++ [(0 : Int)]).length by simp, show p ++ [(x : Int)] ++ (y : Int) :: r = p ++ (x : Int) :: (y : Int) :: r by simp] at this
   exact this
theorem swap_l1 (m : Nat) (hm0 : 1 ≤ m) (hm : m ≤ 7) (T : Nat → Nat → Nat) (c : Nat) : ∀ (q : List Int), costL T q ≤ c → q.length = m → inR m q →
  ∃ q', q'.Perm q ∧ costL T q' ≤ costL T q ∧ ∀ P, Ev (fun k => spec_plOrder.f k q') P → Ev (fun k => spec_SwappedOrder.l1 k m (mkT m T) q true) (P, true) := by
 induction c with
 | zero =>
  intro q hc hl hr;match q, hl, hr, hc with
  | [], hl, _, _ => simp at hl; omega
  | a :: s, hl, hr, hc =>
   obtain ⟨q', f', h1, h2, h3, h4, h5⟩ := swap_l2 m hm T s [] a false hl hr
   have hf : f' = false := by
    cases f' with
    | false => rfl
    | true =>
     rcases h4 rfl with h | h
     ·exact absurd h (by decide)
     ·simp only [List.nil_append] at h
      omega
   subst hf;refine ⟨q', h2, h3, fun P hE => ?_⟩
   apply ev_up;simp only [spec_SwappedOrder.l1];refine ev_p (by trivial) (h5 _ ?_)
   apply ev_up;simp only [spec_SwappedOrder.l1];exact ev_n (by decide) (Ev.bind hE (Ev.now _))
 | succ c ih =>
  intro q hc hl hr;match q, hl, hr, hc with
  | [], hl, _, _ => simp at hl; omega
  | a :: s, hl, hr, hc =>
   obtain ⟨q', f', h1, h2, h3, h4, h5⟩ := swap_l2 m hm T s [] a false hl hr
   cases f' with
   | false =>
    refine ⟨q', h2, h3, fun P hE => ?_⟩
    apply ev_up;simp only [spec_SwappedOrder.l1];refine ev_p (by trivial) (h5 _ ?_)
    apply ev_up;simp only [spec_SwappedOrder.l1];exact ev_n (by decide) (Ev.bind hE (Ev.now _))
   | true =>
    have hlt : costL T q' < costL T (a :: s) := by
     rcases h4 rfl with h | h
     ·exact absurd h (by decide)
     ·exact h
    obtain ⟨q2, hp, hc2, hE⟩ := ih q' (by omega) h1 (fun y hy => hr y (h2.mem_iff.1 hy))
    refine ⟨q2, hp.trans h2, by omega, fun P hP => ?_⟩
    apply ev_up;simp only [spec_SwappedOrder.l1];exact ev_p (by trivial) (h5 _ (hE P hP))
theorem swap_l0 (m : Nat) (hm0 : 1 ≤ m) (hm : m ≤ 7) (T : Nat → Nat → Nat) (R : List Int × Bool) (hE : Ev (fun k => spec_SwappedOrder.l1 k m (mkT m T) (rmap m (fun j => (j : Int))) true) R) (d : Nat) : ∀ (i : Nat), i + d = m →
  Ev (fun k => spec_SwappedOrder.l0 k m (mkT m T) (rmap i (fun j => (j : Int))) i) R := by
 induction d with
 | zero =>
  intro i hi;apply ev_up;simp only [spec_SwappedOrder.l0];rw [show i = m by omega]
  exact ev_n (by omega) hE
 | succ d ih =>
  intro i hi;apply ev_up;simp only [spec_SwappedOrder.l0];rw [wN (n := (i : Int) + 1) (m := i + 1) (by omega) (by omega)]
  have := ih (i + 1) (by omega)
  rw [rmap_succ] at this;exact ev_p (by omega) (ev_p (by rw [rmap_length]; omega) this)
theorem zz183 {l : List (List Int)} {n : Nat} (hm : I64 (n : Int)) (hl : l.length ≤ 9223372036854775807) (h : zz68 l n = true) (h1 : 1 ≤ n) (h7 : n ≤ 7) (h30 : l.length ≤ 30) (hw : ∀ w ∈ l, isW n w) :
  ∃ R, R.length = n ∧ okO n [] R = true ∧ costO (tabP l l) n R ≤ costO (tabP l l) n (Sep.iota n) ∧ Ev (fun k => spec_SwappedOrder.f k l n) (R, true) ∧ Ev (fun k => impl_SwappedOrder.f k l n) (R, true) := by
 have hin : inR n (rmap n (fun j => (j : Int))) := fun y hy => iota_range.1 hy
 obtain ⟨q, hp, hc, hE⟩ := swap_l1 n h1 h7 (tabP l l) _ (rmap n (fun j => (j : Int))) (Nat.le_refl _) (rmap_length _ _) hin
 have hq : q.Perm (Sep.iota n) := hp
 obtain ⟨R, hR, hO, hv, hP⟩ := zz152 h7 hq
 have hS := swap_l0 n h1 h7 (tabP l l) (R, true) (hE R hP) n 0 (by omega)
 have e1 := zz163 (tabP l l) hq hv
 have e2 := zz163 (tabP l l) (R := Sep.iota n) (List.Perm.refl (Sep.iota n)) (fun j hj => by
  have hh := iota_rd (m := n) (b := (j : Int)) (by omega) (by omega)
  rw [hh, hh])
 refine ⟨R, hR, hO, by rw [e1, e2]; exact hc, ?_, ?_⟩
 ·unfold spec_SwappedOrder.f
  exact Ev.bind (zz177 l n hm hl) (ev_p h (Ev.bind (zz171 n h7 l h30 hw) hS))
 ·unfold impl_SwappedOrder.f
  refine Ev.bind (zz179 l n hl) (ev_p h (Ev.bind (zz175 n h7 l h30 hw) ?_))
  simp only [zz167];exact hS
theorem pm_elem (n : Nat) : ∀ (d : Nat) (l o : List Int), o ∈ Sep.pm n d l → o.length = l.length + d := by
 intro d;induction d with
 | zero =>
  intro l o h;simp [Sep.pm] at h
  rw [h];rfl
 | succ d ih =>
  intro l o h;rw [Sep.pm, List.mem_flatMap] at h;obtain ⟨i, _, h⟩ := h
  split at h
  ·cases h
  ·rw [ih _ _ h]
   simp
   omega
theorem pm_small {n : Nat} (hn : n ≤ 8) : (Sep.pm n n []).length ≤ 1000000000 := by
 refine Nat.le_trans (Sep.pm_length hn n []) ?_
 have h := Nat.pow_le_pow_right (show 0 < 8 by decide) hn
 simp only [Nat.reducePow] at h;omega
theorem fcOk_mk (n : Nat) (h7 : n ≤ 7) (T : Nat → Nat → Nat) : Sep.fcOk (mkT n T) n (Sep.pm n n []) = true := by
 unfold Sep.fcOk;simp only [Bool.and_eq_true, decide_eq_true_eq, List.all_eq_true];refine ⟨⟨⟨⟨?_, ?_⟩, ?_⟩, pm_small (by omega)⟩, by omega⟩
 ·rw [zz81]; exact Nat.le_refl _
 ·intro r hr
  unfold mkT at hr;obtain ⟨i, _, rfl⟩ := List.mem_map.1 hr
  rw [zz80];exact Nat.le_refl _
 ·intro o ho
  rw [pm_elem n n [] o ho];simp
theorem fcRow_eq {T : Nat → Nat → Nat} (hT : ∀ i k, T i k ≤ 900) {m : Nat} (o : List Int) {i : Nat} (hi : i < m) (n : Nat) (hn : n ≤ 100000) : ∀ k, k ≤ m → k ≤ 7 → Sep.fcRow (mkT m T) o (i : Int) k (n : Int) = ((n + dRow (invF T o) i k : Nat) : Int) ∧ dRow (invF T o) i k ≤ 900 * k := by
 intro k;induction k with
 | zero => intro _ _; exact ⟨rfl, Nat.le_refl _⟩
 | succ k ih =>
  intro hk h7;obtain ⟨h1, h2⟩ := ih (by omega) (by omega)
  have e1 : (mkT m T).getD ((i : Int)).toNat [] = mkRow m (T i) := mkT_rd hi
  have e2 := mkRow_rd (f := T i) (show k < m by omega)
  have h3 := hT i k
  rw [Sep.fcRow, h1, e1, e2, dRow];unfold invF at h2 ⊢
  by_cases c : rd o (i : Int) < rd o (k : Int)
  ·rw [if_pos c, if_pos c, w64 (n := ((n + dRow (fun i k => if rd o (i : Int) < rd o (k : Int) then T i k else 0) i k : Nat) : Int) + ((T i k : Nat) : Int)) (by omega) (by omega)]
   exact ⟨by omega, by omega⟩
  ·rw [if_neg c, if_neg c]
   exact ⟨by omega, by omega⟩
theorem fcSum_eq {T : Nat → Nat → Nat} (hT : ∀ i k, T i k ≤ 900) {m : Nat} (hm : m ≤ 7) (o : List Int) : ∀ j, j ≤ m → Sep.fcSum (mkT m T) o m j = ((dSum (invF T o) m j : Nat) : Int) ∧ dSum (invF T o) m j ≤ 6300 * j := by
 intro j;induction j with
 | zero => intro _; exact ⟨rfl, Nat.le_refl _⟩
 | succ j ih =>
  intro hj;obtain ⟨h1, h2⟩ := ih (by omega)
  obtain ⟨h3, h4⟩ := fcRow_eq hT o (show j < m by omega) (dSum (invF T o) m j) (by omega) m (Nat.le_refl _) hm
  rw [Sep.fcSum, h1, h3, dSum];exact ⟨rfl, by omega⟩
theorem zz189 (T : List (List Int)) (m : Nat) (f : List Int → Nat) (os : List (List Int)) (hf : ∀ o ∈ os, Sep.fcSum T o m m = ((f o : Nat) : Int)) : ∀ o0, ∃ o, os.foldl (Sep.fcPick T m) (o0, ((f o0 : Nat) : Int)) = (o, ((f o : Nat) : Int)) ∧ (o = o0 ∨ o ∈ os) ∧ f o ≤ f o0 ∧ ∀ x ∈ os, f o ≤ f x := by
 induction os with
 | nil => intro o0; exact ⟨o0, rfl, .inl rfl, Nat.le_refl _, fun x hx => by cases hx⟩
 | cons x os ih =>
  intro o0;have hx := hf x List.mem_cons_self
  have ih' := ih (fun o ho => hf o (List.mem_cons_of_mem _ ho))
  rw [List.foldl_cons];unfold Sep.fcPick;rw [hx];by_cases c : f x < f o0
  ·rw [if_pos (.inr (by omega))]
   obtain ⟨o, h1, h2, h3, h4⟩ := ih' x
   refine ⟨o, h1, .inr ?_, by omega, fun y hy => ?_⟩
   ·rcases h2 with e | e
    ·rw [e]; exact List.mem_cons_self
    ·exact List.mem_cons_of_mem _ e
   ·rcases List.mem_cons.1 hy with e | e
    ·rw [e]; exact h3
    ·exact h4 y e
  ·rw [if_neg (by rintro (e | e) <;> omega)]
   obtain ⟨o, h1, h2, h3, h4⟩ := ih' o0
   refine ⟨o, h1, ?_, h3, fun y hy => ?_⟩
   ·rcases h2 with e | e
    ·exact .inl e
    ·exact .inr (List.mem_cons_of_mem _ e)
   ·rcases List.mem_cons.1 hy with e | e
    ·rw [e]; omega
    ·exact h4 y e
theorem zz190 (T : List (List Int)) (m : Nat) (f : List Int → Nat) (os : List (List Int)) (hf : ∀ o ∈ os, Sep.fcSum T o m m = ((f o : Nat) : Int)) (x : List Int) (hx : x ∈ os) : ∃ o, Sep.fcAt T m os os.length = (o, ((f o : Nat) : Int)) ∧ o ∈ os ∧ ∀ x ∈ os, f o ≤ f x := by
 match os, hx, hf with
 | [], hx, _ => cases hx
 | y :: os, _, hf =>
  have hy := hf y List.mem_cons_self
  obtain ⟨o, h1, h2, h3, h4⟩ := zz189 T m f os (fun o ho => hf o (List.mem_cons_of_mem _ ho)) y
  unfold Sep.fcAt;rw [List.take_length, List.foldl_cons];have e : Sep.fcPick T m ([], -1) y = (y, ((f y : Nat) : Int)) := by
   unfold Sep.fcPick;rw [if_pos (.inl (by decide)), hy]
  rw [e];refine ⟨o, h1, ?_, fun z hz => ?_⟩
  ·rcases h2 with e | e
   ·rw [e]; exact List.mem_cons_self
   ·exact List.mem_cons_of_mem _ e
  ·rcases List.mem_cons.1 hz with e | e
   ·rw [e]; exact h3
   ·exact h4 z e
theorem zz191 {l : List (List Int)} {n : Nat} (hm : I64 (n : Int)) (hl : l.length ≤ 9223372036854775807) (h : zz68 l n = true) (h7 : n ≤ 7) (h30 : l.length ≤ 30) (hw : ∀ w ∈ l, isW n w) :
  ∃ o, o.length = n ∧ okO n [] o = true ∧ (∀ x, x.length = n → okO n [] x = true → costO (tabP l l) n o ≤ costO (tabP l l) n x) ∧ Ev (fun k => spec_FewestCrossings.f k l n) (o, ((costO (tabP l l) n o : Nat) : Int), true) ∧ Ev (fun k => impl_FewestCrossings.f k l n) (o, ((costO (tabP l l) n o : Nat) : Int), true) := by
 have hin : Sep.iota n ∈ Sep.pm n n [] := pm_has n n [] (Sep.iota n) (Sep.iota_length n) (iota_okO n)
 obtain ⟨o, h1, h2, h3⟩ := zz190 (tabM l n) n (costO (tabP l l) n) (Sep.pm n n []) (fun o _ => (fcSum_eq (tabP900 h30) h7 o n (Nat.le_refl _)).1) (Sep.iota n) hin
 obtain ⟨r, e, hr, hO⟩ := pm_okO n n [] o h2
 rw [List.nil_append] at e;subst e;refine ⟨o, hr, hO, fun x hx hx2 => h3 x (by have := pm_has n n [] x hx hx2; rwa [List.nil_append] at this), ?_, ?_⟩
 ·unfold spec_FewestCrossings.f
  refine Ev.bind (zz177 l n hm hl) (ev_p h (Ev.bind (zz171 n h7 l h30 hw) ?_))
  refine ⟨100, fun k hk => ?_⟩
  show (if _ then _ else _) = _
  rw [if_pos ⟨by omega, by omega, hk, by rw [Int.toNat_natCast]; exact (show Sep.fcOk (tabM l n) n (Sep.pm n n []) = true from fcOk_mk n h7 (tabP l l))⟩, Int.toNat_natCast, h1]
 ·unfold impl_FewestCrossings.f
  refine Ev.bind (zz179 l n hl) (ev_p h (Ev.bind (zz175 n h7 l h30 hw) ?_))
  refine ⟨100, fun k hk => ?_⟩
  show (if _ then _ else _) = _
  rw [if_pos ⟨by omega, by omega, hk, by rw [Int.toNat_natCast]; exact (show Sep.fcOk (tabM l n) n (Sep.pm n n []) = true from fcOk_mk n h7 (tabP l l))⟩, Int.toNat_natCast, h1]
def sinkR (c : Int → Int → Int) (x : Int) : List Int → List Int
 | [] => [x]
 | y :: r => if c x y < 0 then y :: sinkR c x r else x :: y :: r
def sortR (c : Int → Int → Int) (xs : List Int) : List Int := xs.foldl (fun acc x => sinkR c x acc) []
theorem zz194 (c : Int → Int → Int) (x : Int) : ∀ r : List Int, (sinkR c x r).length = r.length + 1 := by
 intro r;induction r with
 | nil => rfl
 | cons y r ih => rw [sinkR]; split <;> simp [ih]
theorem zz195 (c : Int → Int → Int) (xs : List Int) (x : Int) : sortR c (xs ++ [x]) = sinkR c x (sortR c xs) := by
 unfold sortR;rw [List.foldl_append];rfl
theorem zz196 (c : Int → Int → Int) (xs : List Int) : ∀ i, i ≤ xs.length → (sortR c (xs.take i)).length = i := by
 intro i;induction i with
 | zero => intro _; simp [sortR]
 | succ i ih =>
  intro h;rw [List.take_add_one, List.getElem?_eq_getElem h];show (sortR c (xs.take i ++ [xs[i]])).length = _
  rw [zz195, zz194, ih (by omega)]
theorem zz197 (c : Int → Int → Int) (x : Int) : ∀ (r post : List Int), Sep.isSink c r.length (r.reverse ++ x :: post) = (sinkR c x r).reverse ++ post := by
 intro r;induction r with
 | nil => intro post; rfl
 | cons y r ih =>
  intro post;have e0 : (y :: r).reverse ++ x :: post = r.reverse ++ y :: x :: post := by simp
  have e1 : (y :: r).reverse ++ x :: post = (r.reverse ++ [y]) ++ x :: post := by simp
  have hl : r.reverse.length = r.length := by simp
  have h1 : rd ((y :: r).reverse ++ x :: post) (r.length : Int) = y := by rw [e0]; exact rdA (by simp)
  have h2 : rd ((y :: r).reverse ++ x :: post) ((r.length : Int) + 1) = x := by rw [e1]; exact rdA (by simp)
  rw [List.length_cons, Sep.isSink, h1, h2, sinkR];by_cases h : c x y < 0
  ·rw [if_pos h, if_pos h]
   have hs : Sep.swp ((y :: r).reverse ++ x :: post) ((r.length : Int) + 1) = r.reverse ++ x :: y :: post := by
    unfold Sep.swp;rw [show (r.length : Int) + 1 - 1 = (r.length : Int) by omega, h1, h2, e1, setB (by simp), show (r.reverse ++ [y]) ++ y :: post = r.reverse ++ y :: y :: post by simp, setB (by simp)]
   rw [hs, ih (y :: post)];simp
  ·rw [if_neg h, if_neg h]
   simp
theorem isTo_eq (c : Int → Int → Int) (xs : List Int) : ∀ i, i ≤ xs.length → Sep.isTo c xs i = (sortR c (xs.take i)).reverse ++ xs.drop i := by
 intro i;induction i with
 | zero => intro _; simp [Sep.isTo, sortR]
 | succ i ih =>
  intro h;have hs := zz197 c xs[i] (sortR c (xs.take i)) (xs.drop (i + 1))
  rw [zz196 c xs i (by omega)] at hs
  rw [Sep.isTo, ih (by omega), List.drop_eq_getElem_cons h, hs, List.take_add_one, List.getElem?_eq_getElem h]
  show _ = (sortR c (xs.take i ++ [xs[i]])).reverse ++ _
  rw [zz195]
theorem isTo_all (c : Int → Int → Int) (xs : List Int) : Sep.isTo c xs xs.length = (sortR c xs).reverse := by
 rw [isTo_eq c xs _ (Nat.le_refl _), List.take_length, List.drop_length, List.append_nil]
theorem zz200 (F : Int → Int) (c : Int → Int → Int) (x : Int) : ∀ (r : List Int), (∀ y ∈ r, (c x y < 0 ↔ F x < F y)) → mdIns F r.reverse x = (sinkR c x r).reverse := by
 have key : ∀ (r post : List Int), (∀ y ∈ r, (c x y < 0 ↔ F x < F y)) → (r.reverse ++ post).take (mdK F (r.reverse ++ post) (F x) r.length) ++ [x] ++ (r.reverse ++ post).drop (mdK F (r.reverse ++ post) (F x) r.length) = (sinkR c x r).reverse ++ post := by
  intro r;induction r with
  | nil => intro post _; rfl
  | cons y r ih =>
   intro post h;have e1 : (y :: r).reverse ++ post = r.reverse ++ (y :: post) := by simp
   have hy : rd (r.reverse ++ (y :: post)) (r.length : Int) = y := rdA (by simp)
   rw [e1, List.length_cons, mdK, hy, sinkR];by_cases hc : c x y < 0
   ·have hg : F y > F x := (h y List.mem_cons_self).1 hc
    rw [if_pos hg, if_pos hc, ih (y :: post) (fun z hz => h z (List.mem_cons_of_mem _ hz))]
    simp
   ·have hg : ¬ F y > F x := fun e => hc ((h y List.mem_cons_self).2 e)
    rw [if_neg hg, if_neg hc];have e2 : r.reverse ++ (y :: post) = (r.reverse ++ [y]) ++ post := by simp
    have hl : (r.reverse ++ [y]).length = r.length + 1 := by simp
    rw [e2, List.take_append_of_le_length (by rw [hl]; exact Nat.le_refl _), List.drop_append_of_le_length (by rw [hl]; exact Nat.le_refl _), List.take_of_length_le (by rw [hl]; exact Nat.le_refl _), List.drop_of_length_le (by rw [hl]; exact Nat.le_refl _)]
    simp
 intro r h;have := key r [] h
 simp only [List.append_nil, List.length_reverse] at this;unfold mdIns;rw [List.length_reverse];exact this
theorem zz201 (c : Int → Int → Int) (x : Int) : ∀ r : List Int, List.Perm (sinkR c x r) (x :: r) := by
 intro r;induction r with
 | nil => exact List.Perm.refl _
 | cons y r ih =>
  rw [sinkR];split
  ·exact (List.Perm.cons y ih).trans (List.Perm.swap x y r)
  ·exact List.Perm.refl _
theorem zz202 (c : Int → Int → Int) : ∀ (xs r : List Int), List.Perm (xs.foldl (fun acc x => sinkR c x acc) r) (xs ++ r) := by
 intro xs;induction xs with
 | nil => intro r; exact List.Perm.refl _
 | cons x xs ih =>
  intro r;rw [List.foldl_cons];refine (ih _).trans ?_
  refine (List.Perm.append_left xs (zz201 c x r)).trans ?_
  exact List.perm_middle
theorem sortR_perm' (c : Int → Int → Int) (xs : List Int) : List.Perm (sortR c xs).reverse xs := by
 refine (List.reverse_perm _).trans ?_
 have := zz202 c xs []
 rw [List.append_nil] at this;exact this
theorem zz203 (F : Int → Int) (c : Int → Int → Int) : ∀ (xs r : List Int), (∀ x ∈ xs, ∀ y, y ∈ xs ∨ y ∈ r → (c x y < 0 ↔ F x < F y)) → mdSort F xs r.reverse = (xs.foldl (fun acc x => sinkR c x acc) r).reverse := by
 intro xs;induction xs with
 | nil => intro r _; rfl
 | cons x xs ih =>
  intro r h;rw [mdSort, zz200 F c x r (fun y hy => h x List.mem_cons_self y (Or.inr hy)), List.foldl_cons]
  refine ih _ (fun z hz y hy => h z (List.mem_cons_of_mem _ hz) y ?_)
  rcases hy with hy | hy
  ·exact Or.inl (List.mem_cons_of_mem _ hy)
  ·rcases List.mem_cons.1 ((zz201 c x r).mem_iff.1 hy) with e | e
   ·rw [e]; exact Or.inl List.mem_cons_self
   ·exact Or.inr e
theorem zz204 (F : Int → Int) (c : Int → Int → Int) (xs : List Int) (h : ∀ x ∈ xs, ∀ y ∈ xs, (c x y < 0 ↔ F x < F y)) : mdSort F xs [] = (sortR c xs).reverse := by
 have := zz203 F c xs [] (fun x hx y hy => h x hx y (by rcases hy with e | e; exact e; cases e))
 exact this
theorem zz205 (x : Int) : ∀ r : List Int, r.Pairwise (fun a b => b ≤ a) → (sinkR (fun a b => a - b) x r).Pairwise (fun a b => b ≤ a) := by
 intro r;induction r with
 | nil => intro _; simp [sinkR]
 | cons y r ih =>
  intro h;obtain ⟨h1, h2⟩ := List.pairwise_cons.1 h
  rw [sinkR];split
  ·rename_i hc
   refine List.pairwise_cons.2 ⟨fun z hz => ?_, ih h2⟩
   rcases List.mem_cons.1 ((zz201 _ x r).mem_iff.1 hz) with e | e
   ·omega
   ·exact h1 z e
  ·rename_i hc
   refine List.pairwise_cons.2 ⟨fun z hz => ?_, h⟩
   rcases List.mem_cons.1 hz with e | e
   ·omega
   ·have := h1 z e
    omega
theorem zz206 : ∀ (xs r : List Int), r.Pairwise (fun a b => b ≤ a) → (xs.foldl (fun acc x => sinkR (fun a b => a - b) x acc) r).Pairwise (fun a b => b ≤ a) := by
 intro xs;induction xs with
 | nil => intro r h; exact h
 | cons x xs ih => intro r h; exact ih _ (zz205 x r h)
theorem zz207 (xs : List Int) : mdSort id xs [] = xs.mergeSort (fun x y => decide (x ≤ y)) := by
 rw [zz204 id (fun a b => a - b) xs (fun x _ y _ => by show x - y < 0 ↔ x < y; omega)]
 refine List.Perm.eq_of_pairwise (le := fun a b => a ≤ b) (fun a b _ _ h1 h2 => by omega) ?_ ?_ ((sortR_perm' _ xs).trans (List.mergeSort_perm xs _).symm)
 ·rw [List.pairwise_reverse]
  exact zz206 xs [] List.Pairwise.nil
 ·refine List.Pairwise.imp ?_ (List.pairwise_mergeSort (le := fun x y => decide (x ≤ y)) (fun a b c h1 h2 => ?_) (fun a b => ?_) xs)
  ·intro a b h
   exact of_decide_eq_true h
  ·have g1 := of_decide_eq_true h1
   have g2 := of_decide_eq_true h2
   exact decide_eq_true (by omega)
  ·rcases Int.le_total a b with h | h
   ·rw [decide_eq_true h]; rfl
   ·rw [decide_eq_true h, Bool.or_true]
theorem zz208 (F : Int → Int) : ∀ (xs ys o : List Int), mdSort F (xs ++ ys) o = mdSort F ys (mdSort F xs o) := by
 intro xs;induction xs with
 | nil => intro ys o; rfl
 | cons x xs ih => intro ys o; exact ih ys _
theorem zz209 (p : Int) : ∀ (l : List (List Int)) (o : List Int), mdAbove p l (mdSort id o []) = mdSort id (mdAbI p l o) [] := by
 intro l;induction l with
 | nil => intro o; rfl
 | cons w l ih =>
  intro o;rw [mdAbove, mdAbI];by_cases h : rd w 1 = p
  ·rw [if_pos h, if_pos h, ← ih (o ++ [rd w 0]), zz208]
   rfl
  ·rw [if_neg h, if_neg h, ih o]
theorem zz210 (p : Int) : ∀ (l : List (List Int)) (o : List Int) (x : Int), x ∈ mdAbI p l o → x ∈ o ∨ ∃ w ∈ l, rd w 0 = x := by
 intro l;induction l with
 | nil => intro o x h; exact Or.inl h
 | cons w l ih =>
  intro o x h;rw [mdAbI] at h;rcases ih _ x h with h' | ⟨v, hv, e⟩
  ·split at h'
   ·rcases List.mem_append.1 h' with e | e
    ·exact Or.inl e
    ·exact Or.inr ⟨w, List.mem_cons_self, (List.mem_singleton.1 e).symm⟩
   ·exact Or.inl h'
  ·exact Or.inr ⟨v, List.mem_cons_of_mem _ hv, e⟩
theorem mdMid_eq (l : List (List Int)) (p : Int) : mdMidS l p = mdMidI l p := by
 have h : mdAbove p l [] = mdSorted l p := by
  have := zz209 p l []
  rw [zz207 (mdAbI p l [])] at this;exact this
 have hp : List.Perm (mdSorted l p) (mdAbI p l []) := List.mergeSort_perm _ _
 unfold mdMidS mdMidI;rw [h, hp.length_eq];by_cases e : mdAbI p l [] = []
 ·have : mdSorted l p = [] := by
   rw [e] at hp;exact hp.eq_nil
  rw [if_pos e, if_pos this]
 ·have : ¬ mdSorted l p = [] := by
   intro e2;rw [e2] at hp;exact e hp.symm.eq_nil
  rw [if_neg e, if_neg this]
theorem zz212 {l : List Int} {i : Int} (h0 : 0 ≤ i) (h1 : i < l.length) : rd l i ∈ l := by
 obtain ⟨n, rfl⟩ := nat_of h0
 have hn : n < l.length := by omega
 have e : l = l.take n ++ l[n] :: l.drop (n + 1) := by rw [← List.drop_eq_getElem_cons hn, List.take_append_drop]
 have : rd (l.take n ++ l[n] :: l.drop (n + 1)) ((n : Nat) : Int) = l[n] := rdA (by simp; omega)
 rw [← e] at this;rw [this];exact List.getElem_mem hn
theorem zz213 {l : List (List Int)} {m : Int} (hw : ∀ w ∈ l, isW m w) (p : Int) : -1 ≤ mdMidI l p ∧ mdMidI l p ≤ 29 := by
 unfold mdMidI;by_cases e : mdAbI p l [] = []
 ·rw [if_pos e]; omega
 ·rw [if_neg e]
  have hp : List.Perm (mdSorted l p) (mdAbI p l []) := List.mergeSort_perm _ _
  have h0 : 0 < (mdAbI p l []).length := List.length_pos_iff.2 e
  have hm := zz212 (l := mdSorted l p) (i := (((mdAbI p l []).length / 2 : Nat) : Int)) (by omega) (by rw [hp.length_eq]; omega)
  rcases zz210 p l [] _ (hp.mem_iff.1 hm) with e | ⟨w, hwm, e⟩
  ·cases e
  ·obtain ⟨a, b, rfl, ha⟩ := hw w hwm
   rw [← e];have : rd [a, b] 0 = a := rdA (p := []) rfl
   omega
theorem mdOrd_eq {l : List (List Int)} {m : Int} (hw : ∀ w ∈ l, isW m w) (n : Nat) : mdSort (mdMidS l) (Sep.iota n) [] = mdOrd l n := by
 have hT := isTo_all (mdCmp l) (Sep.iota n)
 rw [Sep.iota_length] at hT;unfold mdOrd;rw [hT];refine zz204 (mdMidS l) (mdCmp l) (Sep.iota n) (fun x _ y _ => ?_)
 have h1 := zz213 hw x
 have h2 := zz213 hw y
 unfold mdCmp;rw [mdMid_eq, mdMid_eq, w64 (by omega) (by omega)]
 omega
theorem zz215 (l : List (List Int)) (n : Nat) : List.Perm (mdOrd l n) (Sep.iota n) := by
 have hT := isTo_all (mdCmp l) (Sep.iota n)
 rw [Sep.iota_length] at hT;unfold mdOrd;rw [hT];exact sortR_perm' _ _
theorem zz216 {l : List (List Int)} {n : Nat} (hm : I64 (n : Int)) (hl : l.length ≤ 9223372036854775807) (h : zz68 l n = true) (h1 : 1 ≤ n) (h7 : n ≤ 7) (h30 : l.length ≤ 30) (hw : ∀ w ∈ l, isW n w) :
  ∃ R, R.length = n ∧ okO n [] R = true ∧ Ev (fun k => spec_MiddleOrder.f k l n) (R, true) ∧ Ev (fun k => impl_MiddleOrder.f k l n) (R, true) := by
 have h2 : ∀ x ∈ l, x.length = 2 := by
  intro x hx;obtain ⟨a, b, rfl, _⟩ := hw x hx
  rfl
 obtain ⟨R, hR, hO, _, hE⟩ := zz152 h7 (zz215 l n)
 refine ⟨R, hR, hO, ?_, ?_⟩
 ·unfold spec_MiddleOrder.f
  refine Ev.bind (zz177 l n hm hl) (ev_p h (ev_p ⟨h30, by omega, by omega, h2⟩ ?_))
  rw [Int.toNat_natCast, mdOrd_eq hw n];exact Ev.bind hE (Ev.now _)
 ·unfold impl_MiddleOrder.f
  refine Ev.bind (zz179 l n hl) (ev_p h (ev_p ⟨h30, by omega, by omega, h2⟩ ?_))
  rw [Int.toNat_natCast];refine Ev.bind (a := R) ?_ (Ev.now _)
  obtain ⟨k0, hk⟩ := hE
  exact ⟨k0, fun k hx => (zz165 k _).trans (hk k hx)⟩
theorem zz217 (m : Nat) (hm : m ≤ 7) (T : Nat → Nat → Nat) (hT : ∀ i k, T i k ≤ 900) (i : Nat) (hi : i < m) (res : Int × Bool) (d : Nat) : ∀ (k n : Nat), k + d = m → n + 900 * d ≤ 1000000 →
  Ev (fun g => spec_CrossingBound.l0 g m (mkT m T) ((n + innerB T i k d : Nat) : Int) (wrap64 ((i : Int) + 1))) res → Ev (fun g => spec_CrossingBound.l1 g m (mkT m T) (n : Int) i k) res := by
 induction d with
 | zero =>
  intro k n hk hn h;apply ev_up;simp only [spec_CrossingBound.l1];exact ev_n (by omega) h
 | succ d ih =>
  intro k n hk hn h;have h1 := hT i k
  have h2 : min (T i k) (T k i) ≤ T i k := Nat.min_le_left _ _
  apply ev_up;simp only [spec_CrossingBound.l1];refine ev_p (by omega) (ev_p (by omega) (ev_p (by rw [zz81]; omega) (ev_p (by omega) ?_)))
  rw [mkT_rd hi, mkT_rd (show k < m by omega)]
  refine ev_p (by rw [zz80]; omega) (ev_p (by rw [zz81]; omega) (ev_p (by rw [zz80]; omega) ?_))
  rw [mkRow_rd (show k < m by omega), mkRow_rd hi, wN (n := (k : Int) + 1) (m := k + 1) (by omega) (by omega)]
  refine Ev.bind (a := ((min (T i k) (T k i) : Nat) : Int)) (ev_c ?_) ?_
  ·unfold spec_l1Least.f
   by_cases hlt : T i k < T k i
   ·rw [if_pos (by omega), Nat.min_eq_left (by omega)]
   ·rw [if_neg (by omega), Nat.min_eq_right (by omega)]
  ·rw [wN (n := (n : Int) + ((min (T i k) (T k i) : Nat) : Int)) (m := n + min (T i k) (T k i)) (by omega) (by omega)]
   refine ih (k + 1) _ (by omega) (by omega) ?_
   rw [Nat.add_assoc];exact h
theorem zz218 (m : Nat) (hm : m ≤ 7) (T : Nat → Nat → Nat) (hT : ∀ i k, T i k ≤ 900) (d : Nat) : ∀ (i n : Nat), i + d = m → n + 10000 * d ≤ 1000000 →
  Ev (fun g => spec_CrossingBound.l0 g m (mkT m T) (n : Int) i) (((n + outerB T m i d : Nat) : Int), true) := by
 induction d with
 | zero =>
  intro i n hi hn;apply ev_up;simp only [spec_CrossingBound.l0];exact ev_n (by omega) (Ev.now _)
 | succ d ih =>
  intro i n hi hn;have hb := zz94 hT i (m - (i + 1)) (i + 1)
  apply ev_up;simp only [spec_CrossingBound.l0];refine ev_p (by omega) ?_
  rw [wN (n := (i : Int) + 1) (m := i + 1) (by omega) (by omega)]
  refine zz217 m hm T hT i (by omega) _ (m - (i + 1)) (i + 1) n (by omega) (by omega) ?_
  rw [wN (n := (i : Int) + 1) (m := i + 1) (by omega) (by omega)]
  refine ev_eq (ih (i + 1) _ (by omega) (by omega)) ?_
  rw [outerB, Nat.add_assoc]
theorem mnN (a b : Nat) : mn (a : Int) (b : Int) = ((min a b : Nat) : Int) := by
 unfold mn;by_cases h : b < a
 ·rw [if_pos (by omega), Nat.min_eq_right (by omega)]
 ·rw [if_neg (by omega), Nat.min_eq_left (by omega)]
theorem zz220 (m : Nat) (hm : m ≤ 7) (T : Nat → Nat → Nat) (hT : ∀ i k, T i k ≤ 900) (i : Nat) (hi : i < m) (res : Int × Bool) (d : Nat) : ∀ (k n : Nat), k + d = m → n + 900 * d ≤ 1000000 →
  Ev (fun g => impl_CrossingBound.l0 g m (mkT m T) ((n + innerB T i k d : Nat) : Int) m (wrap64 ((i : Int) + 1))) res → Ev (fun g => impl_CrossingBound.l1 g m (mkT m T) (n : Int) i k m i) res := by
 induction d with
 | zero =>
  intro k n hk hn h;apply ev_up;simp only [impl_CrossingBound.l1];exact ev_n (by omega) h
 | succ d ih =>
  intro k n hk hn h;have h1 := hT i k
  have h2 : min (T i k) (T k i) ≤ T i k := Nat.min_le_left _ _
  apply ev_up;simp only [impl_CrossingBound.l1];refine ev_p (by omega) (ev_p (by omega) (ev_p (by rw [zz81]; omega) (ev_p (by omega) ?_)))
  rw [mkT_rd hi, mkT_rd (show k < m by omega)]
  refine ev_p (by rw [zz80]; omega) (ev_p (by rw [zz81]; omega) (ev_p (by rw [zz80]; omega) ?_))
  rw [mkRow_rd (show k < m by omega), mkRow_rd hi, wN (n := (k : Int) + 1) (m := k + 1) (by omega) (by omega), mnN]
  rw [wN (n := (n : Int) + ((min (T i k) (T k i) : Nat) : Int)) (m := n + min (T i k) (T k i)) (by omega) (by omega)]
  refine ih (k + 1) _ (by omega) (by omega) ?_
  rw [Nat.add_assoc];exact h
theorem zz221 (m : Nat) (hm : m ≤ 7) (T : Nat → Nat → Nat) (hT : ∀ i k, T i k ≤ 900) (d : Nat) : ∀ (i n : Nat), i + d = m → n + 10000 * d ≤ 1000000 →
  Ev (fun g => impl_CrossingBound.l0 g m (mkT m T) (n : Int) m i) (((n + outerB T m i d : Nat) : Int), true) := by
 induction d with
 | zero =>
  intro i n hi hn;apply ev_up;simp only [impl_CrossingBound.l0];exact ev_n (by omega) (Ev.now _)
 | succ d ih =>
  intro i n hi hn;have hb := zz94 hT i (m - (i + 1)) (i + 1)
  apply ev_up;simp only [impl_CrossingBound.l0];refine ev_p (by omega) ?_
  rw [wN (n := (i : Int) + 1) (m := i + 1) (by omega) (by omega)]
  refine zz220 m hm T hT i (by omega) _ (m - (i + 1)) (i + 1) n (by omega) (by omega) ?_
  rw [wN (n := (i : Int) + 1) (m := i + 1) (by omega) (by omega)]
  refine ev_eq (ih (i + 1) _ (by omega) (by omega)) ?_
  rw [outerB, Nat.add_assoc]
def zz222 (l : List (List Int)) (m : Int) : Int × Bool := if zz68 l m = true then ((outerB (tabP l l) m.toNat 0 m.toNat : Nat), true) else (0, false)
theorem zz223 (l : List (List Int)) (m : Int) (hm : I64 m) (hl : l.length ≤ 9223372036854775807) : Ev (fun k => spec_CrossingBound.f k l m) (zz222 l m) := by
 unfold spec_CrossingBound.f zz222;refine Ev.bind (zz177 l m hm hl) (ev_ite (fun h => ?_) (fun h => ?_))
 ·rw [if_pos h]
  obtain ⟨n, rfl, h1, h7, h30, hw⟩ := zz107 h
  refine Ev.bind (zz171 n h7 l h30 hw) ?_
  rw [Int.toNat_natCast];have := zz218 n h7 (tabP l l) (tabP900 h30) n 0 0 (by omega) (by omega)
  rw [Nat.zero_add] at this;exact this
 ·rw [if_neg h]
  exact Ev.now _
theorem zz224 (l : List (List Int)) (m : Int) (hl : l.length ≤ 9223372036854775807) : Ev (fun k => impl_CrossingBound.f k l m) (zz222 l m) := by
 unfold impl_CrossingBound.f zz222;refine Ev.bind (zz179 l m hl) (ev_ite (fun h => ?_) (fun h => ?_))
 ·rw [if_pos h]
  obtain ⟨n, rfl, h1, h7, h30, hw⟩ := zz107 h
  refine Ev.bind (zz175 n h7 l h30 hw) ?_
  rw [Int.toNat_natCast];have := zz221 n h7 (tabP l l) (tabP900 h30) n 0 0 (by omega) (by omega)
  rw [Nat.zero_add] at this;unfold tabM;rw [zz81];exact this
 ·rw [if_neg h]
  exact Ev.now _
theorem zz225 (l : List (List Int)) (m : Int) (hm : m ≤ 7) (hl : l.length ≤ 30) (x : List Int) (hx : isW m x) (j : Int) (ys : List (List Int)) (res : Int) (r : List (List Int)) : ∀ (p : List (List Int)) (n i : Int), i = p.length → ys = p ++ r → ys.length ≤ 30 → (∀ w ∈ r, isW m w) → 0 ≤ n → n + r.length ≤ 100000 →
  (Ev (fun k => spec_plCount.l0 k l (n + (r.countP (cross x) : Nat)) l l.length (wrap64 (j + 1))) res) → Ev (fun k => spec_plCount.l1 k l n x l l.length j ys ys.length i) res := by
 induction r with
 | nil =>
  intro p n i hi e hy hw h0 hn hk;have hlen : ys.length = p.length := by rw [e]; simp
  apply ev_up;simp only [spec_plCount.l1];refine ev_n (by omega) ?_
  simpa using hk
 | cons y r ih =>
  intro p n i hi e hy hw h0 hn hk;have hlen : ys.length = p.length + r.length + 1 := by rw [e]; simp; omega
  simp only [List.length_cons] at hn;have hr : rd_L4 ys i = y := by rw [e]; exact rdIIA hi
  obtain ⟨a, b, rfl, ha⟩ := hx
  obtain ⟨c, d, rfl, hc⟩ := hw y (by simp)
  have hb := zz75 (a := a - c) (b := b - d) (by omega) (by omega) (by omega) (by omega)
  apply ev_up;simp only [spec_plCount.l1];refine ev_p (by omega) (ev_p (by omega) (ev_p (by omega) (ev_p (by simp) ?_)))
  rw [hr];refine ev_p (by simp) (ev_p (by simp) (ev_p (by simp) ?_))
  have e0 : rd [a, b] 0 = a := rfl
  have e1 : rd [a, b] 1 = b := rfl
  have e2 : rd [c, d] 0 = c := rfl
  have e3 : rd [c, d] 1 = d := rfl
  rw [e0, e1, e2, e3, w64 (n := a - c) (by omega) (by omega), w64 (n := b - d) (by omega) (by omega), w64 (n := (a - c) * (b - d)) (by omega) (by omega), w64 (n := i + 1) (by omega) (by omega), w64 (n := n + 1) (by omega) (by omega)]
  refine ev_ite (fun h => ?_) (fun h => ?_)
  ·have hcr : cross [a, b] [c, d] = true := decide_eq_true h
   refine ih (p ++ [[c, d]]) (n + 1) (i + 1) (by simp; omega) (by rw [e]; simp) hy (fun w hw' => hw w (by simp [hw'])) (by omega) (by omega) ?_
   rw [List.countP_cons, hcr] at hk;have e9 : n + 1 + ((r.countP (cross [a, b]) : Nat) : Int) = n + ((r.countP (cross [a, b]) + 1 : Nat) : Int) := by omega
   rw [e9];simpa using hk
  ·have hcr : cross [a, b] [c, d] = false := decide_eq_false h
   refine ih (p ++ [[c, d]]) n (i + 1) (by simp; omega) (by rw [e]; simp) hy (fun w hw' => hw w (by simp [hw'])) (by omega) (by omega) ?_
   rw [List.countP_cons, hcr] at hk;simpa using hk
theorem zz226 (l : List (List Int)) (m : Int) (hm : m ≤ 7) (hl : l.length ≤ 30) (hw : ∀ w ∈ l, isW m w) (r : List (List Int)) : ∀ (p : List (List Int)) (n i : Int), i = p.length → l = p ++ r → 0 ≤ n → n ≤ 30 * p.length →
  Ev (fun k => spec_plCount.l0 k l n l l.length i) (n + (cntM p r : Nat)) := by
 induction r with
 | nil =>
  intro p n i hi e h0 hn;have hlen : l.length = p.length := by rw [e]; simp
  apply ev_up;simp only [spec_plCount.l0];refine ev_n (by omega) ?_
  simpa [cntM] using Ev.now n
 | cons x r ih =>
  intro p n i hi e h0 hn;have hlen : l.length = p.length + r.length + 1 := by rw [e]; simp; omega
  have hr : rd_L4 l i = x := by rw [e]; exact rdIIA hi
  have htk : l.take i.toNat = p := by rw [e, hi]; simp
  have hc := List.countP_le_length (p := cross x) (l := p)
  apply ev_up;simp only [spec_plCount.l0];refine ev_p (by omega) (ev_p (by omega) (ev_p (by omega) (ev_p (by omega) (Ev.bind (ev_c rfl) ?_))))
  rw [hr, htk];refine zz225 l m hm hl x (hw x (by rw [e]; simp)) i p _ p [] n 0 rfl rfl (by omega) (fun w hw' => hw w (by rw [e]; simp [hw'])) h0 (by omega) ?_
  rw [w64 (n := i + 1) (by omega) (by omega)]
  refine ev_eq (ih (p ++ [x]) _ (i + 1) (by simp; omega) (by rw [e]; simp) (by omega) (by simp; omega)) ?_
  simp only [cntM];omega
theorem zz227 (l : List (List Int)) (m : Int) (hm : m ≤ 7) (hl : l.length ≤ 30) (hw : ∀ w ∈ l, isW m w) : Ev (fun k => spec_plCount.f k l) ((cntM [] l : Nat) : Int) := by
 unfold spec_plCount.f;exact ev_eq (zz226 l m hm hl hw l [] 0 0 rfl rfl (by omega) (by simp)) (by omega)
theorem zz228 (k : Nat) : (∀ l n xs e i, impl_CountCrossings.l0 k l n xs e i = (spec_plCount.l0 k l n xs e i).map (fun c => (c, true))) ∧ (∀ l n x xs e i ys f j, impl_CountCrossings.l1 k l n x xs e i ys f j = (spec_plCount.l1 k l n x xs e i ys f j).map (fun c => (c, true))) := by
 induction k with
 | zero => exact ⟨fun _ _ _ _ _ => rfl, fun _ _ _ _ _ _ _ _ _ => rfl⟩
 | succ k ih =>
  constructor
  ·intro l n xs e i
   simp only [impl_CountCrossings.l0, spec_plCount.l0, ih.2, Option.bind_some]
   (repeat' split) <;> rfl
  ·intro l n x xs e i ys f j
   simp only [impl_CountCrossings.l1, spec_plCount.l1, ih.1, ih.2]
   (repeat' split) <;> rfl
def countM (l : List (List Int)) (m : Int) : Int × Bool := if zz68 l m = true then ((cntM [] l : Nat), true) else (0, false)
theorem ev_map {α β : Type} {g : Nat → Option α} {r : α} (f : α → β) (h : Ev g r) : Ev (fun k => (g k).map f) (f r) := by
 obtain ⟨K, hK⟩ := h
 exact ⟨K, fun k hk => by simp [hK k hk]⟩
theorem zz231 (l : List (List Int)) (m : Int) (hl : l.length ≤ 9223372036854775807) : Ev (fun k => impl_CountCrossings.f k l m) (countM l m) := by
 unfold impl_CountCrossings.f countM;refine Ev.bind (zz179 l m hl) (ev_ite (fun h => ?_) (fun h => ?_))
 ·rw [if_pos h]
  obtain ⟨_, h7, h30, hw⟩ := zz74 h
  simp only [(zz228 _).1];have := zz227 l m h7 h30 hw
  unfold spec_plCount.f at this;exact ev_map _ this
 ·rw [if_neg h]
  exact Ev.now _
theorem zz232 (l : List (List Int)) (m : Int) (hm : I64 m) (hl : l.length ≤ 9223372036854775807) : Ev (fun k => spec_CountCrossings.f k l m) (countM l m) := by
 unfold spec_CountCrossings.f countM;refine Ev.bind (zz177 l m hm hl) (ev_ite (fun h => ?_) (fun h => ?_))
 ·rw [if_pos h]
  obtain ⟨_, h7, h30, hw⟩ := zz74 h
  exact Ev.bind (zz227 l m h7 h30 hw) (Ev.now _)
 ·rw [if_neg h]
  exact Ev.now _
theorem zz233 (m : Nat) (hm : m ≤ 7) (o : List Int) (ho : o.length ≤ 1048576) (r : List Int) : ∀ (p : List Int) (i : Int), i = p.length → o = p ++ r →
  Ev (fun k => impl_isOrder.l0 k m (rmap m (fun j => decide ((j : Int) ∈ p))) o o.length i) (okO m p r) := by
 induction r with
 | nil =>
  intro p i hi e;have hlen : o.length = p.length := by rw [e]; simp
  apply ev_up;simp only [impl_isOrder.l0];exact ev_n (by omega) (Ev.now _)
 | cons x r ih =>
  intro p i hi e;have hlen : o.length = p.length + r.length + 1 := by rw [e]; simp; omega
  have hx : rd o i = x := by rw [e]; exact rdA hi
  have no : ¬ (0 ≤ x ∧ x < m ∧ ¬ x ∈ p) → Ev (fun _ => some false) (okO m p (x :: r)) := fun h => by
   rw [okO, decide_eq_false h, Bool.false_and];exact Ev.now _
  apply ev_up;simp only [impl_isOrder.l0];refine ev_p (by omega) (ev_p (by omega) (ev_p (by omega) ?_))
  rw [hx, w64 (n := i + 1) (by omega) (by omega)]
  refine ev_ite (fun c => no (fun h => by omega)) (fun c => ev_ite (fun c2 => no (fun h => by omega)) (fun c2 => ?_))
  obtain ⟨y, rfl⟩ := nat_of (show 0 ≤ x by omega)
  have hy : y < m := by omega
  have hr : rdOf false (rmap m (fun j => decide ((j : Int) ∈ p))) (y : Int) = decide ((y : Int) ∈ p) := rmap_get hy _
  rw [hr, Int.toNat_natCast, rmap_set hy];refine ev_p (by omega) (ev_p (by rw [rmap_length]; omega) (ev_ite (fun c3 => no (fun h => h.2.2 (of_decide_eq_true c3))) (fun c3 => ?_)))
  have c3' : ¬ (y : Int) ∈ p := fun h => c3 (decide_eq_true h)
  rw [okO, decide_eq_true (show 0 ≤ (y : Int) ∧ (y : Int) < m ∧ ¬ (y : Int) ∈ p from ⟨by omega, by omega, c3'⟩), Bool.true_and]
  have e2 : rmap m (fun j => if j = y then true else decide ((j : Int) ∈ p)) = rmap m (fun j => decide ((j : Int) ∈ p ++ [(y : Int)])) := by
   apply rmap_congr
   intro j _;by_cases c4 : j = y
   ·rw [if_pos c4, decide_eq_true (by rw [c4]; simp)]
   ·rw [if_neg c4]
    refine decide_eq_decide.2 ?_
    rw [List.mem_append, List.mem_singleton];exact ⟨Or.inl, fun h => h.elim id (fun h2 => absurd (by omega) c4)⟩
  rw [e2];exact ih (p ++ [(y : Int)]) (i + 1) (by simp; omega) (by rw [e]; simp)
theorem zz234 (m : Nat) (hm : m ≤ 7) (o : List Int) (ho : o.length ≤ 1048576) : Ev (fun k => impl_isOrder.f k o m) (okO m [] o && decide (o.length = m)) := by
 unfold impl_isOrder.f;refine ev_ite (fun c => ?_) (fun c => ?_)
 ·rw [decide_eq_true (show o.length = m by omega), Bool.and_true, Int.toNat_natCast, rmap_const]
  have := zz233 m hm o ho o [] 0 rfl rfl
  have e : rmap m (fun j => decide ((j : Int) ∈ ([] : List Int))) = rmap m (fun _ => false) := rmap_congr (fun j _ => by simp)
  rw [e] at this;exact ev_p (by omega) (ev_p (by omega) this)
 ·rw [decide_eq_false (show ¬ o.length = m by omega), Bool.and_false]
  exact Ev.now _
theorem zz235 (m : Nat) (l : List (List Int)) (hl : l.length ≤ 30) (hw : ∀ w ∈ l, isW m w) (o : List Int) (ho : o.length = m) (r : List (List Int)) : ∀ (p : List (List Int)) (i : Int), i = p.length → l = p ++ r →
  Ev (fun k => impl_MovePoints.l0 k o (p.map (moveP o)) l l.length i) (l.map (moveP o), true) := by
 induction r with
 | nil =>
  intro p i hi e;have hlen : l.length = p.length := by rw [e]; simp
  have e' : l = p := by rw [e]; simp
  apply ev_up;simp only [impl_MovePoints.l0];refine ev_n (by omega) (ev_eq (Ev.now _) ?_)
  rw [e']
 | cons w r ih =>
  intro p i hi e;have hlen : l.length = p.length + r.length + 1 := by rw [e]; simp; omega
  have hx : rd_L4 l i = w := by rw [e]; exact rdIIA hi
  have hww := hw w (by rw [e]; simp)
  apply ev_up;simp only [impl_MovePoints.l0];refine ev_p (by omega) (ev_p (by omega) (ev_p (by omega) ?_))
  rw [hx, w64 (n := i + 1) (by omega) (by omega)]
  obtain ⟨h1, h2, h3, h4, h5⟩ := zz108 hww
  refine ev_p (by omega) (ev_p (by omega) (ev_p (by omega) (ev_p (by omega) (ev_p (by simp; omega) ?_))))
  have := ih (p ++ [w]) (i + 1) (by simp; omega) (by rw [e]; simp)
  rw [List.map_append] at this;exact this
theorem zz236 (l : List (List Int)) (m : Int) (o : List Int) (hl : l.length ≤ 9223372036854775807) (ho : o.length ≤ 1048576) : Ev (fun k => impl_MovePoints.f k l m o) (zz110 l m o) := by
 have no : ¬ (zz68 l m = true ∧ (okO m.toNat [] o && decide (o.length = m.toNat)) = true) → Ev (fun k => impl_MovePoints.j0 k l o true) (zz110 l m o) := fun h => by
  unfold zz110;rw [if_neg h];apply ev_up;simp only [impl_MovePoints.j0];exact ev_p (by trivial) (Ev.now _)
 unfold impl_MovePoints.f;refine Ev.bind (zz179 l m hl) (ev_ite (fun h => ?_) (fun h => no (fun hh => h hh.1)))
 obtain ⟨n, rfl, h1, h7, h30, hw⟩ := zz107 h
 refine Ev.bind (zz234 n h7 o ho) ?_
 by_cases h2 : (okO n [] o && decide (o.length = n)) = true
 ·rw [h2]
  unfold zz110;rw [if_pos ⟨h, by rw [Int.toNat_natCast]; exact h2⟩]
  rw [Bool.and_eq_true] at h2;apply ev_up;simp only [impl_MovePoints.j0];exact ev_n (by decide) (zz235 n l h30 hw o (of_decide_eq_true h2.2) l [] 0 rfl rfl)
 ·rw [show (okO n [] o && decide (o.length = n)) = false by simpa using h2]
  exact no (fun hh => h2 (by have := hh.2; rw [Int.toNat_natCast] at this; exact this))
theorem most_eq (x : Int) : ∃ k, spec_l1Most.f 1 x = some k := by
 unfold spec_l1Most.f;split <;> exact ⟨_, rfl⟩
theorem zz238 {code : List Int} (hc : bytesOk code) (mm : Int) : ∀ (d : Nat) (l : List (List Int)) (a m : Int), 0 ≤ a → a + 4 * d ≤ 1000000000 → (∀ y ∈ l, y.length ≤ 2) → ∃ l' a' m', lwLoop code mm d l a m = some (l', a', m') ∧ (a ≤ a' ∧ a' ≤ a + 4 * d) ∧ l'.length = l.length + d ∧ ∀ y ∈ l', y.length ≤ 2 := by
 intro d;induction d with
 | zero => intro l a m h0 _ hy; exact ⟨l, a, m, rfl, by omega, by omega, hy⟩
 | succ d ih =>
  intro l a m h0 h1 hy;rw [lwLoop];obtain ⟨x, a1, m1, e1, ha1, _⟩ := pick_ok hc a m 6 h0 (by omega)
  rw [e1, Option.bind_some];dsimp only;obtain ⟨k, ek⟩ := most_eq mm
  rw [ek, Option.bind_some];obtain ⟨y, a2, m2, e2, ha2, _⟩ := pick_ok hc a1 m1 k (by omega) (by omega)
  rw [e2, Option.bind_some];dsimp only;obtain ⟨l', a', m', e, ha, hl, hy'⟩ := ih (l ++ [[x, y]]) a2 m2 (by omega) (by omega) (fun z hz => by
   rcases List.mem_append.1 hz with hz | hz
   ·exact hy z hz
   ·rw [List.mem_singleton] at hz; rw [hz]; exact Nat.le_refl _)
  exact ⟨l', a', m', e, by omega, by rw [hl, List.length_append, List.length_singleton]; omega, hy'⟩
theorem set_rows {l : List (List Int)} (h : ∀ y ∈ l, y.length ≤ 2) (i : Nat) (z : List Int) (hz : z.length ≤ 2) : ∀ y ∈ l.set i z, y.length ≤ 2 := fun y hy => by
 rcases List.mem_or_eq_of_mem_set hy with hy | rfl
 ·exact h y hy
 ·exact hz
theorem zz240 {l : List (List Int)} (h : ∀ y ∈ l, y.length ≤ 2) (i : Nat) : (l.getD i []).length ≤ 2 := by
 rw [List.getD_eq_getElem?_getD];cases hq : l[i]? with
 | none => simp
 | some z => exact h z (List.mem_of_getElem? hq)
theorem lwEnd_ok {code : List Int} (hc : bytesOk code) (mm n : Int) (l : List (List Int)) (a m : Int) (h0 : 0 ≤ a) (h1 : a ≤ 900000000) (hy : ∀ y ∈ l, y.length ≤ 2) : ∃ l' a' m', lwEnd code mm n l a m = some (l', mm, a', m') ∧ (a ≤ a' ∧ a' ≤ a + 10) ∧ l'.length = l.length ∧ ∀ y ∈ l', y.length ≤ 2 := by
 unfold lwEnd;by_cases c1 : 0 < n
 ·rw [if_pos c1]
  obtain ⟨q, a1, m1, e1, ha1, hq0, hq1⟩ := pick_ok hc a m n h0 (by omega)
  rw [e1, Option.bind_some];dsimp only;rw [if_pos ⟨hq0, by omega⟩]
  obtain ⟨sw, a2, m2, e2, ha2, _⟩ := pick_ok hc a1 m1 24 (by omega) (by omega)
  rw [e2, Option.bind_some];dsimp only;unfold lwSw;by_cases c2 : sw = 0
  ·rw [if_pos c2]
   obtain ⟨z, a3, m3, e3, ha3, _⟩ := among_ok hc a2 m2 [-1, 29, 30] (by simp) (by omega) (by omega)
   rw [e3, Option.bind_some];exact ⟨_, a3, m3, rfl, by omega, by simp, set_rows hy _ _ (by rw [List.length_set]; exact zz240 hy _)⟩
  rw [if_neg c2];by_cases c3 : sw = 1
  ·rw [if_pos c3]
   obtain ⟨z, a3, m3, e3, ha3, _⟩ := among_ok hc a2 m2 [-1, mm] (by simp) (by omega) (by omega)
   rw [e3, Option.bind_some];exact ⟨_, a3, m3, rfl, by omega, by simp, set_rows hy _ _ (by rw [List.length_set]; exact zz240 hy _)⟩
  rw [if_neg c3];by_cases c4 : sw = 2
  ·rw [if_pos c4]
   exact ⟨_, a2, m2, rfl, by omega, by simp, set_rows hy _ _ (by rw [List.length_take]; have := zz240 hy 0; omega)⟩
  rw [if_neg c4];exact ⟨l, a2, m2, rfl, by omega, rfl, hy⟩
 ·rw [if_neg c1]
  exact ⟨l, a, m, rfl, by omega, rfl, hy⟩
theorem zz242 {code : List Int} (hc : bytesOk code) (a m : Int) (h0 : 0 ≤ a) (h1 : a ≤ 800000000) : ∃ l mm a' m', spec_l1Cur_levelWires.f code a m = some (l, mm, a', m') ∧ (a ≤ a' ∧ a' ≤ a + 1000) ∧ (0 ≤ mm ∧ mm ≤ 8) ∧ l.length ≤ 31 ∧ ∀ y ∈ l, y.length ≤ 2 := by
 unfold spec_l1Cur_levelWires.f;obtain ⟨x, a1, m1, e1, ha1, hx0, hx1⟩ := pick_ok hc a m 5 h0 (by omega)
 rw [e1, Option.bind_some];dsimp only;obtain ⟨b, a2, m2, e2, ha2⟩ := one_ok hc a1 m1 16 (by omega) (by omega)
 rw [e2, Option.bind_some];dsimp only;have hM : ∃ mm a' m', lwM code b (wrap64 (1 + x)) a2 m2 = some (mm, a', m') ∧ (a2 ≤ a' ∧ a' ≤ a2 + 2) ∧ 0 ≤ mm ∧ mm ≤ 8 := by
  unfold lwM;cases b with
  | true =>
   rw [if_pos rfl];obtain ⟨z, a3, m3, e3, ha3, hz⟩ := among_ok hc a2 m2 [7, 8, 0] (by simp) (by omega) (by omega)
   simp only [List.mem_cons, List.not_mem_nil, or_false] at hz;exact ⟨z, a3, m3, e3, ha3, by omega, by omega⟩
  | false =>
   rw [if_neg (by decide), w64 (n := 1 + x) (by omega) (by omega)]
   exact ⟨_, _, _, rfl, by omega, by omega, by omega⟩
 obtain ⟨mm, a3, m3, e3, ha3, hm0, hm1⟩ := hM
 rw [e3, Option.bind_some];dsimp only;obtain ⟨y, a4, m4, e4, ha4, hy0, hy1⟩ := pick_ok hc a3 m3 9 (by omega) (by omega)
 rw [e4, Option.bind_some];dsimp only;obtain ⟨b2, a5, m5, e5, ha5⟩ := one_ok hc a4 m4 20 (by omega) (by omega)
 rw [e5, Option.bind_some];dsimp only;have hN : ∃ nn a' m', lwN code b2 y a5 m5 = some (nn, a', m') ∧ (a5 ≤ a' ∧ a' ≤ a5 + 2) ∧ 0 ≤ nn ∧ nn ≤ 31 := by
  unfold lwN;cases b2 with
  | true =>
   rw [if_pos rfl];obtain ⟨z, a6, m6, e6, ha6, hz0, hz1⟩ := pick_ok hc a5 m5 2 (by omega) (by omega)
   rw [e6, Option.bind_some];dsimp only;rw [w64 (n := 30 + z) (by omega) (by omega)]
   exact ⟨_, a6, m6, rfl, ha6, by omega, by omega⟩
  | false =>
   rw [if_neg (by decide)]
   exact ⟨_, _, _, rfl, by omega, by omega, by omega⟩
 obtain ⟨nn, a6, m6, e6, ha6, hn0, hn1⟩ := hN
 rw [e6, Option.bind_some];dsimp only;rw [if_pos (by omega)]
 obtain ⟨l1, a7, m7, e7, ha7, hl7, hr7⟩ := zz238 hc mm nn.toNat [] a6 m6 (by omega) (by omega) (by simp)
 rw [e7, Option.bind_some];dsimp only;obtain ⟨l2, a8, m8, e8, ha8, hl8, hr8⟩ := lwEnd_ok hc mm nn l1 a7 m7 (by omega) (by omega) hr7
 rw [List.length_nil] at hl7;exact ⟨l2, mm, a8, m8, e8, by omega, by omega, by omega, hr8⟩
theorem zz243 (l : List Int) (hl : l.length ≤ 9223372036854775806) (r : List Int) : ∀ (p : List Int) (i : Int), i = p.length → l = p ++ r → Ev (fun k => laws_sameInts.l0 k l l l.length i) true := by
 induction r with
 | nil =>
  intro p i hi e;have hlen : l.length = p.length := by rw [e]; simp
  apply ev_up;simp only [laws_sameInts.l0];exact ev_n (by omega) (Ev.now _)
 | cons x r ih =>
  intro p i hi e;have hlen : l.length = p.length + r.length + 1 := by rw [e]; simp; omega
  have ih' := ih (p ++ [x]) (i + 1) (by simp; omega) (by rw [e]; simp)
  apply ev_up;simp only [laws_sameInts.l0];refine ev_p (by omega) (ev_p (by omega) (ev_p (by omega) (ev_p (by omega) (ev_p (by trivial) ?_))))
  rw [w64 (n := i + 1) (by omega) (by omega)]
  exact ih'
theorem zz244 (l : List Int) (hl : l.length ≤ 9223372036854775806) : Ev (fun k => laws_sameInts.f k l l) true := by
 unfold laws_sameInts.f;exact ev_p rfl (zz243 l hl l [] 0 rfl rfl)
theorem zz245 (l : List (List Int)) (hl : l.length ≤ 9223372036854775806) (hy : ∀ y ∈ l, y.length ≤ 9223372036854775806) (r : List (List Int)) : ∀ (p : List (List Int)) (i : Int), i = p.length → l = p ++ r → Ev (fun k => laws_sameLists.l0 k l l l.length i) true := by
 induction r with
 | nil =>
  intro p i hi e;have hlen : l.length = p.length := by rw [e]; simp
  apply ev_up;simp only [laws_sameLists.l0];exact ev_n (by omega) (Ev.now _)
 | cons x r ih =>
  intro p i hi e;have hlen : l.length = p.length + r.length + 1 := by rw [e]; simp; omega
  have hx : rd_L4 l i = x := by rw [e]; exact getDA hi
  have ih' := ih (p ++ [x]) (i + 1) (by simp; omega) (by rw [e]; simp)
  apply ev_up;simp only [laws_sameLists.l0];rw [hx, w64 (n := i + 1) (by omega) (by omega)]
  exact ev_p (by omega) (ev_p (by omega) (ev_p (by omega) (ev_p (by omega) (Ev.bind (zz244 x (hy x (by rw [e]; simp))) (ev_p rfl ih')))))
theorem zz246 (l : List (List Int)) (hl : l.length ≤ 9223372036854775806) (hy : ∀ y ∈ l, y.length ≤ 9223372036854775806) : Ev (fun k => laws_sameLists.f k l l) true := by
 unfold laws_sameLists.f;exact ev_p rfl (zz245 l hl hy l [] 0 rfl rfl)
theorem zz247 {code : List Int} (hc : bytesOk code) : ∃ l mm, spec_DrawFewestCrossings.f code = some (l, mm) ∧ (0 ≤ mm ∧ mm ≤ 8) ∧ l.length ≤ 31 ∧ ∀ y ∈ l, y.length ≤ 2 := by
 obtain ⟨l, mm, a', m', e, _, h1, h2, h3⟩ := zz242 hc 0 0 (by omega) (by omega)
 refine ⟨l, mm, ?_, h1, h2, h3⟩
 unfold spec_DrawFewestCrossings.f spec_DrawAreLevelWires.f;simp only [e, Option.bind_some]
theorem lev_one {l : List (List Int)} {n : Nat} (hC : zz68 l n = true) (h30 : l.length ≤ 30) (hw : ∀ w ∈ l, isW n w) {x : List Int} (h1 : x.length = n) (h2 : okO n [] x = true) (h7 : n ≤ 7) :
  Ev (fun k => impl_MovePoints.f k l n x) (l.map (moveP x), true) ∧ Ev (fun k => impl_CountCrossings.f k (l.map (moveP x)) n) (((costO (tabP l l) n x : Nat) : Int), true) := by
 constructor
 ·have := zz236 l (n : Int) x (by omega) (by omega)
  unfold zz110 at this;rw [if_pos ⟨hC, by rw [Int.toNat_natCast, h2]; exact decide_eq_true h1⟩] at this
  exact this
 ·have := zz231 (l.map (moveP x)) (n : Int) (by rw [List.length_map]; omega)
  unfold countM at this;rw [if_pos (zz112 hC (by rw [Int.toNat_natCast]; exact h2) (by rw [Int.toNat_natCast]; exact h1)), ← zz132 x l hw] at this
  exact this
theorem lev_l2 {l : List (List Int)} {n : Nat} (hC : zz68 l n = true) (h30 : l.length ≤ 30) (hw : ∀ w ∈ l, isW n w) (h7 : n ≤ 7) {o s m : List Int} (o1 : o.length = n) (o2 : okO n [] o = true) (s1 : s.length = n) (s2 : okO n [] s = true) (m1 : m.length = n) (m2 : okO n [] m = true)
  (hb : ∀ x, x.length = n → okO n [] x = true → costO (tabP l l) n o ≤ costO (tabP l l) n x) (bd ct : Nat) (hs : costO (tabP l l) n s ≤ ct) (hbd : bd ≤ costO (tabP l l) n o) (hct : costO (tabP l l) n o ≤ ct) :
  Ev (fun k => laws_FnLevels.l2 k l n ((costO (tabP l l) n o : Nat) : Int) (bd : Int) (ct : Int) [o, s, m] (3 : Int) 0) true := by
 have e0 : rd_L4 [o, s, m] 0 = o := rfl
 have e1 : rd_L4 [o, s, m] 1 = s := rfl
 have e2 : rd_L4 [o, s, m] 2 = m := rfl
 obtain ⟨a0, b0⟩ := lev_one hC h30 hw o1 o2 h7
 obtain ⟨a1, b1⟩ := lev_one hC h30 hw s1 s2 h7
 obtain ⟨a2, b2⟩ := lev_one hC h30 hw m1 m2 h7
 have g1 := hb s s1 s2
 have g2 := hb m m1 m2
 have w1 : wrap64 (0 + 1) = 1 := (w64 (n := 0 + 1) (by omega) (by omega)).trans rfl
 have w2 : wrap64 (1 + 1) = 2 := (w64 (n := 1 + 1) (by omega) (by omega)).trans rfl
 have w3 : wrap64 (2 + 1) = 3 := (w64 (n := 2 + 1) (by omega) (by omega)).trans rfl
 apply ev_up;simp only [laws_FnLevels.l2];refine ev_p (by omega) (ev_p (by omega) (ev_p (by show _ < (3 : Int); omega) ?_))
 rw [e0, w1];refine Ev.bind a0 (Ev.bind b0 (ev_p rfl (ev_p rfl (ev_n (by dsimp only; omega) (ev_p (by trivial) (ev_p rfl (ev_n (by decide) ?_)))))))
 apply ev_up;simp only [laws_FnLevels.l2];refine ev_p (by omega) (ev_p (by omega) (ev_p (by show _ < (3 : Int); omega) ?_))
 rw [e1, w2];refine Ev.bind a1 (Ev.bind b1 (ev_p rfl (ev_p rfl (ev_n (by dsimp only; omega) (ev_n (by decide) (ev_p (by trivial) (ev_n (by dsimp only; omega) ?_)))))))
 apply ev_up;simp only [laws_FnLevels.l2];refine ev_p (by omega) (ev_p (by omega) (ev_p (by show _ < (3 : Int); omega) ?_))
 rw [e2, w3];refine Ev.bind a2 (Ev.bind b2 (ev_p rfl (ev_p rfl (ev_n (by dsimp only; omega) (ev_n (by decide) (ev_n (by decide) ?_))))))
 apply ev_up;simp only [laws_FnLevels.l2];exact ev_n (by decide) (ev_n (by omega) (ev_n (by omega) (Ev.now _)))
theorem lev_j2 (more : List Int) (hc : bytesOk more) : Ev (fun k => laws_FnLevels.j2 k more) true := by
 obtain ⟨l, mm, e, hm, hl, hy⟩ := zz247 hc
 apply ev_up;simp only [laws_FnLevels.j2];simp only [e, Option.bind_some];have hI : I64 mm := ⟨by omega, by omega⟩
 have nil : Ev (fun k => laws_sameInts.f k [] []) true := zz244 [] (by decide)
 by_cases h : zz68 l mm = true
 ·obtain ⟨n, rfl, h1, h7, h30, hw⟩ := zz107 h
  have hE : Ev (fun k => impl_AreLevelWires.f k l n) true := by
   have := zz179 l (n : Int) (by omega)
   rw [h] at this;exact this
  obtain ⟨o, o1, o2, hb, oS, oI⟩ := zz191 hI (by omega) h h7 h30 hw
  obtain ⟨s, s1, s2, hs, sS, sI⟩ := zz183 hI (by omega) h h1 h7 h30 hw
  obtain ⟨m, m1, m2, mS, mI⟩ := zz216 hI (by omega) h h1 h7 h30 hw
  have bS := zz223 l (n : Int) hI (by omega)
  have bI := zz224 l (n : Int) (by omega)
  have cS := zz232 l (n : Int) hI (by omega)
  have cI := zz231 l (n : Int) (by omega)
  unfold zz222 at bS bI;unfold countM at cS cI;rw [if_pos h] at bS bI cS cI;rw [Int.toNat_natCast] at bS bI;have ci : costO (tabP l l) n (Sep.iota n) = cntM [] l := by
   rw [zz132 (Sep.iota n) l hw, zz148 l hw]
  have hfin := lev_l2 h h30 hw h7 o1 o2 s1 s2 m1 m2 hb (outerB (tabP l l) n 0 n) (cntM [] l) (by omega)
   (zz136 (tabP l l) n o (fun i k hi hk ee => rd_inj (okO_inj o [] o2).1 (by omega) (by omega) ee))
   (by rw [← ci]; exact hb _ (Sep.iota_length n) (iota_okO n))
  refine Ev.bind oI (Ev.bind oS (Ev.bind bI (Ev.bind bS (Ev.bind cI (Ev.bind cS (Ev.bind sI (Ev.bind sS (Ev.bind mI (Ev.bind mS ?_)))))))))
  refine ev_n (by simp) (Ev.bind (zz244 o (by omega)) ?_)
  refine ev_p rfl (ev_p rfl (ev_n (by simp) ?_))
  refine ev_p rfl (ev_n (by simp) (ev_p rfl (ev_n (by simp) ?_)))
  refine Ev.bind (zz244 s (by omega)) (ev_p rfl (ev_n (by simp) ?_))
  refine Ev.bind (zz244 m (by omega)) (ev_p rfl ?_)
  refine ev_n (by simp) (ev_n (by simp) (ev_n (by simp) (ev_n (by simp) ?_)))
  refine Ev.bind hE (ev_n (by simp) (ev_p rfl ?_))
  exact hfin
 ·have hE : Ev (fun k => impl_AreLevelWires.f k l mm) false := by
   have := zz179 l mm (by omega)
   rw [Bool.not_eq_true] at h;rw [h] at this;exact this
  have hP := zz177 l mm hI (by omega)
  have hA := zz179 l mm (by omega)
  have oS : Ev (fun k => spec_FewestCrossings.f k l mm) ([], 0, false) := by unfold spec_FewestCrossings.f; exact Ev.bind hP (ev_n h (Ev.now _))
  have oI : Ev (fun k => impl_FewestCrossings.f k l mm) ([], 0, false) := by unfold impl_FewestCrossings.f; exact Ev.bind hA (ev_n h (Ev.now _))
  have sS : Ev (fun k => spec_SwappedOrder.f k l mm) ([], false) := by unfold spec_SwappedOrder.f; exact Ev.bind hP (ev_n h (Ev.now _))
  have sI : Ev (fun k => impl_SwappedOrder.f k l mm) ([], false) := by unfold impl_SwappedOrder.f; exact Ev.bind hA (ev_n h (Ev.now _))
  have mS : Ev (fun k => spec_MiddleOrder.f k l mm) ([], false) := by unfold spec_MiddleOrder.f; exact Ev.bind hP (ev_n h (Ev.now _))
  have mI : Ev (fun k => impl_MiddleOrder.f k l mm) ([], false) := by unfold impl_MiddleOrder.f; exact Ev.bind hA (ev_n h (Ev.now _))
  have bS := zz223 l mm hI (by omega)
  have bI := zz224 l mm (by omega)
  have cS := zz232 l mm hI (by omega)
  have cI := zz231 l mm (by omega)
  unfold zz222 at bS bI;unfold countM at cS cI;rw [if_neg h] at bS bI cS cI;refine Ev.bind oI (Ev.bind oS (Ev.bind bI (Ev.bind bS (Ev.bind cI (Ev.bind cS (Ev.bind sI (Ev.bind sS (Ev.bind mI (Ev.bind mS ?_)))))))))
  refine ev_n (by simp) (Ev.bind nil ?_)
  refine ev_p rfl (ev_p rfl (ev_n (by simp) ?_))
  refine ev_p rfl (ev_n (by simp) (ev_p rfl (ev_n (by simp) ?_)))
  refine Ev.bind nil (ev_p rfl (ev_n (by simp) ?_))
  refine Ev.bind nil (ev_p rfl ?_)
  refine ev_n (by simp) (ev_n (by simp) (ev_n (by simp) (ev_n (by simp) ?_)))
  exact Ev.bind hE (ev_n (by simp) (ev_n (by simp) (Ev.now _)))
def lvGood (a : Int) (ds : List Int) (o : List (List Int)) : Prop := ∀ (d : Nat) (w : Int), w ∈ o.getD d [] → 0 ≤ w ∧ (a ≤ w → w - a < ds.length ∧ rd ds (w - a) = d) ∧ (w < a → d = 0)
def totL (o : List (List Int)) : Nat := (o.map List.length).sum
theorem zz253 (x : List Int) (o : List (List Int)) : totL (x :: o) = x.length + totL o := by
 unfold totL;rw [List.map_cons, List.sum_cons]
theorem zz254 (o p : List (List Int)) : totL (o ++ p) = totL o + totL p := by
 unfold totL;rw [List.map_append, List.sum_append]
theorem totL_pad (n : Nat) : totL (List.replicate n ([] : List Int)) = 0 := by
 induction n with
 | zero => rfl
 | succ n ih => rw [List.replicate_succ, zz253, ih]; rfl
theorem totL_set (v : Int) : ∀ (o : List (List Int)) (d : Nat), d < o.length → totL (o.set d (o.getD d [] ++ [v])) = totL o + 1 := by
 intro o;induction o with
 | nil => intro d h; simp at h
 | cons x o ih =>
  intro d h;match d, h with
  | 0, _ =>
   show totL ((x ++ [v]) :: o) = _
   rw [zz253, zz253, List.length_append, List.length_singleton];omega
  | d + 1, h =>
   have := ih d (by simpa using h)
   show totL (x :: o.set d (o.getD d [] ++ [v])) = _
   rw [zz253, zz253, this];omega
theorem totL_put (o : List (List Int)) (d : Nat) (v : Int) : totL (lvPut o d v) = totL o + 1 := by
 unfold lvPut;rw [totL_set v _ d (by simp; omega), zz254, totL_pad]
theorem zz258 {a : Int} (ha : 0 ≤ a) (ds : List Int) (r : List Int) : ∀ (p : List Int) (i : Nat) (o : List (List Int)), i = p.length → ds = p ++ r → (∀ x ∈ r, 0 ≤ x) → lvGood a ds o → lvGood a ds (lvAll a r i o) ∧ totL (lvAll a r i o) = totL o + r.length := by
 induction r with
 | nil => intro p i o _ _ _ h; exact ⟨h, rfl⟩
 | cons d r ih =>
  intro p i o hi e hb h;have hd := hb d List.mem_cons_self
  have hrd : rd ds (i : Int) = d := by rw [e]; exact rdA (by omega)
  have hlen : ds.length = p.length + r.length + 1 := by rw [e]; simp; omega
  rw [lvAll];obtain ⟨h1, h2⟩ := ih (p ++ [d]) (i + 1) (lvPut o d.toNat (a + i)) (by simp; omega) (by rw [e]; simp) (fun x hx => hb x (List.mem_cons_of_mem _ hx)) (by
   intro c w hw;rw [zz27] at hw;split at hw
   ·rename_i hc
    rcases List.mem_append.1 hw with hw | hw
    ·exact h c w hw
    ·rw [List.mem_singleton] at hw
     rw [hw, show a + (i : Int) - a = (i : Int) by omega, hrd]
     exact ⟨by omega, fun _ => ⟨by omega, by omega⟩, fun _ => by omega⟩
   ·exact h c w hw)
  refine ⟨h1, ?_⟩
  rw [h2, totL_put, List.length_cons];omega
theorem zz259 : ∀ (n : Nat) (s x : Int), x ∈ seqFrom s n → s ≤ x ∧ x < s + n := by
 intro n;induction n with
 | zero => intro s x h; cases h
 | succ n ih =>
  intro s x h;rw [seqFrom] at h;rcases List.mem_cons.1 h with e | e
  ·omega
  ·have := ih (s + 1) x e
   omega
theorem zz260 {a : Nat} {gs : List S109} (hg : gs.length ≤ 16) : lvGood a ((depthsM (List.replicate a 0) gs).drop a) (levelsM a gs) ∧ totL (levelsM a gs) = a + gs.length := by
 obtain ⟨h1, h2⟩ := zz258 (a := (a : Int)) (by omega) ((depthsM (List.replicate a 0) gs).drop a) _ [] 0 [seqFrom 0 a] rfl rfl (fun x hx => (zz23 hg x hx).1) (by
  intro d w hw;match d, hw with
  | 0, hw =>
   have := zz259 a 0 w hw
   exact ⟨by omega, fun _ => by omega, fun _ => rfl⟩
  | d + 1, hw => simp at hw)
 refine ⟨h1, ?_⟩
 unfold levelsM;rw [h2, zz24, zz253, seqFrom_length];show a + 0 + gs.length = _
 rw [Nat.add_zero]
theorem zz261 {code : List Int} (hc : bytesOk code) : ∃ n gs os, spec_DrawLevelsOf.f code = some (n, gs, os) ∧ (-1 ≤ n ∧ n ≤ 5) ∧ gs.length ≤ 100 ∧ os.length ≤ 100 := by
 unfold spec_DrawLevelsOf.f;obtain ⟨n, gs, os, a', m', e, _, h⟩ := zz66 hc 0 0 (by omega) (by omega)
 rw [e];exact ⟨n, gs, os, rfl, h⟩
section
variable (more : List Int) (a : Nat) (ha : a ≤ 4) (gs : List S109) (hg : gs.length ≤ 16) (os : List Int) (ds : List Int) (hd : ds.length ≤ 1000)
include ha hg hd
set_option linter.unusedSectionVars false
theorem lev_l1 (lv : List (List Int)) (all : Int) (d : Nat) (level : List Int) (hlen : level.length ≤ 1000) (hgood : ∀ w ∈ level, 0 ≤ w ∧ ((a : Int) ≤ w → w - a < ds.length ∧ rd ds (w - a) = d) ∧ (w < a → d = 0)) (hnext : Ev (fun k => laws_FnLevels.l0 k more ds (wrap64 (all + level.length)) lv lv.length (wrap64 ((d : Int) + 1)) a gs os) true) (hw : ∀ w ∈ level, w ≤ 1000) (r : List Int) : ∀ (p : List Int) (i : Int), i = p.length → level = p ++ r →
  Ev (fun k => laws_FnLevels.l1 k more ds all d level lv lv.length d level level.length i a gs os) true := by
 induction r with
 | nil =>
  intro p i hi e;have hl : level.length = p.length := by rw [e]; simp
  apply ev_up;simp only [laws_FnLevels.l1];exact ev_n (by omega) hnext
 | cons w r ih =>
  intro p i hi e;have hl : level.length = p.length + r.length + 1 := by rw [e]; simp; omega
  have hwi : rd level i = w := by rw [e]; exact rdA hi
  have hwm : w ∈ level := by rw [e]; simp
  obtain ⟨h0, h1, h2⟩ := hgood w hwm
  have hwb := hw w hwm
  have ih' := ih (p ++ [w]) (i + 1) (by simp; omega) (by rw [e]; simp)
  apply ev_up;simp only [laws_FnLevels.l1];refine ev_p (by omega) (ev_p (by omega) (ev_p (by omega) ?_))
  rw [hwi, w64 (n := i + 1) (by omega) (by omega), w64 (n := w - a) (by omega) (by omega)]
  by_cases c : w ≥ (a : Int)
  ·obtain ⟨g1, g2⟩ := h1 c
   exact ev_p c (ev_p (by omega) (ev_p (by omega) (ev_p g2 (ev_n (by omega) ih'))))
  ·have g := h2 (by omega)
   exact ev_n c (ev_p (by omega) (ev_p (by omega) ih'))
theorem lev_l0 (lv : List (List Int)) (hlv : lv.length ≤ 400) (hrow : ∀ y ∈ lv, y.length ≤ 20) (hgood : lvGood a ds lv) (hds : ds.length ≤ 16) (htot : totL lv = a + gs.length) (hj : Ev (fun k => laws_FnLevels.j2 k more) true) (r : List (List Int)) : ∀ (p : List (List Int)) (d : Nat), d = p.length → lv = p ++ r →
  Ev (fun k => laws_FnLevels.l0 k more ds ((totL p : Nat) : Int) lv lv.length (d : Int) a gs os) true := by
 induction r with
 | nil =>
  intro p d hdp e;have hl : lv.length = p.length := by rw [e]; simp
  rw [List.append_nil] at e;apply ev_up;simp only [laws_FnLevels.l0];rw [← e, htot, w64 (n := (a : Int) + (gs.length : Int)) (by omega) (by omega)]
  exact ev_n (by omega) (ev_p (by omega) hj)
 | cons y r ih =>
  intro p d hdp e;have hl : lv.length = p.length + r.length + 1 := by rw [e]; simp; omega
  have hy : rd_L4 lv (d : Int) = y := by rw [e]; exact getDA (by omega)
  have hyg : lv.getD d [] = y := hy
  have hyl := hrow y (by rw [e]; simp)
  have ht : totL lv = totL p + (y.length + totL r) := by rw [e, zz254, zz253]
  have ih' := ih (p ++ [y]) (d + 1) (by simp; omega) (by rw [e]; simp)
  have et : ((totL (p ++ [y]) : Nat) : Int) = wrap64 (((totL p : Nat) : Int) + (y.length : Int)) := by
   rw [w64 (n := ((totL p : Nat) : Int) + (y.length : Int)) (by omega) (by omega), zz254, zz253]
   show ((totL p + (y.length + 0) : Nat) : Int) = _
   omega
  rw [et, show ((d + 1 : Nat) : Int) = wrap64 ((d : Int) + 1) by rw [w64 (n := (d : Int) + 1) (by omega) (by omega)]; omega] at ih'
  have hg' : ∀ w ∈ y, 0 ≤ w ∧ ((a : Int) ≤ w → w - a < ds.length ∧ rd ds (w - a) = d) ∧ (w < a → d = 0) := fun w hw => hgood d w (by rw [hyg]; exact hw)
  apply ev_up;simp only [laws_FnLevels.l0];refine ev_p (by omega) (ev_p (by omega) (ev_p (by omega) ?_))
  rw [hy];exact lev_l1 more a ha gs hg os ds hd lv ((totL p : Nat) : Int) d y (by omega) hg' ih' (fun w hw => by
   obtain ⟨q0, q1, q2⟩ := hg' w hw
   by_cases c : (a : Int) ≤ w
   ·have := (q1 c).1
    omega
   ·omega) y [] 0 rfl rfl
end
theorem FnLevels : laws_FnLevels.Pure := by
 intro l0 l1 _ h1 h2 _ h3 h4;apply ev_get
 have hc0 := bytes_of h1 h2
 have hc1 := bytes_of h3 h4
 unfold laws_FnLevels.f;obtain ⟨b, hb⟩ : ∃ b, laws_big.f l0 l1 = some b := by
  unfold laws_big.f;split <;> exact ⟨_, rfl⟩
 simp only [hb, Option.bind_some];cases b with
 | true => exact ev_p rfl (Ev.now _)
 | false =>
  refine ev_n (by decide) ?_
  obtain ⟨n, gs, os, e, hn, hg, ho⟩ := zz261 hc0
  simp only [e, Option.bind_some];have hj2 := lev_j2 l1 hc1
  have hI : I64 n := ⟨by omega, by omega⟩
  have hlen := zz50 n gs os
  refine Ev.bind (zz52 n gs os (by omega) (by omega)) (Ev.bind (zz51 n gs os hI (by omega) (by omega)) ?_)
  refine ev_n (by simp) (Ev.bind (zz246 _ (by omega) (fun y hy => by have := hlen.2 y hy; omega)) (ev_p rfl ?_))
  by_cases h : circuitM n gs os = true
  ·have e2 : zz49 n gs os = (levelsM n.toNat gs, true) := by
    unfold zz49;rw [if_pos h]
   have e3 : zz34 n gs os = ((depthsM (List.replicate n.toNat 0) gs).drop n.toNat, true) := by
    unfold zz34;rw [if_pos h]
   have hdl := zz35 n gs os
   have hI1 := zz40 n gs os (by omega) (by omega)
   have hS1 := zz53 n gs os hI (by omega) (by omega)
   obtain ⟨a, rfl, ha, hg2, _⟩ := zz9 h
   obtain ⟨g1, g2⟩ := zz260 (a := a) (gs := gs) hg2
   simp only [Int.toNat_natCast] at e2 e3;rw [e2] at hlen ⊢
   rw [e3] at hdl hI1 hS1;have hdl2 : ((depthsM (List.replicate a 0) gs).drop a).length ≤ 16 := hdl
   refine ev_p rfl (Ev.bind hI1 (Ev.bind hS1 (ev_p rfl (ev_p rfl (Ev.bind (zz244 _ (by show ((depthsM (List.replicate a 0) gs).drop a).length ≤ _; omega)) (ev_p rfl ?_))))))
   exact lev_l0 l1 a ha gs hg2 os _ (by omega) (levelsM a gs) hlen.1 hlen.2 g1 hdl2 g2 hj2 (levelsM a gs) [] 0 rfl rfl
  ·have e2 : zz49 n gs os = ([], false) := by
    unfold zz49;rw [if_neg h]
   rw [e2];exact ev_n (by decide) hj2
end Go.Proofs.Ytlnhpkjioppbiaa.Pure
