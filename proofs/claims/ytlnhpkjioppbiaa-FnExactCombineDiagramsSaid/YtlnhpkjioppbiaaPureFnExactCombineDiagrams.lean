/- The pure part of the law FnExactCombineDiagrams: what the program and the reference compute is the same, for all arguments. Conditions: the numbers are of Go's int, the lengths of slices are. -/
import Derived.Test.YtlnhpkjioppbiaaSFnExactCombineDiagramsx17
import Derived.Test.YtlnhpkjioppbiaaVCDKit
set_option linter.unusedVariables false
set_option linter.unusedSimpArgs false
namespace Go.Proofs.Ytlnhpkjioppbiaa.Pure
open Go.RowKit Go.Proofs.Ytlnhpkjioppbiaa.QFnExactCombineDiagrams Go.Proofs.YtlnhpkjioppbiaaW.PrintWords Go.Proofs.YtlnhpkjioppbiaaW.PrintLast Go.Proofs.Ytlnhpkjioppbiaa.Open Go.Proofs.Ytlnhpkjioppbiaa.Kit
/-! #### ndM -/
def ndVisit (ns : List S93) : Nat → Int → List Int → List Int
 | 0, _, out => out
 | F + 1, r, out => if r < 2 ∨ r - 2 ∈ out then out else ndVisit ns F (ns.getD (r - 2).toNat z93).f2 (ndVisit ns F (ns.getD (r - 2).toNat z93).f1 out) ++ [r - 2]
def ndVal (ns : List S93) (idx : Nat) : Nat → Int → Int
 | 0, r => r
 | F + 1, r => if r < 2 then r else ndVal ns idx F (if (idx >>> (ns.getD (r - 2).toNat z93).f0.toNat) % 2 = 1 then (ns.getD (r - 2).toNat z93).f2 else (ns.getD (r - 2).toNat z93).f1)
def ndIota (n : Nat) : List Int := (List.range n).map (fun (i : Nat) => (i : Int))
theorem ndIota_length (n : Nat) : (ndIota n).length = n := by simp [ndIota]
theorem ndIota_mem {n : Nat} {x : Int} : x ∈ ndIota n ↔ 0 ≤ x ∧ x < (n : Int) := by
 unfold ndIota
 constructor
 ·intro h
  obtain ⟨i, hi, rfl⟩ := List.mem_map.1 h
  have := List.mem_range.1 hi
  omega
 ·intro ⟨h0, h1⟩
  exact List.mem_map.2 ⟨x.toNat, List.mem_range.2 (by omega), by omega⟩
theorem ndIota_succ (n : Nat) : ndIota (n + 1) = ndIota n ++ [(n : Int)] := by
 unfold ndIota
 rw [List.range_succ, List.map_append, List.map_singleton]
theorem ndIota_pre {m : Nat} : ∀ {n : Nat} {l : List Int}, l <+: ndIota n → l.length = m → l = ndIota m := by
 intro n l h hl
 have h1 := List.prefix_iff_eq_take.1 h
 have h2 : m ≤ n := by
  have := h.length_le
  rw [ndIota_length] at this
  omega
 rw [hl] at h1
 rw [h1]
 unfold ndIota
 rw [← List.map_take, List.take_range, Nat.min_eq_left h2]
/-- Bounds alone. -/
structure NdB (n : Nat) (ns : List S93) : Prop where
 inp : ∀ i, i < ns.length → 0 ≤ (ns.getD i z93).f0 ∧ (ns.getD i z93).f0 < (n : Int)
 low : ∀ i, i < ns.length → 0 ≤ (ns.getD i z93).f1 ∧ (ns.getD i z93).f1 < 2 + (i : Int)
 high : ∀ i, i < ns.length → 0 ≤ (ns.getD i z93).f2 ∧ (ns.getD i z93).f2 < 2 + (i : Int)
/-- A node's references. -/
def ndRef (ns : List S93) (i : Nat) (inp r : Int) : Prop := 0 ≤ r ∧ r < 2 + (i : Int) ∧ (2 ≤ r → inp < (ns.getD (r - 2).toNat z93).f0)
structure NdOk (n : Nat) (ns : List S93) : Prop where
 inp : ∀ i, i < ns.length → 0 ≤ (ns.getD i z93).f0 ∧ (ns.getD i z93).f0 < (n : Int)
 ne : ∀ i, i < ns.length → (ns.getD i z93).f1 ≠ (ns.getD i z93).f2
 low : ∀ i, i < ns.length → ndRef ns i (ns.getD i z93).f0 (ns.getD i z93).f1
 high : ∀ i, i < ns.length → ndRef ns i (ns.getD i z93).f0 (ns.getD i z93).f2
 one : ∀ i j, i < j → j < ns.length → ns.getD i z93 ≠ ns.getD j z93
theorem NdOk.b {n : Nat} {ns : List S93} (h : NdOk n ns) : NdB n ns := ⟨h.inp, fun i hi => ⟨(h.low i hi).1, (h.low i hi).2.1⟩, fun i hi => ⟨(h.high i hi).1, (h.high i hi).2.1⟩⟩
theorem ndVisit_pre (ns : List S93) : ∀ (F : Nat) (r : Int) (out : List Int), out <+: ndVisit ns F r out := by
 intro F
 induction F with
 | zero => intro r out; exact List.prefix_refl _
 | succ F ih =>
  intro r out
  rw [ndVisit]
  split
  ·exact List.prefix_refl _
  ·exact ((ih _ _).trans (ih _ _)).trans (List.prefix_append _ _)
theorem ndVisit_seen (ns : List S93) (F : Nat) (r : Int) (m : Nat) (h : r < 2 + (m : Int)) : ndVisit ns F r (ndIota m) = ndIota m := by
 cases F with
 | zero => rfl
 | succ F =>
  rw [ndVisit]
  by_cases h2 : r < 2
  ·rw [if_pos (Or.inl h2)]
  ·rw [if_pos (Or.inr (ndIota_mem.2 (by omega)))]
theorem ndAt_le (x : S93) : ∀ (ns : List S93), ndAt x ns ≤ ns.length := by
 intro ns
 induction ns with
 | nil => exact Nat.le_refl _
 | cons y r ih => rw [ndAt]; split <;> simp <;> omega
theorem ndAt_get (x : S93) : ∀ (ns : List S93), ndAt x ns < ns.length → ns.getD (ndAt x ns) z93 = x := by
 intro ns
 induction ns with
 | nil => intro h; simp at h
 | cons y r ih =>
  intro h
  rw [ndAt] at h ⊢
  split
  ·rename_i e; simpa using e
  ·rename_i e
   rw [if_neg e] at h
   simpa using ih (by simpa using h)
theorem ndAt_lt (x : S93) : ∀ (ns : List S93) (i : Nat), i < ns.length → ns.getD i z93 = x → ndAt x ns ≤ i := by
 intro ns
 induction ns with
 | nil => intro i h; simp at h
 | cons y r ih =>
  intro i h e
  rw [ndAt]
  cases i with
  | zero => rw [if_pos (by simpa using e)]; exact Nat.le_refl _
  | succ i =>
   split
   ·omega
   ·have := ih i (by simpa using h) (by simpa using e)
    omega
theorem nd_take_getD (ns : List S93) (m i : Nat) (h : i < m) : (ns.take m).getD i z93 = ns.getD i z93 := by
 rw [List.getD_eq_getElem?_getD, List.getD_eq_getElem?_getD, List.getElem?_take_of_lt h]
theorem nd_pre_getD {ns ms : List S93} (h : ns <+: ms) (i : Nat) (hi : i < ns.length) : ms.getD i z93 = ns.getD i z93 := by
 obtain ⟨t, rfl⟩ := h
 rw [List.getD_eq_getElem?_getD, List.getD_eq_getElem?_getD, List.getElem?_append_left hi]
/-- A node that is there, in the part that has been made: its place. -/
theorem ndAt_here {n : Nat} {ns : List S93} (h : NdOk n ns) {m i : Nat} (hm : m ≤ ns.length) (hi : i < m) : ndAt (ns.getD i z93) (ns.take m) = i := by
 have hl : (ns.take m).length = m := by rw [List.length_take]; omega
 have h1 := ndAt_lt (ns.getD i z93) (ns.take m) i (by omega) (nd_take_getD ns m i hi)
 have h2 := ndAt_get (ns.getD i z93) (ns.take m) (by omega)
 rw [nd_take_getD ns m _ (by omega)] at h2
 by_cases e : ndAt (ns.getD i z93) (ns.take m) = i
 ·exact e
 ·exact absurd h2 (h.one _ _ (by omega) (by omega))
theorem ndAt_not {n : Nat} {ns : List S93} (h : NdOk n ns) {m i : Nat} (hi : i < ns.length) (hm : m ≤ i) : ¬ ndAt (ns.getD i z93) (ns.take m) < (ns.take m).length := by
 intro hlt
 have h2 := ndAt_get (ns.getD i z93) (ns.take m) hlt
 have hl : (ns.take m).length = m := by rw [List.length_take]; omega
 rw [nd_take_getD ns m _ (by omega)] at h2
 exact h.one _ _ (by omega) hi h2
theorem nd_take_succ (ns : List S93) (m : Nat) (h : m < ns.length) : ns.take m ++ [ns.getD m z93] = ns.take (m + 1) := by
 rw [List.take_succ_eq_append_getElem h, List.getD_eq_getElem?_getD, List.getElem?_eq_getElem h]
 rfl
theorem ndVal_more {n : Nat} {ns : List S93} (h : NdB n ns) (idx : Nat) : ∀ (F G : Nat) (r : Int), r < 2 + (ns.length : Int) → r < (F : Int) + 2 → r < (G : Int) + 2 → ndVal ns idx F r = ndVal ns idx G r := by
 intro F
 induction F with
 | zero =>
  intro G r _ hF _
  cases G with
  | zero => rfl
  | succ G => rw [ndVal, ndVal, if_pos (by omega)]
 | succ F ih =>
  intro G r hr hF hG
  by_cases h2 : r < 2
  ·cases G with
   | zero => simp [ndVal, h2]
   | succ G => simp [ndVal, h2]
  ·cases G with
   | zero => omega
   | succ G =>
    rw [ndVal, if_neg h2, ndVal, if_neg h2]
    have h3 := h.low (r - 2).toNat (by omega)
    have h4 := h.high (r - 2).toNat (by omega)
    have h5 := h3.2
    have h6 := h4.2
    refine ih G _ ?_ ?_ ?_ <;> split <;> omega
/-- The value of a valid diagram is 0 or 1. -/
theorem ndVal_bit {n : Nat} {ns : List S93} (h : NdB n ns) (idx : Nat) : ∀ (F : Nat) (r : Int), 0 ≤ r → r < 2 + (ns.length : Int) → r < (F : Int) + 2 → 0 ≤ ndVal ns idx F r ∧ ndVal ns idx F r ≤ 1 := by
 intro F
 induction F with
 | zero => intro r h0 _ h1; rw [ndVal]; omega
 | succ F ih =>
  intro r h0 hr hF
  rw [ndVal]
  by_cases h2 : r < 2
  ·rw [if_pos h2]; omega
  ·rw [if_neg h2]
   have h3 := h.low (r - 2).toNat (by omega)
   have h4 := h.high (r - 2).toNat (by omega)
   have h5 := h3.2
   have h6 := h4.2
   have h7 := h3.1
   have h8 := h4.1
   refine ih _ ?_ ?_ ?_ <;> split <;> omega
theorem nd_bit0 {n d idx : Nat} (hd : d + 1 ≤ n) (hi : idx < 2 ^ (n - (d + 1))) (j : Nat) : ((idx + 2 ^ (n - d) * j) >>> (n - (d + 1))) % 2 = 0 := by
 rw [Nat.shiftRight_eq_div_pow, show n - d = n - (d + 1) + 1 by omega, Nat.pow_succ, Nat.mul_assoc, Nat.add_comm, Nat.mul_add_div (Nat.two_pow_pos _), Nat.div_eq_of_lt hi]
 omega
theorem nd_bit1 {n d idx : Nat} (hd : d + 1 ≤ n) (hi : idx < 2 ^ (n - (d + 1))) (j : Nat) : ((idx + 2 ^ (n - (d + 1)) + 2 ^ (n - d) * j) >>> (n - (d + 1))) % 2 = 1 := by
 rw [Nat.shiftRight_eq_div_pow, show n - d = n - (d + 1) + 1 by omega, Nat.pow_succ, Nat.mul_assoc, show idx + 2 ^ (n - (d + 1)) + 2 ^ (n - (d + 1)) * (2 * j) = 2 ^ (n - (d + 1)) * (2 * j + 1) + idx by rw [Nat.mul_add]; omega, Nat.mul_add_div (Nat.two_pow_pos _), Nat.div_eq_of_lt hi]
 omega
theorem nd_pow {n d : Nat} (hd : d + 1 ≤ n) : 2 ^ (n - d) = 2 ^ (n - (d + 1)) + 2 ^ (n - (d + 1)) := by
 rw [show n - d = n - (d + 1) + 1 by omega, Nat.pow_succ]
 omega
theorem ndVisit_more {n : Nat} {ns : List S93} (h : NdB n ns) : ∀ (F G : Nat) (r : Int) (out : List Int), r < 2 + (ns.length : Int) → r < (F : Int) + 2 → r < (G : Int) + 2 → ndVisit ns F r out = ndVisit ns G r out := by
 intro F
 induction F with
 | zero =>
  intro G r out _ hF _
  cases G with
  | zero => rfl
  | succ G => rw [ndVisit, ndVisit, if_pos (Or.inl (by omega))]
 | succ F ih =>
  intro G r out hr hF hG
  by_cases h2 : r < 2
  ·cases G with
   | zero => simp [ndVisit, h2]
   | succ G => simp [ndVisit, h2]
  ·cases G with
   | zero => omega
   | succ G =>
    rw [ndVisit, ndVisit]
    split
    ·rfl
    ·have h3 := (h.low (r - 2).toNat (by omega)).2
     have h4 := (h.high (r - 2).toNat (by omega)).2
     rw [ih G _ out (by omega) (by omega) (by omega), ih G _ _ (by omega) (by omega) (by omega)]
/-- One visit, with as many rounds as there are nodes. -/
theorem ndVisit_step {n : Nat} {ns : List S93} (h : NdB n ns) {F : Nat} (hF : ns.length ≤ F) {q : Nat} (hq : q < ns.length) (out : List Int) (ho : (q : Int) ∉ out) :
  ndVisit ns F (2 + (q : Int)) out = ndVisit ns F (ns.getD q z93).f2 (ndVisit ns F (ns.getD q z93).f1 out) ++ [(q : Int)] := by
 obtain ⟨F, rfl⟩ : ∃ G, F = G + 1 := ⟨F - 1, by omega⟩
 have h3 := (h.low q hq).2
 have h4 := (h.high q hq).2
 rw [ndVisit_more h (F + 1) F (ns.getD q z93).f1 _ (by omega) (by omega) (by omega), ndVisit_more h (F + 1) F (ns.getD q z93).f2 _ (by omega) (by omega) (by omega)]
 have e : 2 + (q : Int) - 2 = (q : Int) := by omega
 rw [ndVisit, e, Int.toNat_natCast, if_neg (fun hh => hh.elim (fun hh => by omega) ho)]
theorem ndVal_step {n : Nat} {ns : List S93} (h : NdB n ns) {F : Nat} (hF : ns.length ≤ F) {q : Nat} (hq : q < ns.length) (idx : Nat) :
  ndVal ns idx F (2 + (q : Int)) = ndVal ns idx F (if (idx >>> (ns.getD q z93).f0.toNat) % 2 = 1 then (ns.getD q z93).f2 else (ns.getD q z93).f1) := by
 obtain ⟨F, rfl⟩ : ∃ G, F = G + 1 := ⟨F - 1, by omega⟩
 have h3 := (h.low q hq).2
 have h4 := (h.high q hq).2
 have e : 2 + (q : Int) - 2 = (q : Int) := by omega
 rw [ndVal_more h idx (F + 1) F (if (idx >>> (ns.getD q z93).f0.toNat) % 2 = 1 then (ns.getD q z93).f2 else (ns.getD q z93).f1) (by split <;> omega) (by split <;> omega) (by split <;> omega), ndVal, e, Int.toNat_natCast, if_neg (by omega)]
/-- A valid diagram is what is made of its table. -/
theorem ndBuild_of {n : Nat} {ns : List S93} (h : NdOk n ns) (vs : List Int) (F : Nat) (hF : ns.length ≤ F) : ∀ (d : Nat) (idx : Nat) (r : Int) (m m' : Nat), d ≤ n → idx < 2 ^ (n - d) → 0 ≤ r → r < 2 + (ns.length : Int) → (2 ≤ r → ((n - d : Nat) : Int) ≤ (ns.getD (r - 2).toNat z93).f0) → m ≤ ns.length → m' ≤ ns.length →
  ndVisit ns F r (ndIota m) = ndIota m' → (∀ j, j < 2 ^ d → rd vs ((idx + 2 ^ (n - d) * j : Nat) : Int) = ndVal ns (idx + 2 ^ (n - d) * j) F r) → ndBuild vs n d idx (ns.take m) = (ns.take m', r) := by
 intro d
 induction d with
 | zero =>
  intro idx r m m' _ hidx h0 hr hin hm hm' hv hvs
  have hr2 : r < 2 := by
   by_cases h2 : r < 2
   ·exact h2
   ·have := hin (by omega)
    have := (h.inp (r - 2).toNat (by omega)).2
    omega
  rw [ndVisit_seen _ _ _ _ (by omega)] at hv
  have e2 : m = m' := by rw [← ndIota_length m, hv, ndIota_length]
  subst e2
  rw [ndBuild]
  have e3 := hvs 0 (by simp)
  rw [Nat.mul_zero, Nat.add_zero] at e3
  rw [e3]
  cases F with
  | zero => rfl
  | succ F => rw [ndVal, if_pos hr2]
 | succ d ih =>
  intro idx r m m' hd hidx h0 hr hin hm hm' hv hvs
  have hpw := nd_pow hd
  have hx1 : idx < 2 ^ (n - d) := by omega
  have hx2 : idx + 2 ^ (n - (d + 1)) < 2 ^ (n - d) := by omega
  have hpd : 2 ^ (d + 1) = 2 ^ d + 2 ^ d := by rw [Nat.pow_succ]; omega
  have hj0 : ∀ j, idx + 2 ^ (n - d) * j = idx + 2 ^ (n - (d + 1)) * (2 * j) := fun j => by rw [← Nat.mul_assoc, Nat.mul_comm _ 2, hpw, show 2 * 2 ^ (n - (d + 1)) = 2 ^ (n - (d + 1)) + 2 ^ (n - (d + 1)) by omega]
  have hj1 : ∀ j, idx + 2 ^ (n - (d + 1)) + 2 ^ (n - d) * j = idx + 2 ^ (n - (d + 1)) * (2 * j + 1) := fun j => by rw [Nat.mul_add, Nat.mul_one]; have := hj0 j; omega
  have hmm : m ≤ m' := by
   have := (ndVisit_pre ns F r (ndIota m)).length_le
   rw [hv, ndIota_length, ndIota_length] at this
   exact this
  by_cases hat : 2 ≤ r ∧ (ns.getD (r - 2).toNat z93).f0 = ((n - (d + 1) : Nat) : Int)
  ·obtain ⟨h2, hat⟩ := hat
   obtain ⟨q, rfl⟩ : ∃ q : Nat, r = 2 + (q : Int) := ⟨(r - 2).toNat, by omega⟩
   have hqn : (2 + (q : Int) - 2).toNat = q := by omega
   rw [hqn] at hat
   have hql : q < ns.length := by omega
   obtain ⟨l0, l1, l2⟩ := h.low q hql
   obtain ⟨g0, g1, g2⟩ := h.high q hql
   obtain ⟨m1, m2, hm1, hm2, hv1, hv2, hend⟩ : ∃ m1 m2, m1 ≤ ns.length ∧ m2 ≤ ns.length ∧ ndVisit ns F (ns.getD q z93).f1 (ndIota m) = ndIota m1 ∧ ndVisit ns F (ns.getD q z93).f2 (ndIota m1) = ndIota m2 ∧ ((q < m2 ∧ m' = m2) ∨ (m2 = q ∧ m' = q + 1)) := by
    by_cases hs : q < m
    ·have e := hv
     rw [ndVisit_seen _ _ _ _ (by omega)] at e
     have e2 : m = m' := by rw [← ndIota_length m, e, ndIota_length]
     exact ⟨m, m, hm, hm, ndVisit_seen _ _ _ _ (by omega), ndVisit_seen _ _ _ _ (by omega), Or.inl ⟨hs, e2.symm⟩⟩
    ·have e0 := hv
     rw [ndVisit_step h.b hF hql _ (by rw [ndIota_mem]; omega)] at e0
     have hm'0 : m' ≠ 0 := by
      rintro rfl
      have := congrArg List.length e0
      rw [ndIota_length] at this
      simp at this
     obtain ⟨p, rfl⟩ : ∃ p, m' = p + 1 := ⟨m' - 1, by omega⟩
     rw [ndIota_succ] at e0
     have e1 := List.append_inj' e0 rfl
     have e2 : (q : Int) = (p : Int) := by simpa using e1.2
     have e3 : q = p := by omega
     subst e3
     have e4 := e1.1
     have hp2 := ndVisit_pre ns F (ns.getD q z93).f2 (ndVisit ns F (ns.getD q z93).f1 (ndIota m))
     rw [e4] at hp2
     have e5 := ndIota_pre hp2 rfl
     have hl5 := hp2.length_le
     rw [ndIota_length] at hl5
     exact ⟨_, q, by omega, by omega, e5, by rw [← e5]; exact e4, Or.inr ⟨rfl, rfl⟩⟩
   have i1 := ih idx (ns.getD q z93).f1 m m1 (by omega) hx1 l0 (by omega) (fun hh => by have := l2 hh; rw [hat] at this; omega) hm hm1 hv1 (fun j hj => by
    rw [hj0 j, hvs (2 * j) (by omega), ← hj0 j, ndVal_step h.b hF hql, hat, Int.toNat_natCast, nd_bit0 hd hidx j, if_neg (by decide)])
   have i2 := ih (idx + 2 ^ (n - (d + 1))) (ns.getD q z93).f2 m1 m2 (by omega) hx2 g0 (by omega) (fun hh => by have := g2 hh; rw [hat] at this; omega) hm1 hm2 hv2 (fun j hj => by
    rw [hj1 j, hvs (2 * j + 1) (by omega), ← hj1 j, ndVal_step h.b hF hql, hat, Int.toNat_natCast, nd_bit1 hd hidx j, if_pos rfl])
   rw [ndBuild, i1]
   dsimp only
   rw [i2]
   dsimp only
   have e6 : (⟨((n - (d + 1) : Nat) : Int), (ns.getD q z93).f1, (ns.getD q z93).f2⟩ : S93) = ns.getD q z93 := by rw [← hat]
   rw [e6]
   unfold ndNode
   rw [if_neg (h.ne q hql)]
   rcases hend with ⟨hq2, rfl⟩ | ⟨rfl, rfl⟩
   ·rw [ndAt_here h hm2 hq2, if_pos (by rw [List.length_take]; omega)]
   ·rw [if_neg (ndAt_not h hql (Nat.le_refl _)), nd_take_succ ns m2 hql]
    simp
    omega
  ·have hin' : 2 ≤ r → ((n - d : Nat) : Int) ≤ (ns.getD (r - 2).toNat z93).f0 := fun hh => by
    have := hin hh
    have : (ns.getD (r - 2).toNat z93).f0 ≠ ((n - (d + 1) : Nat) : Int) := fun e => hat ⟨hh, e⟩
    omega
   have hv2 : ndVisit ns F r (ndIota m') = ndIota m' := by
    refine ndVisit_seen _ _ _ _ ?_
    by_cases h2 : r < 2
    ·omega
    ·obtain ⟨q, rfl⟩ : ∃ q : Nat, r = 2 + (q : Int) := ⟨(r - 2).toNat, by omega⟩
     by_cases hs : q < m
     ·omega
     ·rw [ndVisit_step h.b hF (by omega) _ (by rw [ndIota_mem]; omega)] at hv
      have : (q : Int) ∈ ndIota m' := by rw [← hv]; simp
      rw [ndIota_mem] at this
      omega
   have i1 := ih idx r m m' (by omega) hx1 h0 hr hin' hm hm' hv (fun j hj => by rw [hj0 j]; exact hvs (2 * j) (by omega))
   have i2 := ih (idx + 2 ^ (n - (d + 1))) r m' m' (by omega) hx2 h0 hr hin' hm' hm' hv2 (fun j hj => by rw [hj1 j]; exact hvs (2 * j + 1) (by omega))
   rw [ndBuild, i1]
   dsimp only
   rw [i2]
   unfold ndNode
   rw [if_pos rfl]
theorem ndBuild_good {n : Nat} {ns : List S93} (h : NdOk n ns) (vs : List Int) (F : Nat) (hF : ns.length ≤ F) (root : Int) (h0 : 0 ≤ root) (h1 : root < 2 + (ns.length : Int)) (hv : ndVisit ns F root [] = ndIota ns.length) (hvs : ∀ j, j < 2 ^ n → rd vs ((j : Nat) : Int) = ndVal ns j F root) : ndBuild vs n n 0 [] = (ns, root) := by
 have := ndBuild_of h vs F hF n 0 root 0 ns.length (Nat.le_refl _) (by simp) h0 h1 (fun hh => by
  have := (h.inp (root - 2).toNat (by omega)).1
  simpa using this) (Nat.zero_le _) (Nat.le_refl _) hv (fun j hj => by simpa using hvs j hj)
 simpa using this
/-- What is true of a list in the making: it goes on being true when nodes are added. -/
theorem NdOk.snoc {n : Nat} {ns : List S93} (h : NdOk n ns) (x : S93) (hi : 0 ≤ x.f0 ∧ x.f0 < (n : Int)) (hne : x.f1 ≠ x.f2) (hl : ndRef ns ns.length x.f0 x.f1) (hh : ndRef ns ns.length x.f0 x.f2) (hx : ∀ i, i < ns.length → ns.getD i z93 ≠ x) : NdOk n (ns ++ [x]) := by
 have g1 : ∀ i, i < ns.length → (ns ++ [x]).getD i z93 = ns.getD i z93 := fun i hi => nd_pre_getD (List.prefix_append _ _) i hi
 have g2 : (ns ++ [x]).getD ns.length z93 = x := by simp
 have gr : ∀ (i : Nat) (a r : Int), i ≤ ns.length → ndRef ns i a r → ndRef (ns ++ [x]) i a r := fun i a r hi ⟨h0, h1, h2⟩ => ⟨h0, h1, fun hh => by rw [g1 _ (by omega)]; exact h2 hh⟩
 refine ⟨fun i hi' => ?_, fun i hi' => ?_, fun i hi' => ?_, fun i hi' => ?_, fun i j hij hj => ?_⟩
 ·rw [List.length_append, List.length_singleton] at hi'
  by_cases e : i = ns.length
  ·subst e; rw [g2]; exact hi
  ·rw [g1 i (by omega)]; exact h.inp i (by omega)
 ·rw [List.length_append, List.length_singleton] at hi'
  by_cases e : i = ns.length
  ·subst e; rw [g2]; exact hne
  ·rw [g1 i (by omega)]; exact h.ne i (by omega)
 ·rw [List.length_append, List.length_singleton] at hi'
  by_cases e : i = ns.length
  ·subst e; rw [g2]; exact gr _ _ _ (Nat.le_refl _) hl
  ·rw [g1 i (by omega)]; exact gr _ _ _ (by omega) (h.low i (by omega))
 ·rw [List.length_append, List.length_singleton] at hi'
  by_cases e : i = ns.length
  ·subst e; rw [g2]; exact gr _ _ _ (Nat.le_refl _) hh
  ·rw [g1 i (by omega)]; exact gr _ _ _ (by omega) (h.high i (by omega))
 ·rw [List.length_append, List.length_singleton] at hj
  by_cases e : j = ns.length
  ·subst e; rw [g2, g1 i (by omega)]; exact hx i (by omega)
  ·rw [g1 i (by omega), g1 j (by omega)]; exact h.one i j hij (by omega)
/-- What has been made of a part of a table. -/
structure NdMade (n d : Nat) (vs : List Int) (idx : Nat) (ns : List S93) (p : List S93 × Int) : Prop where
 pre : ns <+: p.1
 len : p.1.length + 1 ≤ ns.length + 2 ^ d
 ok : NdOk n p.1
 r0 : 0 ≤ p.2
 r1 : p.2 < 2 + (p.1.length : Int)
 inp : 2 ≤ p.2 → ((n - d : Nat) : Int) ≤ (p.1.getD (p.2 - 2).toNat z93).f0
 new : ∀ i, ns.length ≤ i → i < p.1.length → ((n - d : Nat) : Int) ≤ (p.1.getD i z93).f0
 visit : ∀ ms F, p.1 <+: ms → NdOk n ms → ms.length ≤ F → ndVisit ms F p.2 (ndIota ns.length) = ndIota p.1.length
 val : ∀ ms F, p.1 <+: ms → NdOk n ms → ms.length ≤ F → ∀ j, j < 2 ^ d → ndVal ms (idx + 2 ^ (n - d) * j) F p.2 = rd vs ((idx + 2 ^ (n - d) * j : Nat) : Int)
theorem ndBuild_made {n : Nat} (vs : List Int) (hvs : ∀ i, 0 ≤ rd vs ((i : Nat) : Int) ∧ rd vs ((i : Nat) : Int) ≤ 1) : ∀ (d : Nat) (idx : Nat) (ns : List S93), d ≤ n → idx < 2 ^ (n - d) → NdOk n ns → NdMade n d vs idx ns (ndBuild vs n d idx ns) := by
 intro d
 induction d with
 | zero =>
  intro idx ns _ _ h
  have hb := hvs idx
  rw [ndBuild]
  refine ⟨List.prefix_refl _, by simp, h, hb.1, by show rd vs ((idx : Nat) : Int) < _; omega, fun hh => by have : 2 ≤ rd vs ((idx : Nat) : Int) := hh; omega, fun i h1 h2 => by have : i < ns.length := h2; omega, fun ms F _ _ _ => ndVisit_seen _ _ _ _ (by show rd vs ((idx : Nat) : Int) < _; omega), fun ms F _ _ _ j hj => ?_⟩
  obtain rfl : j = 0 := by simpa using hj
  rw [Nat.mul_zero, Nat.add_zero]
  cases F with
  | zero => rfl
  | succ F => rw [ndVal, if_pos (by show rd vs ((idx : Nat) : Int) < _; omega)]
 | succ d ih =>
  intro idx ns hd hidx h
  have hpw := nd_pow hd
  have hx1 : idx < 2 ^ (n - d) := by omega
  have hx2 : idx + 2 ^ (n - (d + 1)) < 2 ^ (n - d) := by omega
  have hpd : 2 ^ (d + 1) = 2 ^ d + 2 ^ d := by rw [Nat.pow_succ]; omega
  have hp0 : 0 < 2 ^ d := Nat.two_pow_pos d
  have hj0 : ∀ j, idx + 2 ^ (n - d) * j = idx + 2 ^ (n - (d + 1)) * (2 * j) := fun j => by rw [← Nat.mul_assoc, Nat.mul_comm _ 2, hpw, show 2 * 2 ^ (n - (d + 1)) = 2 ^ (n - (d + 1)) + 2 ^ (n - (d + 1)) by omega]
  have hj1 : ∀ j, idx + 2 ^ (n - (d + 1)) + 2 ^ (n - d) * j = idx + 2 ^ (n - (d + 1)) * (2 * j + 1) := fun j => by rw [Nat.mul_add, Nat.mul_one]; have := hj0 j; omega
  have A := ih idx ns (by omega) hx1 h
  rw [ndBuild]
  generalize ndBuild vs n d idx ns = a at A ⊢
  obtain ⟨n1, lo⟩ := a
  have B := ih (idx + 2 ^ (n - (d + 1))) n1 (by omega) hx2 A.ok
  dsimp only
  generalize ndBuild vs n d (idx + 2 ^ (n - (d + 1))) n1 = b at B ⊢
  obtain ⟨n2, hi⟩ := b
  dsimp only
  obtain ⟨apre, alen, aok, ar0, ar1, ainp, anew, avis, aval⟩ := A
  obtain ⟨bpre, blen, bok, br0, br1, binp, bnew, bvis, bval⟩ := B
  dsimp only at *
  have hl1 := apre.length_le
  have hl2 := bpre.length_le
  have hsame : ∀ i, i < n1.length → n2.getD i z93 = n1.getD i z93 := fun i hi => nd_pre_getD bpre i hi
  have hnew2 : ∀ i, ns.length ≤ i → i < n2.length → ((n - d : Nat) : Int) ≤ (n2.getD i z93).f0 := fun i h1 h2 => by
   by_cases e : i < n1.length
   ·rw [hsame i e]; exact anew i h1 e
   ·exact bnew i (by omega) h2
  unfold ndNode
  dsimp only
  by_cases heq : lo = hi
  ·subst heq
   rw [if_pos rfl]
   have hvis : ∀ ms F, n2 <+: ms → NdOk n ms → ms.length ≤ F → ndVisit ms F lo (ndIota ns.length) = ndIota n2.length := fun ms F hp hk hF => by
    have e1 := avis ms F (bpre.trans hp) hk hF
    have e2 := bvis ms F hp hk hF
    rw [ndVisit_seen _ _ _ _ ar1] at e2
    rw [e1, e2]
   refine ⟨apre.trans bpre, by show n2.length + 1 ≤ _; omega, bok, br0, br1, fun hh => ?_, fun i h1 h2 => ?_, hvis, fun ms F hp hk hF j hj => ?_⟩
   ·have := binp hh; dsimp only; omega
   ·have := hnew2 i h1 h2; dsimp only; omega
   ·rcases Nat.mod_two_eq_zero_or_one j with e | e
    ·obtain ⟨i, rfl⟩ : ∃ i, j = 2 * i := ⟨j / 2, by omega⟩
     rw [← hj0 i]
     exact aval ms F (bpre.trans hp) hk hF i (by omega)
    ·obtain ⟨i, rfl⟩ : ∃ i, j = 2 * i + 1 := ⟨j / 2, by omega⟩
     rw [← hj1 i]
     exact bval ms F hp hk hF i (by omega)
  rw [if_neg heq]
  have hvalx : ∀ (q : Nat) ms F, n2 <+: ms → NdOk n ms → ms.length ≤ F → q < ms.length → ms.getD q z93 = ⟨((n - (d + 1) : Nat) : Int), lo, hi⟩ → ∀ j, j < 2 ^ (d + 1) → ndVal ms (idx + 2 ^ (n - (d + 1)) * j) F (2 + (q : Int)) = vs.getD (idx + 2 ^ (n - (d + 1)) * j) 0 := fun q ms F hp hk hF hq hx j hj => by
   rw [ndVal_step hk.b hF hq, hx]
   dsimp only
   rw [Int.toNat_natCast]
   rcases Nat.mod_two_eq_zero_or_one j with e | e
   ·obtain ⟨i, rfl⟩ : ∃ i, j = 2 * i := ⟨j / 2, by omega⟩
    rw [← hj0 i, nd_bit0 hd hidx, if_neg (by decide)]
    exact aval ms F (bpre.trans hp) hk hF i (by omega)
   ·obtain ⟨i, rfl⟩ : ∃ i, j = 2 * i + 1 := ⟨j / 2, by omega⟩
    rw [← hj1 i, nd_bit1 hd hidx, if_pos rfl]
    exact bval ms F hp hk hF i (by omega)
  by_cases hin : ndAt (⟨((n - (d + 1) : Nat) : Int), lo, hi⟩ : S93) n2 < n2.length
  ·rw [if_pos hin]
   have hx := ndAt_get _ _ hin
   generalize ndAt (⟨((n - (d + 1) : Nat) : Int), lo, hi⟩ : S93) n2 = q at hin hx ⊢
   have hold : q < ns.length := by
    by_cases e : q < ns.length
    ·exact e
    ·have := hnew2 q (by omega) hin
     rw [hx] at this
     dsimp only at this
     omega
   have hrl := (bok.low q hin).2.1
   have hrh := (bok.high q hin).2.1
   rw [hx] at hrl hrh
   dsimp only at hrl hrh
   have e1 := avis n2 n2.length bpre bok (Nat.le_refl _)
   rw [ndVisit_seen _ _ _ _ (by omega)] at e1
   have f1 : ns.length = n1.length := by rw [← ndIota_length ns.length, e1, ndIota_length]
   have e2 := bvis n2 n2.length (List.prefix_refl _) bok (Nat.le_refl _)
   rw [ndVisit_seen _ _ _ _ (by omega)] at e2
   have f2 : n1.length = n2.length := by rw [← ndIota_length n1.length, e2, ndIota_length]
   refine ⟨apre.trans bpre, by show n2.length + 1 ≤ _; omega, bok, by show 0 ≤ 2 + (q : Int); omega, by dsimp only; omega, fun _ => ?_, fun i h1 h2 => ?_, fun ms F hp hk hF => ?_, fun ms F hp hk hF j hj => ?_⟩
   ·show ((n - (d + 1) : Nat) : Int) ≤ (n2.getD (2 + (q : Int) - 2).toNat z93).f0
    rw [show (2 + (q : Int) - 2).toNat = q by omega, hx]
    exact Int.le_refl _
   ·have := hnew2 i h1 h2; dsimp only; omega
   ·show ndVisit ms F (2 + (q : Int)) _ = ndIota n2.length
    rw [ndVisit_seen _ _ _ _ (by omega), show ns.length = n2.length by omega]
   ·have hpl : n2.length ≤ ms.length := hp.length_le
    exact hvalx q ms F hp hk hF (by omega) (by rw [nd_pre_getD hp q hin]; exact hx) j hj
  ·rw [if_neg hin]
   have hrow : ∀ i, i < n2.length → n2.getD i z93 ≠ ⟨((n - (d + 1) : Nat) : Int), lo, hi⟩ := fun i h1 h2 => hin (Nat.lt_of_le_of_lt (ndAt_lt _ _ i h1 h2) h1)
   have hrefl : ndRef n2 n2.length ((n - (d + 1) : Nat) : Int) lo := ⟨ar0, by omega, fun hh => by
    have := ainp hh
    rw [hsame _ (by omega)]
    omega⟩
   have hrefh : ndRef n2 n2.length ((n - (d + 1) : Nat) : Int) hi := ⟨br0, by omega, fun hh => by
    have := binp hh
    omega⟩
   have hok : NdOk n (n2 ++ [⟨((n - (d + 1) : Nat) : Int), lo, hi⟩]) := bok.snoc _ ⟨by show 0 ≤ ((n - (d + 1) : Nat) : Int); omega, by show ((n - (d + 1) : Nat) : Int) < _; omega⟩ heq hrefl hrefh hrow
   have hpre : n2 <+: n2 ++ [(⟨((n - (d + 1) : Nat) : Int), lo, hi⟩ : S93)] := List.prefix_append _ _
   have hlast : (n2 ++ [(⟨((n - (d + 1) : Nat) : Int), lo, hi⟩ : S93)]).getD n2.length z93 = ⟨((n - (d + 1) : Nat) : Int), lo, hi⟩ := by simp
   have hlen : (n2 ++ [(⟨((n - (d + 1) : Nat) : Int), lo, hi⟩ : S93)]).length = n2.length + 1 := by simp
   refine ⟨(apre.trans bpre).trans hpre, by show (n2 ++ [_]).length + 1 ≤ _; rw [hlen]; omega, hok, by show 0 ≤ 2 + (n2.length : Int); omega, by show 2 + (n2.length : Int) < 2 + ((n2 ++ [_]).length : Int); rw [hlen]; omega, fun _ => ?_, fun i h1 h2 => ?_, fun ms F hp hk hF => ?_, fun ms F hp hk hF j hj => ?_⟩
   ·show ((n - (d + 1) : Nat) : Int) ≤ ((n2 ++ [_]).getD (2 + (n2.length : Int) - 2).toNat z93).f0
    rw [show (2 + (n2.length : Int) - 2).toNat = n2.length by omega, hlast]
    exact Int.le_refl _
   ·show ((n - (d + 1) : Nat) : Int) ≤ ((n2 ++ [_]).getD i z93).f0
    have h2' : i < (n2 ++ [(⟨((n - (d + 1) : Nat) : Int), lo, hi⟩ : S93)]).length := h2
    rw [hlen] at h2'
    by_cases e : i = n2.length
    ·subst e; rw [hlast]; exact Int.le_refl _
    ·rw [nd_pre_getD hpre i (by omega)]
     have := hnew2 i h1 (by omega)
     omega
   ·show ndVisit ms F (2 + (n2.length : Int)) _ = ndIota (n2 ++ [_]).length
    have hpl := hp.length_le
    have hpl' : n2.length + 1 ≤ ms.length := by rw [← hlen]; exact hpl
    have hx : ms.getD n2.length z93 = ⟨((n - (d + 1) : Nat) : Int), lo, hi⟩ := by rw [nd_pre_getD hp _ (by rw [hlen]; omega), hlast]
    rw [hlen, ndVisit_step hk.b hF (by omega) _ (by rw [ndIota_mem]; omega), hx]
    dsimp only
    rw [avis ms F ((bpre.trans hpre).trans hp) hk hF, bvis ms F (hpre.trans hp) hk hF, ndIota_succ]
   ·have hpl := hp.length_le
    have hpl' : n2.length + 1 ≤ ms.length := by rw [← hlen]; exact hpl
    have hx : ms.getD n2.length z93 = ⟨((n - (d + 1) : Nat) : Int), lo, hi⟩ := by rw [nd_pre_getD hp _ (by rw [hlen]; omega), hlast]
    exact hvalx n2.length ms F (hpre.trans hp) hk hF (by omega) hx j hj
theorem NdOk.nil (n : Nat) : NdOk n [] := ⟨fun i h => by simp at h, fun i h => by simp at h, fun i h => by simp at h, fun i h => by simp at h, fun i j _ h => by simp at h⟩
/-! #### bitN -/
theorem bit_and1 (a n : Nat) (ha : a < 2 ^ 62) (hn : n ≤ 62) : Go.bits .and .i64 (shr .i64 (a : Int) (n : Int)) 1 = (((a >>> n) % 2 : Nat) : Int) := by
 rw [shrN a n hn]
 have h : a >>> n ≤ a := Nat.shiftRight_le a n
 have := andN (a >>> n) 1 (by omega) (by omega)
 rw [Nat.and_one_is_mod] at this
 exact this
/-! #### spec_ttBit -/
theorem spec_ttBit_eq (a n : Nat) (ha : a < 2 ^ 62) (hn : n ≤ 62) : spec_ttBit.f (a : Int) (n : Int) = some (((a >>> n) % 2 : Nat) : Int) := by
 unfold spec_ttBit.f
 rw [u64w (by omega) (by omega), if_pos (by omega), bit_and1 a n ha hn]
/-! #### ddValue -/
theorem rdNd (ns : List S93) (q : Nat) : rd_T93 ns (q : Int) = ns.getD q z93 := rfl
theorem ndVal_low (ns : List S93) (idx F : Nat) (r : Int) (h : r < 2) : ndVal ns idx F r = r := by
 cases F with
 | zero => rfl
 | succ F => rw [ndVal, if_pos h]
theorem ndVal_at (ns : List S93) (idx F q : Nat) : ndVal ns idx (F + 1) (2 + (q : Int)) = ndVal ns idx F (if (idx >>> (ns.getD q z93).f0.toNat) % 2 = 1 then (ns.getD q z93).f2 else (ns.getD q z93).f1) := by
 have e : 2 + (q : Int) - 2 = (q : Int) := by omega
 rw [ndVal, if_neg (by omega), e, Int.toNat_natCast]
theorem spec_ddValue_l0 {n : Nat} {ns : List S93} (h : NdB n ns) (hn : n ≤ 4) (hl : ns.length ≤ 1000) (idx : Nat) (hi : idx < 65536) (root : Int) : ∀ (F : Nat) (r : Int), 0 ≤ r → r < 2 + (ns.length : Int) → r < (F : Int) + 2 →
  Ev (fun k => spec_ddValue.l0 k idx r n ns root) (ndVal ns idx F r) := by
 intro F
 induction F with
 | zero =>
  intro r h0 h1 h2
  apply ev_up
  simp only [spec_ddValue.l0]
  exact ev_n (by omega) (ev_eq (Ev.now _) rfl)
 | succ F ih =>
  intro r h0 h1 h2
  by_cases hr : r < 2
  ·rw [ndVal_low ns idx _ r hr]
   apply ev_up
   simp only [spec_ddValue.l0]
   exact ev_n (by omega) (Ev.now _)
  obtain ⟨q, rfl⟩ : ∃ q : Nat, r = 2 + (q : Int) := ⟨(r - 2).toNat, by omega⟩
  have hq : q < ns.length := by omega
  obtain ⟨i0, i1⟩ := h.inp q hq
  obtain ⟨l0, l1⟩ := h.low q hq
  obtain ⟨g0, g1⟩ := h.high q hq
  apply ev_up
  simp only [spec_ddValue.l0]
  rw [wN (m := q) (by omega) (by omega)]
  refine ev_p (by omega) (ev_p (by omega) (ev_p (by omega) ?_))
  rw [rdNd, ndVal_at]
  obtain ⟨m, hm⟩ := nat_of i0
  rw [hm, Int.toNat_natCast]
  refine Ev.bind (ev_c (spec_ttBit_eq idx m (by omega) (by omega))) (ev_ite (fun c => ?_) (fun c => ?_))
  ·rw [if_neg (by omega)]
   exact ih _ l0 (by omega) (by omega)
  ·rw [if_pos (by omega)]
   exact ih _ g0 (by omega) (by omega)
/-! #### ndTab -/
def ndTab (n : Nat) (ns : List S93) (root : Int) : List Int := rmap (2 ^ n) (fun j => ndVal ns j ns.length root)
theorem ndTab_length (n : Nat) (ns : List S93) (root : Int) : (ndTab n ns root).length = 2 ^ n := rmap_length _ _
theorem ndTab_rd {n : Nat} {ns : List S93} {root : Int} {j : Nat} (h : j < 2 ^ n) : rd (ndTab n ns root) (j : Int) = ndVal ns j ns.length root := rmap_get h 0
theorem pow4 {n : Nat} (h : n ≤ 4) : 2 ^ n ≤ 16 := Nat.pow_le_pow_right (by decide : 0 < 2) h
theorem spec_ddTable_l0 {n : Nat} {ns : List S93} (h : NdB n ns) (hn : n ≤ 4) (hl : ns.length ≤ 1000) (root : Int) (h0 : 0 ≤ root) (h1 : root < 2 + (ns.length : Int)) : ∀ (d i : Nat), i + d = 2 ^ n →
  Ev (fun k => spec_ddTable.l0 k i n ns root n (rmap i (fun j => ndVal ns j ns.length root))) ((n : Int), ndTab n ns root) := by
 have hp := pow4 hn
 intro d
 induction d with
 | zero =>
  intro i hi
  apply ev_up
  simp only [spec_ddTable.l0]
  rw [u64w (by omega) (by omega), shl1 n (by omega)]
  refine ev_p (by omega) (ev_n (by omega) (ev_eq (Ev.now _) ?_))
  rw [show i = 2 ^ n by omega]
  rfl
 | succ d ih =>
  intro i hi
  apply ev_up
  simp only [spec_ddTable.l0]
  rw [u64w (by omega) (by omega), shl1 n (by omega)]
  refine ev_p (by omega) (ev_p (by omega) (Ev.bind (spec_ddValue_l0 h hn hl i (by omega) root ns.length root h0 h1 (by omega)) (ev_p (by rw [rmap_length]; omega) ?_)))
  rw [wN (m := i + 1) (by omega) (by omega), ← rmap_succ]
  exact ih (i + 1) (by omega)
theorem spec_ddTable_ev {n : Nat} {ns : List S93} (h : NdB n ns) (hn : n ≤ 4) (hl : ns.length ≤ 1000) (root : Int) (h0 : 0 ≤ root) (h1 : root < 2 + (ns.length : Int)) : Ev (fun k => spec_ddTable.f k n ns root) ((n : Int), ndTab n ns root) := by
 unfold spec_ddTable.f
 exact spec_ddTable_l0 h hn hl root h0 h1 (2 ^ n) 0 (by omega)
/-- The table of a diagram that is within bounds is a table. -/
theorem ndTab_bits {n : Nat} {ns : List S93} (h : NdB n ns) (root : Int) (h0 : 0 ≤ root) (h1 : root < 2 + (ns.length : Int)) : ∀ x ∈ ndTab n ns root, 0 ≤ x ∧ x ≤ 1 := by
 intro x hx
 unfold ndTab rmap at hx
 obtain ⟨j, _, rfl⟩ := List.mem_map.1 hx
 exact ndVal_bit h j ns.length root h0 h1 (by omega)
theorem rd_bits {l : List Int} (h : ∀ x ∈ l, 0 ≤ x ∧ x ≤ 1) (i : Nat) : 0 ≤ rd l ((i : Nat) : Int) ∧ rd l ((i : Nat) : Int) ≤ 1 := by
 show 0 ≤ l.getD i 0 ∧ l.getD i 0 ≤ 1
 rw [List.getD_eq_getElem?_getD]
 cases hq : l[i]? with
 | none => simp
 | some x => exact h x (List.mem_of_getElem? hq)
/-! #### bitsL -/
/-- The inputs of an index. -/
def bitsL (x n : Nat) : List Int := rmap n (fun i => (((x >>> i) % 2 : Nat) : Int))
theorem bitsL_length (x n : Nat) : (bitsL x n).length = n := rmap_length _ _
theorem bitsL_bits (x n : Nat) : ∀ b ∈ bitsL x n, b = 0 ∨ b = 1 := by
 intro b hb
 unfold bitsL rmap at hb
 obtain ⟨i, _, rfl⟩ := List.mem_map.1 hb
 omega
/-- The index of inputs. -/
def idxOf : List Int → Nat
 | [] => 0
 | b :: r => b.toNat + 2 * idxOf r
theorem idxOf_lt (l : List Int) (h : ∀ b ∈ l, 0 ≤ b ∧ b ≤ 1) : idxOf l < 2 ^ l.length := by
 induction l with
 | nil => simp [idxOf]
 | cons b r ih =>
  have h1 := ih (fun x hx => h x (by simp [hx]))
  have h2 := h b (by simp)
  rw [idxOf, List.length_cons, Nat.pow_succ]
  omega
theorem bitsL_idxOf (l : List Int) (h : ∀ b ∈ l, 0 ≤ b ∧ b ≤ 1) : bitsL (idxOf l) l.length = l := by
 induction l with
 | nil => rfl
 | cons b r ih =>
  have h1 := ih (fun x hx => h x (by simp [hx]))
  have h2 := h b (by simp)
  have e : bitsL (idxOf (b :: r)) (b :: r).length = ((((idxOf (b :: r)) >>> 0) % 2 : Nat) : Int) :: bitsL (idxOf r) r.length := by
   unfold bitsL rmap
   rw [List.length_cons, List.range_succ_eq_map, List.map_cons, List.map_map]
   congr 1
   apply List.map_congr_left
   intro i _
   simp only [Function.comp, Nat.succ_eq_add_one]
   have : idxOf (b :: r) >>> (i + 1) = idxOf r >>> i := by
    rw [Nat.add_comm i 1, Nat.shiftRight_add]
    congr 1
    rw [Nat.shiftRight_eq_div_pow, idxOf]
    omega
   rw [this]
  rw [e, h1]
  congr 1
  rw [idxOf, Nat.shiftRight_zero]
  omega
/-! #### impl_bitList -/
theorem impl_bitList_l0 (x n : Nat) (hn : n ≤ 4) (hx : x < 65536) (d : Nat) : ∀ (i : Nat), i + d = n →
  Ev (fun k => impl_bitList.l0 k x (rmap n (fun j => if j < i then (((x >>> j) % 2 : Nat) : Int) else 0)) n i) (bitsL x n) := by
 induction d with
 | zero =>
  intro i hi
  apply ev_up
  simp only [impl_bitList.l0]
  refine ev_n (by omega) (ev_eq (Ev.now _) ?_)
  exact rmap_congr (fun k hk => by rw [if_pos (by omega)])
 | succ d ih =>
  intro i hi
  apply ev_up
  simp only [impl_bitList.l0]
  refine ev_p (by omega) (ev_p (by omega) (ev_p (by rw [rmap_length]; omega) ?_))
  rw [bit_and1 x i (by omega) (by omega), Int.toNat_natCast, rmap_set (show i < n by omega), wN (n := (i : Int) + 1) (m := i + 1) (by omega) (by omega)]
  have e : rmap n (fun j => if j = i then (((x >>> i) % 2 : Nat) : Int) else if j < i then (((x >>> j) % 2 : Nat) : Int) else 0) = rmap n (fun j => if j < i + 1 then (((x >>> j) % 2 : Nat) : Int) else 0) := by
   apply rmap_congr
   intro j _
   by_cases h : j = i
   ·rw [if_pos h, if_pos (show j < i + 1 by omega), h]
   ·by_cases h2 : j < i
    ·rw [if_neg h, if_pos h2, if_pos (show j < i + 1 by omega)]
    ·rw [if_neg h, if_neg h2, if_neg (show ¬ j < i + 1 by omega)]
  rw [e]
  exact ih (i + 1) (by omega)
theorem impl_bitList_ev (x n : Nat) (hn : n ≤ 4) (hx : x < 65536) : Ev (fun k => impl_bitList.f k x n) (bitsL x n) := by
 unfold impl_bitList.f
 refine ev_p (by omega) (ev_p (by omega) (Ev.bind (ev_c rfl) ?_))
 rw [Int.toNat_natCast, rmap_const, rmap_length]
 have := impl_bitList_l0 x n hn hx n 0 (by omega)
 have e : rmap n (fun j => if j < 0 then (((x >>> j) % 2 : Nat) : Int) else 0) = rmap n (fun _ => (0 : Int)) := rmap_congr (fun j _ => by rw [if_neg (by omega)])
 rw [e] at this
 exact this
/-! #### tableOfDiagram -/
theorem impl_diagramValue_l0 {n : Nat} {ns : List S93} (h : NdB n ns) (hn : n ≤ 4) (hl : ns.length ≤ 1000) (idx : Nat) (root : Int) : ∀ (F : Nat) (r : Int), 0 ≤ r → r < 2 + (ns.length : Int) → r < (F : Int) + 2 →
  Ev (fun k => impl_diagramValue.l0 k (bitsL idx n) r n ns root) (ndVal ns idx F r) := by
 intro F
 induction F with
 | zero =>
  intro r h0 h1 h2
  apply ev_up
  simp only [impl_diagramValue.l0]
  exact ev_n (by omega) (ev_eq (Ev.now _) rfl)
 | succ F ih =>
  intro r h0 h1 h2
  by_cases hr : r < 2
  ·rw [ndVal_low ns idx _ r hr]
   apply ev_up
   simp only [impl_diagramValue.l0]
   exact ev_n (by omega) (Ev.now _)
  obtain ⟨q, rfl⟩ : ∃ q : Nat, r = 2 + (q : Int) := ⟨(r - 2).toNat, by omega⟩
  have hq : q < ns.length := by omega
  obtain ⟨i0, i1⟩ := h.inp q hq
  obtain ⟨l0, l1⟩ := h.low q hq
  obtain ⟨g0, g1⟩ := h.high q hq
  apply ev_up
  simp only [impl_diagramValue.l0]
  rw [wN (m := q) (by omega) (by omega), rdNd, ndVal_at]
  obtain ⟨m, hm⟩ := nat_of i0
  rw [hm, Int.toNat_natCast]
  have hb : rd (bitsL idx n) (m : Int) = (((idx >>> m) % 2 : Nat) : Int) := rmap_get (by omega) 0
  rw [hb]
  refine ev_p (by omega) (ev_p (by omega) (ev_p (by omega) (ev_p (by omega) (ev_p (by rw [bitsL_length]; omega) (ev_ite (fun c => ?_) (fun c => ?_))))))
  ·rw [if_pos (by omega)]
   exact ih _ g0 (by omega) (by omega)
  ·rw [if_neg (by omega)]
   exact ih _ l0 (by omega) (by omega)
theorem impl_diagramValue_ev {n : Nat} {ns : List S93} (h : NdB n ns) (hn : n ≤ 4) (hl : ns.length ≤ 1000) (idx : Nat) (root : Int) (h0 : 0 ≤ root) (h1 : root < 2 + (ns.length : Int)) : Ev (fun k => impl_diagramValue.f k n ns root (bitsL idx n)) (ndVal ns idx ns.length root) := by
 unfold impl_diagramValue.f
 exact impl_diagramValue_l0 h hn hl idx root ns.length root h0 h1 (by omega)
theorem impl_tableOfDiagram_l0 {n : Nat} {ns : List S93} (h : NdB n ns) (hn : n ≤ 4) (hl : ns.length ≤ 1000) (root : Int) (h0 : 0 ≤ root) (h1 : root < 2 + (ns.length : Int)) : ∀ (d i : Nat), i + d = 2 ^ n →
  Ev (fun k => impl_tableOfDiagram.l0 k ((2 ^ n : Nat) : Int) i n ns root n (rmap (2 ^ n) (fun j => if j < i then ndVal ns j ns.length root else 0))) ((n : Int), ndTab n ns root) := by
 have hp := pow4 hn
 intro d
 induction d with
 | zero =>
  intro i hi
  apply ev_up
  simp only [impl_tableOfDiagram.l0]
  refine ev_n (by omega) (ev_eq (Ev.now _) ?_)
  unfold ndTab
  rw [rmap_congr (fun j hj => by rw [if_pos (by omega)])]
 | succ d ih =>
  intro i hi
  apply ev_up
  simp only [impl_tableOfDiagram.l0]
  refine ev_p (by omega) (Ev.bind (impl_bitList_ev i n hn (by omega)) (Ev.bind (impl_diagramValue_ev h hn hl i root h0 h1) (ev_p (by omega) (ev_p (by rw [rmap_length]; omega) ?_))))
  rw [wN (m := i + 1) (by omega) (by omega), Int.toNat_natCast, rmap_set (by omega)]
  have e : rmap (2 ^ n) (fun j => if j = i then ndVal ns i ns.length root else if j < i then ndVal ns j ns.length root else 0) = rmap (2 ^ n) (fun j => if j < i + 1 then ndVal ns j ns.length root else 0) := rmap_congr (fun j _ => by
   by_cases e : j = i
   ·subst e; rw [if_pos rfl, if_pos (by omega)]
   ·rw [if_neg e]
    by_cases e2 : j < i
    ·rw [if_pos e2, if_pos (by omega)]
    ·rw [if_neg e2, if_neg (by omega)])
  rw [e]
  exact ih (i + 1) (by omega)
theorem impl_tableOfDiagram_ev {n : Nat} {ns : List S93} (h : NdB n ns) (hn : n ≤ 4) (hl : ns.length ≤ 1000) (root : Int) (h0 : 0 ≤ root) (h1 : root < 2 + (ns.length : Int)) : Ev (fun k => impl_tableOfDiagram.f k n ns root) ((n : Int), ndTab n ns root) := by
 have hp := pow4 hn
 unfold impl_tableOfDiagram.f
 rw [shl1 n (by omega)]
 refine ev_p (by omega) (ev_p (Int.natCast_nonneg _) (ev_p (by rw [Int.toNat_natCast]; omega) (Ev.bind (ev_c rfl) ?_)))
 rw [Int.toNat_natCast, rmap_const, rmap_length]
 have := impl_tableOfDiagram_l0 h hn hl root h0 h1 (2 ^ n) 0 (by omega)
 rw [rmap_congr (fun j hj => by rw [if_neg (by omega)] : ∀ j, j < 2 ^ n → (if j < 0 then ndVal ns j ns.length root else (0 : Int)) = 0)] at this
 exact this
/-! #### l1In -/
theorem l1In_eq (a b c : Int) : spec_l1In.f a b c = some (decide (b ≤ a ∧ a ≤ c)) := by
 unfold spec_l1In.f
 by_cases h : b ≤ a
 ·rw [if_pos h]; simp [h]
 ·rw [if_neg h]; simp [h]
/-! #### l1All -/
def inB (a b : Int) (x : Int) : Bool := decide (a ≤ x ∧ x ≤ b)
theorem l1All_l0 (l : List Int) (a b : Int) (hl : l.length ≤ 9223372036854775807) (r : List Int) : ∀ (p : List Int) (i : Int), i = p.length → l = p ++ r →
  Ev (fun k => spec_l1All.l0 k a b l l.length i) (r.all (inB a b)) := by
 induction r with
 | nil =>
  intro p i hi e
  have hlen : l.length = p.length := by rw [e]; simp
  apply ev_up
  simp only [spec_l1All.l0]
  exact ev_n (by omega) (Ev.now _)
 | cons x r ih =>
  intro p i hi e
  have hlen : l.length = p.length + r.length + 1 := by rw [e]; simp; omega
  have hx : rd l i = x := by rw [e]; exact rdA hi
  have ih' := ih (p ++ [x]) (i + 1) (by simp; omega) (by rw [e]; simp)
  apply ev_up
  simp only [spec_l1All.l0]
  refine ev_p (by omega) (ev_p (by omega) (ev_p (by omega) ?_))
  rw [hx, l1In_eq]
  refine Ev.bind (ev_c rfl) ?_
  refine ev_ite (fun h => ?_) (fun h => ?_)
  ·rw [w64 (by omega) (by omega)]
   refine ev_eq ih' ?_
   rw [List.all_cons, show inB a b x = true from h, Bool.true_and]
  ·refine ev_eq (Ev.now _) ?_
   rw [List.all_cons, show inB a b x = false from decide_eq_false (fun hh => h (decide_eq_true hh)), Bool.false_and]
theorem l1All_ev (l : List Int) (a b : Int) (hl : l.length ≤ 9223372036854775807) : Ev (fun k => spec_l1All.f k l a b) (l.all (inB a b)) := by
 unfold spec_l1All.f
 exact l1All_l0 l a b hl l [] 0 rfl rfl
/-! #### ttInputs -/
theorem ttInputs_eq (a : Int) : spec_ttInputs.f a = some (decide (0 ≤ a ∧ a ≤ 4)) := by
 unfold spec_ttInputs.f
 rw [l1In_eq, Option.bind_some]
/-! #### tableM -/
def tableM (n : Int) (l : List Int) : Bool := decide (0 ≤ n ∧ n ≤ 4 ∧ l.length = 2 ^ n.toNat) && l.all (inB 0 1)
theorem tableM_of {n : Int} {l : List Int} (h : tableM n l = true) : ∃ a : Nat, n = a ∧ a ≤ 4 ∧ l.length = 2 ^ a ∧ l.length ≤ 16 ∧ ∀ x ∈ l, 0 ≤ x ∧ x ≤ 1 := by
 unfold tableM at h
 rw [Bool.and_eq_true, List.all_eq_true] at h
 obtain ⟨h1, h2, h3⟩ := of_decide_eq_true h.1
 obtain ⟨a, rfl⟩ := nat_of h1
 simp only [Int.toNat_natCast] at h3
 have h8 : 2 ^ a ≤ 2 ^ 4 := Nat.pow_le_pow_right (by decide) (by omega)
 exact ⟨a, rfl, by omega, h3, by omega, fun x hx => of_decide_eq_true (h.2 x hx)⟩
/-! #### spec_ttGood -/
theorem spec_ttGood_ev (n : Int) (l : List Int) (hl : l.length ≤ 9223372036854775807) : Ev (fun k => spec_ttGood.f k n l) (tableM n l) := by
 unfold spec_ttGood.f tableM
 rw [ttInputs_eq]
 refine Ev.bind (ev_c rfl) (ev_ite (fun h => ?_) (fun h => ?_))
 ·have h' := of_decide_eq_true h
  obtain ⟨a, rfl⟩ := nat_of h'.1
  rw [u64w (by omega) (by omega), shl1 a (by omega)]
  refine ev_p (by omega) (ev_ite (fun h2 => ?_) (fun h2 => ?_))
  ·have h3 : l.length = 2 ^ a := by exact_mod_cast h2
   rw [decide_eq_true ⟨h'.1, h'.2, by simpa using h3⟩, Bool.true_and]
   exact Ev.bind (l1All_ev l 0 1 hl) (Ev.now _)
  ·rw [decide_eq_false (fun hh => h2 (by have := hh.2.2; simp only [Int.toNat_natCast] at this; exact_mod_cast this)), Bool.false_and]
   exact Ev.now _
 ·rw [decide_eq_false (fun hh => h (decide_eq_true ⟨hh.1, hh.2.1⟩)), Bool.false_and]
  exact Ev.now _
/-! #### impl_areBits -/
theorem impl_areBits_l0 (l : List Int) (hl : l.length ≤ 9223372036854775807) (r : List Int) : ∀ (p : List Int) (i : Int), i = p.length → l = p ++ r →
  Ev (fun k => impl_areBits.l0 k l l.length i) (r.all (inB 0 1)) := by
 induction r with
 | nil =>
  intro p i hi e
  have hlen : l.length = p.length := by rw [e]; simp
  apply ev_up
  simp only [impl_areBits.l0]
  exact ev_n (by omega) (Ev.now _)
 | cons x r ih =>
  intro p i hi e
  have hlen : l.length = p.length + r.length + 1 := by rw [e]; simp; omega
  have hx : rd l i = x := by rw [e]; exact rdA hi
  have ih' := ih (p ++ [x]) (i + 1) (by simp; omega) (by rw [e]; simp)
  apply ev_up
  simp only [impl_areBits.l0]
  refine ev_p (by omega) (ev_p (by omega) (ev_p (by omega) ?_))
  rw [hx, w64 (n := i + 1) (by omega) (by omega)]
  refine ev_ite (fun h => ?_) (fun h => ev_ite (fun h2 => ?_) (fun h2 => ?_))
  ·rw [List.all_cons, show inB 0 1 x = true from decide_eq_true (by omega), Bool.true_and]
   exact ih'
  ·rw [List.all_cons, show inB 0 1 x = true from decide_eq_true (by omega), Bool.true_and]
   exact ih'
  ·rw [List.all_cons, show inB 0 1 x = false from decide_eq_false (by omega), Bool.false_and]
   exact Ev.now _
theorem impl_areBits_ev (l : List Int) (hl : l.length ≤ 9223372036854775807) : Ev (fun k => impl_areBits.f k l) (l.all (inB 0 1)) := by
 unfold impl_areBits.f
 exact impl_areBits_l0 l hl l [] 0 rfl rfl
/-! #### impl_IsTable -/
theorem impl_IsTable_ev (n : Int) (l : List Int) (hl : l.length ≤ 9223372036854775807) : Ev (fun k => impl_IsTable.f k n l) (tableM n l) := by
 unfold impl_IsTable.f tableM
 refine ev_ite (fun h1 => ev_ite (fun h2 => ?_) (fun h2 => ?_)) (fun h1 => ?_)
 ·obtain ⟨a, rfl⟩ := nat_of h1
  rw [shl1 a (by omega)]
  refine ev_p (by omega) (ev_ite (fun h3 => ?_) (fun h3 => ?_))
  ·have h4 : l.length = 2 ^ a := by exact_mod_cast h3
   rw [decide_eq_true ⟨h1, h2, by simpa using h4⟩, Bool.true_and]
   exact Ev.bind (impl_areBits_ev l hl) (Ev.now _)
  ·rw [decide_eq_false (fun hh => h3 (by have := hh.2.2; simp only [Int.toNat_natCast] at this; exact_mod_cast this)), Bool.false_and]
   exact Ev.now _
 ·rw [decide_eq_false (fun hh => h2 hh.2.1), Bool.false_and]
  exact Ev.now _
 ·rw [decide_eq_false (fun hh => h1 hh.1), Bool.false_and]
  exact Ev.now _
/-! #### combineTables -/
theorem l1MostC_eq (a b : Int) : spec_l1Most.f a b = some (if a > b then a else b) := by
 unfold spec_l1Most.f
 by_cases h : a > b <;> simp [h]
/-- A kind of table, of two values. -/
def cmbV (kind a b : Int) : Int := if kind = 1 then a * b else if kind = 2 then (if a > b then a else b) else if kind = 3 then (a + b) % 2 else (if 1 - a > b then 1 - a else b)
def cmbL (kind : Int) : List Int → List Int → List Int
 | a :: l, b :: m => cmbV kind a b :: cmbL kind l m
 | _, _ => []
theorem cmbL_length (kind : Int) : ∀ (l m : List Int), l.length = m.length → (cmbL kind l m).length = l.length := by
 intro l
 induction l with
 | nil => intro m _; rfl
 | cons a l ih =>
  intro m h
  match m, h with
  | b :: m, h => rw [cmbL, List.length_cons, ih m (by simpa using h), List.length_cons]
theorem cmbV_bit (kind a b : Int) (ha : 0 ≤ a ∧ a ≤ 1) (hb : 0 ≤ b ∧ b ≤ 1) : 0 ≤ cmbV kind a b ∧ cmbV kind a b ≤ 1 := by
 obtain rfl | rfl : a = 0 ∨ a = 1 := by omega
 all_goals obtain rfl | rfl : b = 0 ∨ b = 1 := by omega
 all_goals (unfold cmbV; split; decide; split; decide; split; decide; decide)
theorem spec_ttCombine_eq (kind a b : Int) (ha : 0 ≤ a ∧ a ≤ 1) (hb : 0 ≤ b ∧ b ≤ 1) : spec_ttCombine.f kind a b = some (cmbV kind a b) := by
 unfold spec_ttCombine.f cmbV
 obtain rfl | rfl : a = 0 ∨ a = 1 := by omega
 all_goals obtain rfl | rfl : b = 0 ∨ b = 1 := by omega
 all_goals (split; (first | rfl | (unfold wrap64; rfl)); split; (first | rfl | (unfold wrap64; rfl)); split; (first | rfl | (unfold wrap64; rfl)); (first | rfl | (unfold wrap64; rfl)))
theorem spec_CombineTables_l0 (kind a : Int) (r : List Int) : ∀ (s p q o : List Int) (i : Int), i = p.length → q.length = p.length → r.length = s.length → p.length + r.length ≤ 1000 → o.length ≤ p.length → (∀ x ∈ r, 0 ≤ x ∧ x ≤ 1) → (∀ x ∈ s, 0 ≤ x ∧ x ≤ 1) →
  Ev (fun k => spec_CombineTables.l0 k kind (p ++ r) ((p ++ r).length : Int) i a (q ++ s) a o) (a, o ++ cmbL kind r s, true) := by
 induction r with
 | nil =>
  intro s p q o i hi hq hl hb ho hr hs
  apply ev_up
  simp only [spec_CombineTables.l0]
  refine ev_n (by simp; omega) (ev_eq (Ev.now _) (by simp [cmbL]))
 | cons x r ih =>
  intro s p q o i hi hq hl hb ho hr hs
  match s, hl with
  | y :: s, hl =>
   simp only [List.length_cons] at hl hb
   apply ev_up
   simp only [spec_CombineTables.l0]
   refine ev_p (by simp; omega) (ev_p (by omega) (ev_p (by simp; omega) (ev_p (by simp; omega) ?_)))
   have e1 : rd (p ++ x :: r) i = x := rdA hi
   have e2 : rd (q ++ y :: s) i = y := rdA (by omega)
   rw [e1, e2]
   refine Ev.bind (ev_c (spec_ttCombine_eq kind x y (hr x (by simp)) (hs y (by simp)))) (ev_p (by omega) ?_)
   rw [w64 (by omega) (by omega)]
   have := ih s (p ++ [x]) (q ++ [y]) (o ++ [cmbV kind x y]) (i + 1) (by simp; omega) (by simp; omega) (by omega) (by simp; omega) (by simp; omega) (fun z hz => hr z (by simp [hz])) (fun z hz => hs z (by simp [hz]))
   simp only [List.append_assoc, List.singleton_append] at this
   exact this
theorem impl_CombineTables_l0 (kind a : Int) (hk : 1 ≤ kind ∧ kind ≤ 4) (r : List Int) : ∀ (s p q o : List Int) (i : Int), i = p.length → q.length = p.length → r.length = s.length → p.length + r.length ≤ 1000 → o.length ≤ p.length → (∀ x ∈ r, 0 ≤ x ∧ x ≤ 1) → (∀ x ∈ s, 0 ≤ x ∧ x ≤ 1) →
  Ev (fun k => impl_CombineTables.l0 k kind ((p ++ r).length : Int) i a (p ++ r) a (q ++ s) a o) (a, o ++ cmbL kind r s, true) := by
 induction r with
 | nil =>
  intro s p q o i hi hq hl hb ho hr hs
  apply ev_up
  simp only [impl_CombineTables.l0]
  refine ev_n (by simp; omega) (ev_eq (Ev.now _) (by simp [cmbL]))
 | cons x r ih =>
  intro s p q o i hi hq hl hb ho hr hs
  match s, hl with
  | y :: s, hl =>
   simp only [List.length_cons] at hl hb
   apply ev_up
   simp only [impl_CombineTables.l0]
   refine ev_p (by simp; omega) (ev_p (by omega) (ev_p (by simp; omega) (ev_p (by simp; omega) ?_)))
   have e1 : rd (p ++ x :: r) i = x := rdA hi
   have e2 : rd (q ++ y :: s) i = y := rdA (by omega)
   rw [e1, e2, w64 (n := i + 1) (by omega) (by omega)]
   have hnext : ∀ v : Int, v = cmbV kind x y → Ev (fun k => impl_CombineTables.l0 k kind ((p ++ x :: r).length : Int) (i + 1) a (p ++ x :: r) a (q ++ y :: s) a (o ++ [v])) (a, o ++ cmbL kind (x :: r) (y :: s), true) := fun v hv => by
    subst hv
    have := ih s (p ++ [x]) (q ++ [y]) (o ++ [cmbV kind x y]) (i + 1) (by simp; omega) (by simp; omega) (by omega) (by simp; omega) (by simp; omega) (fun z hz => hr z (by simp [hz])) (fun z hz => hs z (by simp [hz]))
    simp only [List.append_assoc, List.singleton_append] at this
    exact this
   have hx := hr x (by simp)
   have hy := hs y (by simp)
   refine ev_ite (fun c => ev_p (by omega) (hnext _ ?_)) (fun c => ev_ite (fun c2 => ev_p (by omega) (hnext _ ?_)) (fun c2 => ev_ite (fun c3 => ev_p (by omega) (hnext _ ?_)) (fun c3 => ev_p (by omega) (hnext _ ?_))))
   all_goals unfold cmbV
   ·rw [if_pos c]
    obtain rfl | rfl : x = 0 ∨ x = 1 := by omega
    all_goals obtain rfl | rfl : y = 0 ∨ y = 1 := by omega
    all_goals rfl
   ·rw [if_neg c, if_pos c2]
    obtain rfl | rfl : x = 0 ∨ x = 1 := by omega
    all_goals obtain rfl | rfl : y = 0 ∨ y = 1 := by omega
    all_goals rfl
   ·rw [if_neg c, if_neg c2, if_pos c3]
    obtain rfl | rfl : x = 0 ∨ x = 1 := by omega
    all_goals obtain rfl | rfl : y = 0 ∨ y = 1 := by omega
    all_goals rfl
   ·rw [if_neg c, if_neg c2, if_neg c3]
    obtain rfl | rfl : x = 0 ∨ x = 1 := by omega
    all_goals obtain rfl | rfl : y = 0 ∨ y = 1 := by omega
    all_goals (rw [w64 (by omega) (by omega)]; rfl)
def cmbT (kind a : Int) (l : List Int) (b : Int) (m : List Int) : Int × List Int × Bool := if 1 ≤ kind ∧ kind ≤ 4 ∧ tableM a l = true ∧ tableM b m = true ∧ a = b then (a, cmbL kind l m, true) else (0, [], false)
theorem spec_CombineTables_ev (kind a : Int) (l : List Int) (b : Int) (m : List Int) (hl : l.length ≤ 9223372036854775807) (hm : m.length ≤ 9223372036854775807) : Ev (fun k => spec_CombineTables.f k kind a l b m) (cmbT kind a l b m) := by
 have hj : ¬ (1 ≤ kind ∧ kind ≤ 4 ∧ tableM a l = true ∧ tableM b m = true ∧ a = b) → Ev (fun k => spec_CombineTables.j0 k kind true a l b m) (cmbT kind a l b m) := fun h => by
  unfold cmbT
  rw [if_neg h]
  apply ev_up
  simp only [spec_CombineTables.j0]
  exact ev_p (by simp) (Ev.now _)
 unfold spec_CombineTables.f
 have e1 : spec_l1In.f kind 1 4 = some (decide (1 ≤ kind ∧ kind ≤ 4)) := by
  unfold spec_l1In.f
  by_cases h : kind ≥ 1
  ·rw [if_pos h]
   by_cases h2 : kind ≤ 4 <;> simp [h, h2]
  ·rw [if_neg h]
   simp [h]
 refine Ev.bind (ev_c e1) (ev_ite (fun c => ?_) (fun c => hj (fun h => c (decide_eq_true ⟨h.1, h.2.1⟩))))
 refine Ev.bind (spec_ttGood_ev a l hl) (ev_ite (fun c1 => ?_) (fun c1 => hj (fun h => c1 h.2.2.1)))
 refine Ev.bind (spec_ttGood_ev b m hm) (ev_ite (fun c2 => ?_) (fun c2 => hj (fun h => c2 h.2.2.2.1)))
 have c := of_decide_eq_true c
 by_cases hab : a = b
 ·subst hab
  obtain ⟨n, rfl, hn, h1, h2, h3⟩ := tableM_of c1
  obtain ⟨n2, e, _, g1, g2, g3⟩ := tableM_of c2
  obtain rfl : n = n2 := by omega
  unfold cmbT
  rw [if_pos ⟨c.1, c.2, c1, c2, rfl⟩]
  apply ev_up
  simp only [spec_CombineTables.j0]
  refine ev_n (by simp) ?_
  simpa using spec_CombineTables_l0 kind (n : Int) l m [] [] [] 0 rfl rfl (by omega) (by simp; omega) (by simp) h3 g3
 ·have : (a != b) = true := by simpa using hab
  rw [this]
  exact hj (fun h => hab h.2.2.2.2)
theorem impl_CombineTables_ev (kind a : Int) (l : List Int) (b : Int) (m : List Int) (hl : l.length ≤ 9223372036854775807) (hm : m.length ≤ 9223372036854775807) : Ev (fun k => impl_CombineTables.f k kind a l b m) (cmbT kind a l b m) := by
 have hj : ¬ (1 ≤ kind ∧ kind ≤ 4 ∧ tableM a l = true ∧ tableM b m = true ∧ a = b) → Ev (fun k => impl_CombineTables.j0 k kind true a l b m) (cmbT kind a l b m) := fun h => by
  unfold cmbT
  rw [if_neg h]
  apply ev_up
  simp only [impl_CombineTables.j0]
  exact ev_p (by simp) (Ev.now _)
 unfold impl_CombineTables.f
 refine Ev.bind (impl_IsTable_ev a l hl) (ev_ite (fun c1 => ?_) (fun c1 => hj (fun h => c1 h.2.2.1)))
 refine Ev.bind (impl_IsTable_ev b m hm) (ev_ite (fun c2 => ?_) (fun c2 => hj (fun h => c2 h.2.2.2.1)))
 refine ev_ite (fun hab => ?_) (fun hab => hj (fun h => hab h.2.2.2.2))
 refine ev_ite (fun hk => hj (fun h => by omega)) (fun hk => ?_)
 by_cases hk2 : kind > 4
 ·rw [decide_eq_true hk2]
  exact hj (fun h => by omega)
 ·rw [decide_eq_false hk2]
  subst hab
  obtain ⟨n, rfl, hn, h1, h2, h3⟩ := tableM_of c1
  obtain ⟨n2, e, _, g1, g2, g3⟩ := tableM_of c2
  obtain rfl : n = n2 := by omega
  unfold cmbT
  rw [if_pos ⟨by omega, by omega, c1, c2, rfl⟩]
  apply ev_up
  simp only [impl_CombineTables.j0]
  refine ev_n (by simp) ?_
  simpa using impl_CombineTables_l0 kind (n : Int) ⟨by omega, by omega⟩ l m [] [] [] 0 rfl rfl (by omega) (by simp; omega) (by simp) h3 g3
/-! #### visitS -/
theorem rdOf_set_ne (sn : List Bool) (q : Nat) (i : Int) (h0 : 0 ≤ i) (h : i ≠ (q : Int)) (v : Bool) : rdOf false (sn.set q v) i = rdOf false sn i := by
 unfold rdOf
 rw [List.getD_eq_getElem?_getD, List.getD_eq_getElem?_getD, List.getElem?_set_ne (by omega)]
theorem rdOf_set_eq (sn : List Bool) (q : Nat) (h : q < sn.length) (v : Bool) : rdOf false (sn.set q v) (q : Int) = v := by
 unfold rdOf
 rw [List.getD_eq_getElem?_getD, Int.toNat_natCast, List.getElem?_set_self h]
 rfl
/-- The marks of what has been seen say just what has been put out, but for the nodes that are under way. -/
theorem ndVisitS_eq {ns : List S93} (hd : ndDown ns) : ∀ (F : Nat) (r : Int) (sn : List Bool) (out : List Int) (B : Nat), r < 2 + (B : Int) → B ≤ ns.length → sn.length = ns.length → (∀ i : Nat, i < B → (rdOf false sn (i : Int) = true ↔ (i : Int) ∈ out)) →
  (ndVisitS ns F r (sn, out)).2 = ndVisit ns F r out ∧ (∀ i : Nat, i < B → (rdOf false (ndVisitS ns F r (sn, out)).1 (i : Int) = true ↔ (i : Int) ∈ ndVisit ns F r out)) ∧ (∀ i : Nat, B ≤ i → rdOf false (ndVisitS ns F r (sn, out)).1 (i : Int) = rdOf false sn (i : Int)) ∧ (∀ x ∈ ndVisit ns F r out, x ∈ out ∨ (0 ≤ x ∧ x < (B : Int))) ∧ (ndVisitS ns F r (sn, out)).1.length = ns.length := by
 intro F
 induction F with
 | zero =>
  intro r sn out B _ _ hl hi
  exact ⟨rfl, hi, fun _ _ => rfl, fun x hx => .inl hx, hl⟩
 | succ F ih =>
  intro r sn out B hr hB hl hi
  rw [ndVisitS, ndVisit]
  by_cases h2 : r < 2
  ·rw [if_pos (Or.inl h2), if_pos (Or.inl h2)]
   exact ⟨rfl, hi, fun _ _ => rfl, fun x hx => .inl hx, hl⟩
  obtain ⟨q, hq⟩ : ∃ q : Nat, r - 2 = (q : Int) := ⟨(r - 2).toNat, by omega⟩
  have hqB : q < B := by omega
  rw [hq]
  by_cases hs : (q : Int) ∈ out
  ·rw [if_pos (Or.inr ((hi q hqB).2 hs)), if_pos (Or.inr hs)]
   exact ⟨rfl, hi, fun _ _ => rfl, fun x hx => .inl hx, hl⟩
  have hsn : ¬ rdOf false sn (q : Int) = true := fun e => hs ((hi q hqB).1 e)
  rw [if_neg (fun e => e.elim h2 hsn), if_neg (fun e => e.elim h2 hs)]
  obtain ⟨d1, d2⟩ := hd q (by omega)
  dsimp only
  rw [Int.toNat_natCast]
  show _ ∧ _
  have e0 : rd_T93 ns (q : Int) = ns.getD q z93 := rfl
  rw [e0] at d1 d2 ⊢
  have hl1 : (sn.set q true).length = ns.length := by rw [List.length_set]; exact hl
  obtain ⟨a1, a2, a3, a4, a5⟩ := ih (ns.getD q z93).f1 (sn.set q true) out q d1 (by omega) hl1 (fun i h => by rw [rdOf_set_ne sn q i (by omega) (by omega)]; exact hi i (by omega))
  generalize hA : ndVisitS ns F (ns.getD q z93).f1 (sn.set q true, out) = st1 at a1 a2 a3 a5 ⊢
  obtain ⟨sn1, out1⟩ := st1
  dsimp only at a1 a2 a3 a5
  rw [← a1] at a2 a4 ⊢
  obtain ⟨b1, b2, b3, b4, b5⟩ := ih (ns.getD q z93).f2 sn1 out1 q d2 (by omega) a5 a2
  generalize hB2 : ndVisitS ns F (ns.getD q z93).f2 (sn1, out1) = st2 at b1 b2 b3 b5 ⊢
  obtain ⟨sn2, out2⟩ := st2
  dsimp only at b1 b2 b3 b5 ⊢
  rw [← b1] at b2 b4 ⊢
  refine ⟨rfl, fun i h => ?_, fun i h => ?_, fun x hx => ?_, b5⟩
  ·by_cases hiq : i < q
   ·rw [b2 i hiq]
    simp only [List.mem_append, List.mem_singleton]
    exact ⟨fun e => .inl e, fun e => e.elim id (fun e => by omega)⟩
   ·by_cases hie : i = q
    ·subst hie
     rw [b3 i (Nat.le_refl _), a3 i (Nat.le_refl _), rdOf_set_eq sn i (by omega)]
     simp
    ·rw [b3 i (by omega), a3 i (by omega), rdOf_set_ne sn q i (by omega) (by omega), hi i h]
     simp only [List.mem_append, List.mem_singleton]
     constructor
     ·intro e
      have h1 := (ndVisit_pre ns F (ns.getD q z93).f1 out).subset e
      rw [← a1] at h1
      have h3 := (ndVisit_pre ns F (ns.getD q z93).f2 out1).subset h1
      rw [← b1] at h3
      exact .inl h3
     ·rintro (e | e)
      ·rcases b4 _ e with e | e
       ·rcases a4 _ e with e | e
        ·exact e
        ·omega
       ·omega
      ·omega
  ·rw [b3 i (by omega), a3 i (by omega), rdOf_set_ne sn q i (by omega) (by omega)]
  ·rcases List.mem_append.1 hx with e | e
   ·rcases b4 _ e with e | e
    ·rcases a4 _ e with e | e
     ·exact .inl e
     ·exact .inr (by omega)
    ·exact .inr (by omega)
   ·rw [List.mem_singleton] at e
    exact .inr (by omega)
theorem impl_visitOrder_ev {n : Nat} {ns : List S93} (h : NdB n ns) (a root : Int) (hl : ns.length ≤ 40) (h1 : root < 2 + (ns.length : Int)) : Ev (fun k => impl_visitOrder.f k a ns root) (ndVisit ns ns.length root []) := by
 have hd : ndDown ns := fun i hi => ⟨(h.low i hi).2, (h.high i hi).2⟩
 unfold impl_visitOrder.f
 refine ev_p ⟨hl, h1, hd⟩ (ev_eq (Ev.now _) ?_)
 refine (ndVisitS_eq hd ns.length root _ [] ns.length h1 (Nat.le_refl _) (List.length_replicate ..) (fun i hi => ?_)).1
 simp [rdOf, List.getD_eq_getElem?_getD, hi]
/-! #### diagM -/
/-- A diagram is valid: what is made of its table. -/
def diagM (a : Int) (ns : List S93) (root : Int) : Prop := 0 ≤ a ∧ a ≤ 4 ∧ ns.length ≤ 40 ∧ 0 ≤ root ∧ root < 2 + (ns.length : Int) ∧ NdB a.toNat ns ∧ ndBuild (ndTab a.toNat ns root) a.toNat a.toNat 0 [] = (ns, root)
theorem spec_ddMake_ev (n : Nat) (hn : n ≤ 4) (vs : List Int) (hv : vs.length = 2 ^ n) : Ev (fun k => spec_ddMake.f k n vs) ((n : Int), (ndBuild vs n n 0 []).1, (ndBuild vs n n 0 []).2) := by
 unfold spec_ddMake.f
 refine ev_p ⟨by omega, by omega, hv⟩ ?_
 rw [Int.toNat_natCast]
 exact Ev.now _
theorem impl_diagramOf_ev (n : Nat) (hn : n ≤ 4) (vs : List Int) (hv : vs.length = 2 ^ n) : Ev (fun k => impl_diagramOf.f k n vs) ((n : Int), (ndBuild vs n n 0 []).1, (ndBuild vs n n 0 []).2) := by
 unfold impl_diagramOf.f
 refine ev_p ⟨by omega, by omega, hv⟩ ?_
 rw [Int.toNat_natCast]
 exact Ev.now _
theorem l1In_eqD (a lo hi : Int) : spec_l1In.f a lo hi = some (decide (lo ≤ a ∧ a ≤ hi)) := by
 unfold spec_l1In.f
 by_cases h : a ≥ lo
 ·rw [if_pos h]
  by_cases h2 : a ≤ hi
  ·simp [h, h2]
  ·simp [h, h2]
 ·rw [if_neg h]
  simp [h]
theorem nd_append_inj {p q r s : List S93} {x y : S93} (h : p.length = q.length) : (p ++ x :: r = q ++ y :: s) ↔ (p = q ∧ x = y ∧ r = s) := by
 constructor
 ·intro e
  obtain ⟨e1, e2⟩ := List.append_inj e h
  injection e2 with e3 e4
  exact ⟨e1, e3, e4⟩
 ·rintro ⟨rfl, rfl, rfl⟩; rfl
theorem spec_ddSame_l0 (n root m root2 : Int) (r : List S93) : ∀ (s p : List S93) (i : Int), i = p.length → r.length = s.length → p.length + r.length ≤ 1000 →
  Ev (fun k => spec_ddSame.l0 k (p ++ r) ((p ++ r).length : Int) i m (p ++ s) root2) (decide (r = s)) := by
 induction r with
 | nil =>
  intro s p i hi hl hb
  obtain rfl : s = [] := List.length_eq_zero_iff.1 hl.symm
  apply ev_up
  simp only [spec_ddSame.l0]
  refine ev_n (by simp; omega) (ev_eq (Ev.now _) (by simp))
 | cons x r ih =>
  intro s p i hi hl hb
  match s, hl with
  | y :: s, hl =>
   simp only [List.length_cons] at hl hb
   apply ev_up
   simp only [spec_ddSame.l0]
   refine ev_p (by simp; omega) (ev_p (by omega) (ev_p (by simp; omega) (ev_p (by simp; omega) ?_)))
   have e1 : rd_T93 (p ++ x :: r) i = x := getDA hi
   have e2 : rd_T93 (p ++ y :: s) i = y := getDA hi
   rw [e1, e2]
   by_cases hxy : x = y
   ·subst hxy
    refine ev_n (by simp) ?_
    rw [w64 (by omega) (by omega)]
    have := ih s (p ++ [x]) (i + 1) (by simp; omega) (by omega) (by simp; omega)
    simp only [List.append_assoc, List.singleton_append] at this
    refine ev_eq this ?_
    by_cases h2 : r = s
    ·rw [decide_eq_true h2, decide_eq_true (by rw [h2])]
    ·rw [decide_eq_false h2, decide_eq_false (fun e => h2 (by injection e))]
   ·rw [decide_eq_false (fun e => hxy (by injection e))]
    refine ev_p ?_ (Ev.now _)
    have hne : ¬ (x.f0 = y.f0 ∧ x.f1 = y.f1 ∧ x.f2 = y.f2) := fun e => hxy (by cases x; cases y; simp at e ⊢; exact e)
    by_cases a : x.f0 = y.f0
    ·by_cases b : x.f1 = y.f1
     ·have c : ¬ x.f2 = y.f2 := fun c => hne ⟨a, b, c⟩
      simp [a, b, c]
     ·simp [a, b]
    ·simp [a]
theorem spec_ddSame_ev (n root : Int) (ns : List S93) (root2 : Int) (ms : List S93) (hb : ns.length ≤ 1000) (hb2 : ms.length ≤ 1000) : Ev (fun k => spec_ddSame.f k n ns root n ms root2) (decide ((ms, root2) = (ns, root))) := by
 unfold spec_ddSame.f
 refine ev_p (by simp) (ev_ite (fun hr => ?_) (fun hr => ?_))
 ·by_cases hl : ns.length = ms.length
  ·apply ev_up
   simp only [spec_ddSame.j0]
   refine ev_n (by rw [hl]; simp) ?_
   have := spec_ddSame_l0 n root n root2 ns ms [] 0 rfl hl (by simpa using hb)
   refine ev_eq this ?_
   by_cases h : ns = ms
   ·rw [decide_eq_true h, decide_eq_true (by rw [h, hr])]
   ·rw [decide_eq_false h, decide_eq_false (fun e => h (by injection e with e1 e2; exact e1.symm))]
  ·apply ev_up
   simp only [spec_ddSame.j0]
   refine ev_p (by simp; omega) (ev_eq (Ev.now _) ?_)
   rw [decide_eq_false]
   intro e
   injection e with e1 e2
   exact hl (by rw [e1])
 ·apply ev_up
  simp only [spec_ddSame.j0]
  refine ev_p (by simp) (ev_eq (Ev.now _) ?_)
  rw [decide_eq_false]
  intro e
  injection e with e1 e2
  exact hr e2.symm
/-! #### diagB -/
open Classical in
noncomputable def diagB (a : Int) (ns : List S93) (root : Int) : Bool := decide (diagM a ns root)
open Classical in
theorem diagB_iff (a : Int) (ns : List S93) (root : Int) : diagB a ns root = true ↔ diagM a ns root := by
 unfold diagB
 exact decide_eq_true_iff
theorem ev_diagB {a : Int} {ns : List S93} {root : Int} {f : Nat → Option Bool} {b : Bool} (h : Ev f b) (e : b = true ↔ diagM a ns root) : Ev f (diagB a ns root) := by
 refine ev_eq h ?_
 rw [Bool.eq_iff_iff, diagB_iff]
 exact e
/-! #### impl_IsDiagram -/
theorem goodRef_eq {ns : List S93} (a root : Int) (i : Nat) (r : Int) (hi : i < ns.length) (hl : ns.length ≤ 1000) : ∃ b : Bool, impl_goodReference.f a ns root (i : Int) r = some b ∧ (b = true ↔ ndRef ns i (ns.getD i z93).f0 r) := by
 unfold impl_goodReference.f ndRef
 rw [w64 (n := 2 + (i : Int)) (by omega) (by omega)]
 by_cases h1 : r < 0
 ·rw [if_pos h1]
  exact ⟨_, rfl, by simp only [Bool.false_eq_true, false_iff]; omega⟩
 rw [if_neg h1]
 by_cases h2 : r ≥ 2 + (i : Int)
 ·rw [if_pos h2]
  exact ⟨_, rfl, by simp only [Bool.false_eq_true, false_iff]; omega⟩
 rw [if_neg h2]
 by_cases h3 : r < 2
 ·rw [if_pos h3]
  exact ⟨_, rfl, by simp only [true_iff]; exact ⟨by omega, by omega, fun h => absurd h (by omega)⟩⟩
 obtain ⟨q, rfl⟩ : ∃ q : Nat, r = 2 + (q : Int) := ⟨(r - 2).toNat, by omega⟩
 rw [if_neg h3, if_pos (by omega), if_pos (by omega), wN (m := q) (by omega) (by omega), if_pos (by omega), if_pos (by omega)]
 refine ⟨_, rfl, ?_⟩
 rw [decide_eq_true_iff, show (2 + (q : Int) - 2).toNat = q by omega]
 exact ⟨fun h => ⟨by omega, by omega, fun _ => h⟩, fun h => h.2.2 (by omega)⟩
theorem nd_eqb2 (x y : S93) : (x.f0 == y.f0 && (x.f1 == y.f1 && (x.f2 == y.f2))) = true ↔ x = y := by
 constructor
 ·intro h
  simp only [Bool.and_eq_true, beq_iff_eq] at h
  cases x; cases y; simp_all
 ·rintro rfl; simp
theorem impl_IsDiagram_l1 {ns : List S93} (a root : Int) (i : Nat) (hi : i < ns.length) (hl : ns.length ≤ 1000) (x : S93) : ∀ (d j : Nat), j + d = i →
  ((∀ q, j ≤ q → q < i → ns.getD q z93 ≠ x) → ∀ (R : Bool), Ev (fun k => impl_IsDiagram.l0 k ns (ns.length : Int) (((i + 1 : Nat)) : Int) a ns root) R → Ev (fun k => impl_IsDiagram.l1 k i j ns (ns.length : Int) i a ns root x.f0 x.f1 x.f2) R) ∧
  ((∃ q, j ≤ q ∧ q < i ∧ ns.getD q z93 = x) → Ev (fun k => impl_IsDiagram.l1 k i j ns (ns.length : Int) i a ns root x.f0 x.f1 x.f2) false) := by
 intro d
 induction d with
 | zero =>
  intro j hj
  refine ⟨fun _ R hR => ?_, fun ⟨q, h1, h2, _⟩ => by omega⟩
  apply ev_up
  simp only [impl_IsDiagram.l1]
  rw [wN (n := (i : Int) + 1) (m := i + 1) (by omega) (by omega)]
  exact ev_n (by omega) hR
 | succ d ih =>
  intro j hj
  obtain ⟨ih1, ih2⟩ := ih (j + 1) (by omega)
  have hstep : ∀ R : Bool, ns.getD j z93 ≠ x → Ev (fun k => impl_IsDiagram.l1 k i ((j + 1 : Nat) : Int) ns (ns.length : Int) i a ns root x.f0 x.f1 x.f2) R → Ev (fun k => impl_IsDiagram.l1 k i j ns (ns.length : Int) i a ns root x.f0 x.f1 x.f2) R := fun R hne hR => by
   apply ev_up
   simp only [impl_IsDiagram.l1]
   refine ev_p (by omega) (ev_p (by omega) (ev_p (by omega) (ev_n ?_ ?_)))
   ·show ¬ ((rd_T93 ns (j : Int)).f0 == x.f0 && ((rd_T93 ns (j : Int)).f1 == x.f1 && ((rd_T93 ns (j : Int)).f2 == x.f2))) = true
    rw [nd_eqb2]; exact hne
   ·rw [wN (m := j + 1) (by omega) (by omega)]
    exact hR
  refine ⟨fun h R hR => hstep R (h j (by omega) (by omega)) (ih1 (fun q h1 h2 => h q (by omega) h2) R hR), fun ⟨q, h1, h2, h3⟩ => ?_⟩
  by_cases e : ns.getD j z93 = x
  ·apply ev_up
   simp only [impl_IsDiagram.l1]
   refine ev_p (by omega) (ev_p (by omega) (ev_p (by omega) (ev_p ?_ (Ev.now _))))
   show ((rd_T93 ns (j : Int)).f0 == x.f0 && ((rd_T93 ns (j : Int)).f1 == x.f1 && ((rd_T93 ns (j : Int)).f2 == x.f2))) = true
   rw [nd_eqb2]; exact e
  ·exact hstep false e (ih2 ⟨q, Nat.lt_of_le_of_ne h1 (fun hq => e (by rw [hq]; exact h3)), h2, h3⟩)
theorem impl_IsDiagram_l2 (l : List Int) (hl : l.length ≤ 1000) : ∀ (d i : Nat), i + d = l.length → (∀ q, q < i → rd l (q : Int) = (q : Int)) → ∃ b : Bool, Ev (fun k => impl_IsDiagram.l2 k l (l.length : Int) i) b ∧ (b = true ↔ ∀ q, q < l.length → rd l (q : Int) = (q : Int)) := by
 intro d
 induction d with
 | zero =>
  intro i hi hq
  refine ⟨true, ?_, by simp only [true_iff]; exact fun q h => hq q (by omega)⟩
  apply ev_up
  simp only [impl_IsDiagram.l2]
  exact ev_n (by omega) (Ev.now _)
 | succ d ih =>
  intro i hi hq
  by_cases e : (i : Int) = rd l (i : Int)
  ·obtain ⟨b, hb, hbi⟩ := ih (i + 1) (by omega) (fun q h => by
    by_cases hqi : q = i
    ·subst hqi; exact e.symm
    ·exact hq q (by omega))
   refine ⟨b, ?_, hbi⟩
   apply ev_up
   simp only [impl_IsDiagram.l2]
   refine ev_p (by omega) (ev_p (by omega) (ev_p (by omega) (ev_p e ?_)))
   rw [wN (m := i + 1) (by omega) (by omega)]
   exact hb
  ·refine ⟨false, ?_, by simp only [Bool.false_eq_true, false_iff]; exact fun h => e (h i (by omega)).symm⟩
   apply ev_up
   simp only [impl_IsDiagram.l2]
   exact ev_p (by omega) (ev_p (by omega) (ev_p (by omega) (ev_n e (Ev.now _))))
theorem iota_of {l : List Int} {n : Nat} (hl : l.length = n) : (∀ q, q < l.length → rd l (q : Int) = (q : Int)) ↔ l = ndIota n := by
 subst hl
 constructor
 ·intro h
  apply List.ext_getElem?
  intro i
  by_cases hi : i < l.length
  ·have h1 := h i hi
   rw [rdN hi] at h1
   unfold ndIota
   rw [List.getElem?_eq_getElem hi, h1]
   simp [hi]
  ·rw [List.getElem?_eq_none (by omega), List.getElem?_eq_none (by rw [ndIota_length]; omega)]
 ·intro h q hq
  have h2 : l[q]? = (ndIota l.length)[q]? := by rw [← h]
  rw [rdN hq]
  unfold ndIota at h2
  rw [List.getElem?_eq_getElem hq] at h2
  simp [hq] at h2
  exact h2
theorem impl_IsDiagram_l0 {n : Nat} {ns : List S93} (hn : n ≤ 4) (hl : ns.length ≤ 40) (root : Int) (h0 : 0 ≤ root) (h1 : root < 2 + (ns.length : Int)) : ∀ (d i : Nat), i + d = ns.length →
  (∀ q, q < i → (0 ≤ (ns.getD q z93).f0 ∧ (ns.getD q z93).f0 < (n : Int)) ∧ (ns.getD q z93).f1 ≠ (ns.getD q z93).f2 ∧ ndRef ns q (ns.getD q z93).f0 (ns.getD q z93).f1 ∧ ndRef ns q (ns.getD q z93).f0 (ns.getD q z93).f2 ∧ ∀ j, j < q → ns.getD j z93 ≠ ns.getD q z93) →
  ∃ b : Bool, Ev (fun k => impl_IsDiagram.l0 k ns (ns.length : Int) i n ns root) b ∧ (b = true ↔ NdB n ns ∧ ndBuild (ndTab n ns root) n n 0 [] = (ns, root)) := by
 have made : NdB n ns ∧ ndBuild (ndTab n ns root) n n 0 [] = (ns, root) → NdOk n ns ∧ ndVisit ns ns.length root [] = ndIota ns.length := fun ⟨hb, hm⟩ => by
  have h := ndBuild_made (n := n) (ndTab n ns root) (rd_bits (ndTab_bits hb root h0 h1)) n 0 [] (Nat.le_refl _) (by simp) (NdOk.nil n)
  rw [hm] at h
  exact ⟨h.ok, h.visit ns ns.length (List.prefix_refl _) h.ok (Nat.le_refl _)⟩
 have hno : ∀ {f : Nat → Option Bool}, Ev f false → ¬ NdOk n ns → ∃ b : Bool, Ev f b ∧ (b = true ↔ NdB n ns ∧ ndBuild (ndTab n ns root) n n 0 [] = (ns, root)) := fun hf hk => ⟨false, hf, by simp only [Bool.false_eq_true, false_iff]; exact fun h => hk (made h).1⟩
 intro d
 induction d with
 | zero =>
  intro i hi hq
  obtain rfl : i = ns.length := by omega
  have hk : NdOk n ns := ⟨fun q h => (hq q h).1, fun q h => (hq q h).2.1, fun q h => (hq q h).2.2.1, fun q h => (hq q h).2.2.2.1, fun p q hpq h => (hq q h).2.2.2.2 p hpq⟩
  have hv := impl_visitOrder_ev hk.b (n : Int) root hl h1
  have hiff : (NdB n ns ∧ ndBuild (ndTab n ns root) n n 0 [] = (ns, root)) ↔ ndVisit ns ns.length root [] = ndIota ns.length := by
   constructor
   ·exact fun h => (made h).2
   ·exact fun h => ⟨hk.b, ndBuild_good hk _ ns.length (Nat.le_refl _) root h0 h1 h (fun j hj => ndTab_rd hj)⟩
  rw [hiff]
  by_cases hlen : (ndVisit ns ns.length root []).length = ns.length
  ·obtain ⟨b, hb, hbi⟩ := impl_IsDiagram_l2 (ndVisit ns ns.length root []) (by omega) _ 0 (Nat.zero_add _) (fun q h => by omega)
   refine ⟨b, ?_, by rw [hbi]; exact iota_of hlen⟩
   apply ev_up
   simp only [impl_IsDiagram.l0]
   exact ev_n (by omega) (Ev.bind hv (ev_p (by omega) hb))
  ·refine ⟨false, ?_, by simp only [Bool.false_eq_true, false_iff]; exact fun h => hlen (by rw [h, ndIota_length])⟩
   apply ev_up
   simp only [impl_IsDiagram.l0]
   exact ev_n (by omega) (Ev.bind hv (ev_n (by omega) (Ev.now _)))
 | succ d ih =>
  intro i hi hq
  have hin : i < ns.length := by omega
  have hj2 : ∀ (f0 f1 f2 : Int), Ev (fun k => impl_IsDiagram.j2 k i ns (ns.length : Int) i true n ns root f0 f1 f2) false := fun f0 f1 f2 => by
   apply ev_up
   simp only [impl_IsDiagram.j2]
   exact ev_p (by simp) (Ev.now _)
  obtain ⟨b1, e1, hb1⟩ := goodRef_eq (n : Int) root i (ns.getD i z93).f1 hin (by omega)
  obtain ⟨b2, e2, hb2⟩ := goodRef_eq (n : Int) root i (ns.getD i z93).f2 hin (by omega)
  have hgo : ∀ R : Bool, (∀ (b : Bool), Ev (fun k => if (ns.getD i z93).f0 < 0 then (impl_IsDiagram.j2 k i ns (ns.length : Int) i true n ns root (ns.getD i z93).f0 (ns.getD i z93).f1 (ns.getD i z93).f2) else (if (ns.getD i z93).f0 ≥ (n : Int) then (impl_IsDiagram.j2 k i ns (ns.length : Int) i true n ns root (ns.getD i z93).f0 (ns.getD i z93).f1 (ns.getD i z93).f2) else (if (ns.getD i z93).f1 = (ns.getD i z93).f2 then (impl_IsDiagram.j2 k i ns (ns.length : Int) i true n ns root (ns.getD i z93).f0 (ns.getD i z93).f1 (ns.getD i z93).f2) else ((impl_goodReference.f n ns root i (ns.getD i z93).f1).bind fun t228 => (if t228 = true then ((impl_goodReference.f n ns root i (ns.getD i z93).f2).bind fun t229 => (impl_IsDiagram.j2 k i ns (ns.length : Int) i (!t229) n ns root (ns.getD i z93).f0 (ns.getD i z93).f1 (ns.getD i z93).f2)) else (impl_IsDiagram.j2 k i ns (ns.length : Int) i true n ns root (ns.getD i z93).f0 (ns.getD i z93).f1 (ns.getD i z93).f2)))))) b → b = R → Ev (fun k => impl_IsDiagram.l0 k ns (ns.length : Int) i n ns root) R) := fun R b h hb => by
   subst hb
   apply ev_up
   simp only [impl_IsDiagram.l0]
   exact ev_p (by omega) (ev_p (by omega) (ev_p (by omega) h))
  by_cases c1 : (ns.getD i z93).f0 < 0
  ·exact hno (hgo false false (ev_p c1 (hj2 _ _ _)) rfl) (fun h => by have := (h.inp i hin).1; omega)
  by_cases c2 : (ns.getD i z93).f0 ≥ (n : Int)
  ·exact hno (hgo false false (ev_n c1 (ev_p c2 (hj2 _ _ _))) rfl) (fun h => by have := (h.inp i hin).2; omega)
  by_cases c3 : (ns.getD i z93).f1 = (ns.getD i z93).f2
  ·exact hno (hgo false false (ev_n c1 (ev_n c2 (ev_p c3 (hj2 _ _ _)))) rfl) (fun h => h.ne i hin c3)
  cases b1 with
  | false => exact hno (hgo false false (ev_n c1 (ev_n c2 (ev_n c3 (Ev.bind (ev_c e1) (ev_n (by simp) (hj2 _ _ _)))))) rfl) (fun h => absurd (hb1.2 (h.low i hin)) (by simp))
  | true =>
   cases b2 with
   | false => exact hno (hgo false false (ev_n c1 (ev_n c2 (ev_n c3 (Ev.bind (ev_c e1) (ev_p rfl (Ev.bind (ev_c e2) (hj2 _ _ _))))))) rfl) (fun h => absurd (hb2.2 (h.high i hin)) (by simp))
   | true =>
    obtain ⟨hyes, hsame⟩ := impl_IsDiagram_l1 (n : Int) root i hin (by omega) (ns.getD i z93) i 0 (by omega)
    have hstep : ∀ R : Bool, Ev (fun k => impl_IsDiagram.l1 k i ((0 : Nat) : Int) ns (ns.length : Int) i n ns root (ns.getD i z93).f0 (ns.getD i z93).f1 (ns.getD i z93).f2) R → Ev (fun k => impl_IsDiagram.l0 k ns (ns.length : Int) i n ns root) R := fun R hR => by
     refine hgo R R (ev_n c1 (ev_n c2 (ev_n c3 (Ev.bind (ev_c e1) (ev_p rfl (Ev.bind (ev_c e2) ?_)))))) rfl
     apply ev_up
     simp only [impl_IsDiagram.j2]
     exact ev_n (by simp) hR
    by_cases hex : ∃ q, 0 ≤ q ∧ q < i ∧ ns.getD q z93 = ns.getD i z93
    ·obtain ⟨q, _, hq2, hq3⟩ := hex
     exact hno (hstep false (hsame ⟨q, Nat.zero_le _, hq2, hq3⟩)) (fun h => h.one q i hq2 hin hq3)
    ·obtain ⟨b, hb, hbi⟩ := ih (i + 1) (by omega) (fun q h => by
      by_cases e : q = i
      ·subst e
       exact ⟨⟨by omega, by omega⟩, c3, hb1.1 rfl, hb2.1 rfl, fun j hj hje => hex ⟨j, Nat.zero_le _, hj, hje⟩⟩
      ·exact hq q (by omega))
     exact ⟨b, hstep b (hyes (fun q _ h2 h3 => hex ⟨q, Nat.zero_le _, h2, h3⟩) b hb), hbi⟩
theorem impl_IsDiagram_ev (a : Int) (ns : List S93) (root : Int) (hl : ns.length ≤ 9223372036854775806) : Ev (fun k => impl_IsDiagram.f k a ns root) (diagB a ns root) := by
 have hj : ¬ diagM a ns root → Ev (fun k => impl_IsDiagram.j0 k true a ns root) (diagB a ns root) := fun h => by
  apply ev_up
  simp only [impl_IsDiagram.j0]
  exact ev_p (by simp) (ev_diagB (Ev.now false) (by simp only [Bool.false_eq_true, false_iff]; exact h))
 unfold impl_IsDiagram.f
 refine ev_ite (fun c => hj (fun hd => by have := hd.1; omega)) (fun c1 => ev_ite (fun c => hj (fun hd => by have := hd.2.1; omega)) (fun c2 => ev_ite (fun c => hj (fun hd => by have := hd.2.2.1; omega)) (fun c3 => ev_ite (fun c => hj (fun hd => by have := hd.2.2.2.1; omega)) (fun c4 => ?_))))
 obtain ⟨n, rfl⟩ := nat_of (show 0 ≤ a by omega)
 rw [w64 (by omega) (by omega)]
 by_cases c5 : root > 1 + (ns.length : Int)
 ·rw [decide_eq_true c5]
  exact hj (fun hd => by have := hd.2.2.2.2.1; omega)
 ·rw [decide_eq_false c5]
  obtain ⟨b, hb, hbi⟩ := impl_IsDiagram_l0 (n := n) (ns := ns) (by omega) (by omega) root (by omega) (by omega) ns.length 0 (by omega) (fun q h => by omega)
  apply ev_up
  simp only [impl_IsDiagram.j0]
  refine ev_diagB (ev_n (by simp) hb) ?_
  rw [hbi]
  unfold diagM
  rw [Int.toNat_natCast]
  exact ⟨fun h => ⟨by omega, by omega, by omega, by omega, by omega, h.1, h.2⟩, fun h => ⟨h.2.2.2.2.2.1, h.2.2.2.2.2.2⟩⟩
/-! #### spec_ddGood -/
theorem spec_ddGood_l0 {n : Nat} {ns : List S93} (hn : n ≤ 4) (hl : ns.length ≤ 40) (root : Int) (h0 : 0 ≤ root) (h1 : root < 2 + (ns.length : Int)) : ∀ (d i : Nat), i + d = ns.length →
  (∀ q, q < i → (0 ≤ (ns.getD q z93).f0 ∧ (ns.getD q z93).f0 < (n : Int)) ∧ (0 ≤ (ns.getD q z93).f1 ∧ (ns.getD q z93).f1 < 2 + (q : Int)) ∧ (0 ≤ (ns.getD q z93).f2 ∧ (ns.getD q z93).f2 < 2 + (q : Int))) →
  ∃ b : Bool, Ev (fun k => spec_ddGood.l0 k ns (ns.length : Int) i n ns root) b ∧ (b = true ↔ NdB n ns ∧ ndBuild (ndTab n ns root) n n 0 [] = (ns, root)) := by
 intro d
 induction d with
 | zero =>
  intro i hi hq
  obtain rfl : i = ns.length := by omega
  have hb : NdB n ns := ⟨fun q h => (hq q h).1, fun q h => (hq q h).2.1, fun q h => (hq q h).2.2⟩
  have hm := ndBuild_made (n := n) (ndTab n ns root) (rd_bits (ndTab_bits hb root h0 h1)) n 0 [] (Nat.le_refl _) (by simp) (NdOk.nil n)
  have hlen := hm.len
  have hp := pow4 hn
  simp only [List.length_nil] at hlen
  refine ⟨decide (ndBuild (ndTab n ns root) n n 0 [] = (ns, root)), ?_, by rw [decide_eq_true_iff]; exact ⟨fun h => ⟨hb, h⟩, fun h => h.2⟩⟩
  apply ev_up
  simp only [spec_ddGood.l0]
  refine ev_n (by omega) (Ev.bind (spec_ddTable_ev hb hn (by omega) root h0 h1) (Ev.bind (spec_ddMake_ev n hn _ (ndTab_length _ _ _)) (Ev.bind (spec_ddSame_ev n root ns _ _ (by omega) (by dsimp only; omega)) (Ev.now _))))
 | succ d ih =>
  intro i hi hq
  by_cases hok : (0 ≤ (ns.getD i z93).f0 ∧ (ns.getD i z93).f0 < (n : Int)) ∧ (0 ≤ (ns.getD i z93).f1 ∧ (ns.getD i z93).f1 < 2 + (i : Int)) ∧ (0 ≤ (ns.getD i z93).f2 ∧ (ns.getD i z93).f2 < 2 + (i : Int))
  ·obtain ⟨b, hb, hbi⟩ := ih (i + 1) (by omega) (fun q h => by
    by_cases e : q = i
    ·subst e; exact hok
    ·exact hq q (by omega))
   refine ⟨b, ?_, hbi⟩
   apply ev_up
   simp only [spec_ddGood.l0]
   refine ev_p (by omega) (ev_p (by omega) (ev_p (by omega) ?_))
   rw [rdNd, l1In_eqD, l1In_eqD, l1In_eqD, w64 (n := (n : Int) - 1) (by omega) (by omega), wN (m := i + 1) (by omega) (by omega)]
   obtain ⟨⟨a0, a1⟩, ⟨b0, b1⟩, ⟨c0, c1⟩⟩ := hok
   refine Ev.bind (ev_c rfl) (ev_p (decide_eq_true ⟨a0, by omega⟩) (Ev.bind (ev_c rfl) (ev_p (decide_eq_true ⟨b0, by omega⟩) (Ev.bind (ev_c rfl) (ev_p (decide_eq_true ⟨c0, by omega⟩) ?_)))))
   exact hb
  ·refine ⟨false, ?_, by
    simp only [Bool.false_eq_true, false_iff]
    rintro ⟨hb, _⟩
    exact hok ⟨hb.inp i (by omega), hb.low i (by omega), hb.high i (by omega)⟩⟩
   apply ev_up
   simp only [spec_ddGood.l0]
   refine ev_p (by omega) (ev_p (by omega) (ev_p (by omega) ?_))
   rw [rdNd, l1In_eqD, l1In_eqD, l1In_eqD, w64 (n := (n : Int) - 1) (by omega) (by omega), wN (m := i + 1) (by omega) (by omega)]
   refine Ev.bind (ev_c rfl) (ev_ite (fun ha => Ev.bind (ev_c rfl) (ev_ite (fun hb => Ev.bind (ev_c rfl) (ev_ite (fun hc => ?_) (fun _ => Ev.now _))) (fun _ => Ev.now _))) (fun _ => Ev.now _))
   have ha := of_decide_eq_true ha
   have hb := of_decide_eq_true hb
   have hc := of_decide_eq_true hc
   exact absurd ⟨⟨ha.1, by omega⟩, ⟨hb.1, by omega⟩, ⟨hc.1, by omega⟩⟩ hok
theorem spec_ddGood_ev (a : Int) (ns : List S93) (root : Int) (hl : ns.length ≤ 9223372036854775806) : Ev (fun k => spec_ddGood.f k a ns root) (diagB a ns root) := by
 have hno : ¬ diagM a ns root → Ev (fun _ => some false) (diagB a ns root) := fun h => ev_diagB (Ev.now false) (by simp only [Bool.false_eq_true, false_iff]; exact h)
 have hj : ¬ diagM a ns root → Ev (fun k => spec_ddGood.j0 k true a ns root) (diagB a ns root) := fun h => by
  apply ev_up
  simp only [spec_ddGood.j0]
  exact hno h
 unfold spec_ddGood.f
 rw [ttInputs_eq]
 refine Ev.bind (ev_c rfl) (ev_ite (fun h => ?_) (fun h => ?_))
 ·have h' := of_decide_eq_true h
  obtain ⟨n, rfl⟩ := nat_of h'.1
  refine ev_ite (fun h2 => hj (fun hd => by have := hd.2.2.1; omega)) (fun h2 => ?_)
  rw [l1In_eqD, w64 (by omega) (by omega)]
  refine Ev.bind (ev_c rfl) ?_
  by_cases hr : 0 ≤ root ∧ root ≤ (ns.length : Int) + 1
  ·rw [decide_eq_true hr]
   obtain ⟨b, hb, hbi⟩ := spec_ddGood_l0 (n := n) (ns := ns) (by omega) (by omega) root hr.1 (by omega) ns.length 0 (by omega) (fun q h => by omega)
   apply ev_up
   simp only [spec_ddGood.j0]
   refine ev_diagB (ev_n (by decide) hb) ?_
   rw [hbi]
   unfold diagM
   rw [Int.toNat_natCast]
   exact ⟨fun h => ⟨by omega, by omega, by omega, by omega, by omega, h.1, h.2⟩, fun h => ⟨h.2.2.2.2.2.1, h.2.2.2.2.2.2⟩⟩
  ·rw [decide_eq_false hr]
   exact hj (fun hd => hr ⟨hd.2.2.2.1, by have := hd.2.2.2.2.1; omega⟩)
 ·exact hj (fun hd => h (decide_eq_true ⟨hd.1, hd.2.1⟩))
/-! #### combineDiagrams -/
open Classical in
/-- The diagram of two combined. -/
noncomputable def cmbD (kind a : Int) (ns : List S93) (ra : Int) (b : Int) (ms : List S93) (rb : Int) : Int × List S93 × Int × Bool :=
 if diagM a ns ra ∧ diagM b ms rb ∧ 1 ≤ kind ∧ kind ≤ 4 ∧ a = b then (a, (ndBuild (cmbL kind (ndTab a.toNat ns ra) (ndTab b.toNat ms rb)) a.toNat a.toNat 0 []).1, (ndBuild (cmbL kind (ndTab a.toNat ns ra) (ndTab b.toNat ms rb)) a.toNat a.toNat 0 []).2, true) else (0, [], 0, false)
theorem ndTab_tableM {n : Nat} {ns : List S93} {root : Int} (hn : n ≤ 4) (h : NdB n ns) (h0 : 0 ≤ root) (h1 : root < 2 + (ns.length : Int)) : tableM (n : Int) (ndTab n ns root) = true := by
 unfold tableM
 rw [Bool.and_eq_true, decide_eq_true_iff, List.all_eq_true]
 exact ⟨⟨by omega, by omega, by rw [Int.toNat_natCast]; exact ndTab_length _ _ _⟩, fun x hx => decide_eq_true (ndTab_bits h root h0 h1 x hx)⟩
theorem ndBuild_len (vs : List Int) (n : Nat) : ∀ (d idx : Nat) (ns : List S93), (ndBuild vs n d idx ns).1.length + 1 ≤ ns.length + 2 ^ d := by
 intro d
 induction d with
 | zero => intro idx ns; rw [ndBuild]; simp
 | succ d ih =>
  intro idx ns
  rw [ndBuild, Nat.pow_succ]
  have h1 := ih idx ns
  have h2 := ih (idx + 2 ^ (n - (d + 1))) (ndBuild vs n d idx ns).1
  have h3 : ∀ (l : List S93) (x : S93), (ndNode l x).1.length ≤ l.length + 1 := fun l x => by
   unfold ndNode
   split
   ·dsimp only; omega
   ·split
    ·dsimp only; omega
    ·simp
  have h4 := h3 (ndBuild vs n d (idx + 2 ^ (n - (d + 1))) (ndBuild vs n d idx ns).1).1 ⟨((n - (d + 1) : Nat) : Int), (ndBuild vs n d idx ns).2, (ndBuild vs n d (idx + 2 ^ (n - (d + 1))) (ndBuild vs n d idx ns).1).2⟩
  omega
theorem cmbD_length (kind a : Int) (ns : List S93) (ra : Int) (b : Int) (ms : List S93) (rb : Int) : (cmbD kind a ns ra b ms rb).2.1.length ≤ 16 := by
 unfold cmbD
 split
 ·rename_i h
  have hl := ndBuild_len (cmbL kind (ndTab a.toNat ns ra) (ndTab b.toNat ms rb)) a.toNat a.toNat 0 []
  have hp := pow4 (n := a.toNat) (by have := h.1.2.1; have := h.1.1; omega)
  simp only [List.length_nil] at hl
  dsimp only
  omega
 ·simp
theorem combine_ev (kind a : Int) (ns : List S93) (ra : Int) (b : Int) (ms : List S93) (rb : Int) (hl : ns.length ≤ 9223372036854775806) (hm : ms.length ≤ 9223372036854775806) :
  Ev (fun k => spec_CombineDiagrams.f k kind a ns ra b ms rb) (cmbD kind a ns ra b ms rb) ∧ Ev (fun k => impl_CombineDiagrams.f k kind a ns ra b ms rb) (cmbD kind a ns ra b ms rb) := by
 have no1 : ∀ {f : Nat → Option (Int × List S93 × Int × Bool)}, ¬ (diagM a ns ra ∧ diagM b ms rb ∧ 1 ≤ kind ∧ kind ≤ 4 ∧ a = b) → Ev f (0, [], 0, false) → Ev f (cmbD kind a ns ra b ms rb) := fun h e => by
  unfold cmbD
  rw [if_neg h]
  exact e
 have j1 : ¬ (diagM a ns ra ∧ diagM b ms rb ∧ 1 ≤ kind ∧ kind ≤ 4 ∧ a = b) → Ev (fun k => spec_CombineDiagrams.j0 k kind true a ns ra b ms rb) (cmbD kind a ns ra b ms rb) := fun h => no1 h (by
  apply ev_up
  simp only [spec_CombineDiagrams.j0]
  exact ev_p (by simp) (Ev.now _))
 have j2 : ¬ (diagM a ns ra ∧ diagM b ms rb ∧ 1 ≤ kind ∧ kind ≤ 4 ∧ a = b) → Ev (fun k => impl_CombineDiagrams.j0 k kind true a ns ra b ms rb) (cmbD kind a ns ra b ms rb) := fun h => no1 h (by
  apply ev_up
  simp only [impl_CombineDiagrams.j0]
  exact ev_p (by simp) (Ev.now _))
 unfold spec_CombineDiagrams.f impl_CombineDiagrams.f
 by_cases c1 : diagM a ns ra
 ·have b1 := (diagB_iff a ns ra).2 c1
  by_cases c2 : diagM b ms rb
  ·have b2 := (diagB_iff b ms rb).2 c2
   have d1 := spec_ddGood_ev a ns ra hl
   have d2 := spec_ddGood_ev b ms rb hm
   have d3 := impl_IsDiagram_ev a ns ra hl
   have d4 := impl_IsDiagram_ev b ms rb hm
   rw [b1] at d1 d3
   rw [b2] at d2 d4
   obtain ⟨a0, a4, al, r0, r1, hb1, _⟩ := c1
   obtain ⟨e0, e4, el, s0, s1, hb2, _⟩ := c2
   obtain ⟨n, rfl⟩ := nat_of a0
   obtain ⟨m, rfl⟩ := nat_of e0
   rw [Int.toNat_natCast] at hb1 hb2
   have t1 := spec_ddTable_ev hb1 (by omega) (by omega) ra r0 r1
   have t2 := spec_ddTable_ev hb2 (by omega) (by omega) rb s0 s1
   have t3 := impl_tableOfDiagram_ev hb1 (by omega) (by omega) ra r0 r1
   have t4 := impl_tableOfDiagram_ev hb2 (by omega) (by omega) rb s0 s1
   have m1 := ndTab_tableM (by omega) hb1 r0 r1
   have m2 := ndTab_tableM (by omega) hb2 s0 s1
   have l1 := ndTab_length n ns ra
   have l2 := ndTab_length m ms rb
   have p1 := pow4 (n := n) (by omega)
   have p2 := pow4 (n := m) (by omega)
   have k1 := spec_CombineTables_ev kind (n : Int) (ndTab n ns ra) (m : Int) (ndTab m ms rb) (by omega) (by omega)
   have k2 := impl_CombineTables_ev kind (n : Int) (ndTab n ns ra) (m : Int) (ndTab m ms rb) (by omega) (by omega)
   have hres : Ev (fun k => if (cmbT kind (n : Int) (ndTab n ns ra) (m : Int) (ndTab m ms rb)).2.2 = true then ((spec_ddMake.f k (cmbT kind (n : Int) (ndTab n ns ra) (m : Int) (ndTab m ms rb)).1 (cmbT kind (n : Int) (ndTab n ns ra) (m : Int) (ndTab m ms rb)).2.1).bind fun bt177 => (some (bt177.1, bt177.2.1, bt177.2.2, true))) else (some (0, ([] : List (S93)), 0, false))) (cmbD kind (n : Int) ns ra (m : Int) ms rb)
     ∧ Ev (fun k => if (cmbT kind (n : Int) (ndTab n ns ra) (m : Int) (ndTab m ms rb)).2.2 = true then ((impl_diagramOf.f k (cmbT kind (n : Int) (ndTab n ns ra) (m : Int) (ndTab m ms rb)).1 (cmbT kind (n : Int) (ndTab n ns ra) (m : Int) (ndTab m ms rb)).2.1).bind fun bt177 => (some (bt177.1, bt177.2.1, bt177.2.2, true))) else (some (0, ([] : List (S93)), 0, false))) (cmbD kind (n : Int) ns ra (m : Int) ms rb) := by
    unfold cmbT cmbD
    by_cases c : 1 ≤ kind ∧ kind ≤ 4 ∧ (n : Int) = (m : Int)
    ·obtain rfl : n = m := by omega
     have hvl : (cmbL kind (ndTab n ns ra) (ndTab n ms rb)).length = 2 ^ n := by rw [cmbL_length _ _ _ (by omega), l1]
     rw [if_pos ⟨c.1, c.2.1, m1, m2, rfl⟩, if_pos ⟨⟨a0, a4, al, r0, r1, by rw [Int.toNat_natCast]; exact hb1, by assumption⟩, ⟨e0, e4, el, s0, s1, by rw [Int.toNat_natCast]; exact hb2, by assumption⟩, c.1, c.2.1, rfl⟩]
     simp only [if_true, Int.toNat_natCast]
     exact ⟨Ev.bind (spec_ddMake_ev n (by omega) _ hvl) (Ev.now _), Ev.bind (impl_diagramOf_ev n (by omega) _ hvl) (Ev.now _)⟩
    ·rw [if_neg (fun h => c ⟨h.1, h.2.1, h.2.2.2.2⟩), if_neg (fun h => c ⟨h.2.2.1, h.2.2.2.1, h.2.2.2.2⟩)]
     exact ⟨ev_n (by simp) (Ev.now _), ev_n (by simp) (Ev.now _)⟩
   refine ⟨Ev.bind d1 (ev_p rfl (Ev.bind d2 ?_)), Ev.bind d3 (ev_p rfl (Ev.bind d4 ?_))⟩
   ·apply ev_up
    simp only [spec_CombineDiagrams.j0]
    exact ev_n (by simp) (Ev.bind t1 (Ev.bind t2 (Ev.bind k1 hres.1)))
   ·apply ev_up
    simp only [impl_CombineDiagrams.j0]
    exact ev_n (by simp) (Ev.bind t3 (Ev.bind t4 (Ev.bind k2 hres.2)))
  ·have b2 : diagB b ms rb = false := by rw [Bool.eq_false_iff]; exact fun h => c2 ((diagB_iff _ _ _).1 h)
   have b1 := (diagB_iff a ns ra).2 c1
   have d2 := spec_ddGood_ev b ms rb hm
   have d4 := impl_IsDiagram_ev b ms rb hm
   have d1 := spec_ddGood_ev a ns ra hl
   have d3 := impl_IsDiagram_ev a ns ra hl
   rw [b1] at d1 d3
   rw [b2] at d2 d4
   exact ⟨Ev.bind d1 (ev_p rfl (Ev.bind d2 (j1 (fun h => c2 h.2.1)))), Ev.bind d3 (ev_p rfl (Ev.bind d4 (j2 (fun h => c2 h.2.1))))⟩
 ·have b1 : diagB a ns ra = false := by rw [Bool.eq_false_iff]; exact fun h => c1 ((diagB_iff _ _ _).1 h)
  have d1 := spec_ddGood_ev a ns ra hl
  have d3 := impl_IsDiagram_ev a ns ra hl
  rw [b1] at d1 d3
  exact ⟨Ev.bind d1 (ev_n (by simp) (j1 (fun h => c1 h.1))), Ev.bind d3 (ev_n (by simp) (j2 (fun h => c1 h.1)))⟩
/-! #### nodeT -/
theorem rdNodeA {p r : List S93} {x : S93} {i : Int} (hi : i = p.length) : rd_T93 (p ++ x :: r) i = x := getDA hi
/-! #### heldDiagram -/
def nodeSeq : Int → Nat → List S93
 | _, 0 => []
 | s, d + 1 => ⟨s, s + 1, s + 1 + 1⟩ :: nodeSeq (s + 1 + 1 + 1) d
theorem nodeSeq_length (d : Nat) : ∀ s, (nodeSeq s d).length = d := by
 induction d with
 | zero => intro s; rfl
 | succ d ih => intro s; rw [nodeSeq, List.length_cons, ih]
theorem markNodeS2_l0 (r : List S93) : ∀ (p : List S93) (s i : Int), i = p.length → p.length + r.length ≤ 1048576 → 0 ≤ s → s + 3 * r.length ≤ 8388608 →
  Ev (fun k => laws_markNodeS.l0 k (p ++ r) s i) (s + 3 * r.length, p ++ nodeSeq s r.length) := by
 induction r with
 | nil =>
  intro p s i hi hb h0 hs
  apply ev_up
  simp only [laws_markNodeS.l0]
  refine ev_n (by simp; omega) ?_
  simpa [nodeSeq] using Ev.now (s, p)
 | cons x r ih =>
  intro p s i hi hb h0 hs
  simp only [List.length_cons, Int.natCast_add] at hb hs
  have ht := ih (p ++ [⟨s, s + 1, s + 1 + 1⟩]) (s + 1 + 1 + 1) (i + 1) (by simp; omega) (by simp; omega) (by omega) (by omega)
  apply ev_up
  simp only [laws_markNodeS.l0]
  refine ev_p (by simp; omega) (ev_p (by omega) (Ev.bind (ev_c rfl) (Ev.bind (ev_c rfl) ?_)))
  simp only [rdNodeA hi, setB hi]
  rw [appA, w64 (n := s + 1) (by omega) (by omega), w64 (n := s + 1 + 1) (by omega) (by omega), w64 (n := s + 1 + 1 + 1) (by omega) (by omega), w64 (n := i + 1) (by omega) (by omega)]
  refine ev_eq ht ?_
  simp only [List.length_cons, Prod.mk.injEq, List.append_assoc]
  exact ⟨by omega, by rw [nodeSeq]; rfl⟩
theorem heldNodeS_l0 (d : Nat) : ∀ (p : List S93) (s i : Int), i = p.length → p.length + d ≤ 1048576 → 0 ≤ s → s + 3 * d ≤ 8388608 →
  Ev (fun k => laws_heldNodeS.l0 k (p ++ nodeSeq s d) s i) (s + 3 * d) := by
 induction d with
 | zero =>
  intro p s i hi hb h0 hs
  apply ev_up
  simp only [laws_heldNodeS.l0]
  refine ev_n (by simp [nodeSeq]; omega) (ev_eq (Ev.now _) (by simp))
 | succ d ih =>
  intro p s i hi hb h0 hs
  have ht := ih (p ++ [⟨s, s + 1, s + 1 + 1⟩]) (s + 1 + 1 + 1) (i + 1) (by simp; omega) (by simp; omega) (by omega) (by omega)
  apply ev_up
  simp only [laws_heldNodeS.l0]
  refine ev_p (by simp [nodeSeq_length]; omega) (ev_p (by omega) ?_)
  rw [nodeSeq, rdNodeA hi, w64 (n := s + 1) (by omega) (by omega), w64 (n := s + 1 + 1) (by omega) (by omega), w64 (n := s + 1 + 1 + 1) (by omega) (by omega), w64 (n := i + 1) (by omega) (by omega)]
  refine ev_p rfl (ev_p rfl (ev_p rfl ?_))
  rw [appA]
  refine ev_eq ht ?_
  omega
theorem markDiagram_ev (n root : Int) (s : Int) (gs : List S93) (hg : gs.length ≤ 1048576) (h0 : 0 ≤ s) (hs : s + 3 * gs.length ≤ 8388608) : Ev (fun k => laws_markDiagram.f k n gs root s) (s + 3 * gs.length, nodeSeq s gs.length) := by
 unfold laws_markDiagram.f laws_markNodeS.f
 exact Ev.bind (markNodeS2_l0 gs [] s 0 rfl (by simpa using hg) h0 hs) (Ev.now _)
theorem heldDiagram_ev (n root : Int) (g : Nat) (hg : g ≤ 1048576) : Ev (fun k => laws_heldDiagram.f k n (nodeSeq 1 g) root 1) (1 + 3 * g) := by
 unfold laws_heldDiagram.f laws_heldNodeS.f
 exact Ev.bind (heldNodeS_l0 g [] 1 0 rfl (by simpa using hg) (by omega) (by omega)) (ev_n (by omega) (Ev.now _))
/-! #### szDiagram -/
theorem szDiagram_eq (n : Int) (gs : List S123) (root a : Int) (ha : 0 ≤ a) (ha2 : a ≤ 1048576) (hl : gs.length ≤ 9223372036854775807) : laws_szDiagram.f n gs root a = some (if gs.length ≤ a then a - gs.length else -1) := by
 unfold laws_szDiagram.f laws_szNodeS.f
 rw [w64 (by omega) (by omega)]
 by_cases h : (gs.length : Int) ≤ a
 ·rw [if_neg (by omega), Option.bind_some, if_neg (by omega), if_pos h]
 ·rw [if_pos (by omega), Option.bind_some, if_pos (by decide), if_neg h]
/-! #### nodeL -/
theorem rdLNodeA {p r : List S123} {x : S123} {i : Int} (hi : i = p.length) : rd_T123 (p ++ x :: r) i = x := getDA hi
/-- A node of the laws as one of the program. -/
def cvNode (x : S123) : S93 := ⟨x.f0, x.f1, x.f2⟩
/-! #### toNodeS -/
theorem toNodeS_l0 (r : List S123) : ∀ (p : List S123) (z : List S93) (i : Int), i = p.length → z.length = r.length → p.length + r.length ≤ 9223372036854775806 →
  Ev (fun k => laws_toNodeS.l0 k (p ++ r) (p.map cvNode ++ z) i) ((p ++ r).map cvNode) := by
 induction r with
 | nil =>
  intro p z i hi hz hb
  obtain rfl : z = [] := List.length_eq_zero_iff.1 hz
  apply ev_up
  simp only [laws_toNodeS.l0]
  refine ev_n (by simp; omega) ?_
  simpa using Ev.now (p.map cvNode)
 | cons x r ih =>
  intro p z i hi hz hb
  match z, hz with
  | y :: z, hz =>
   simp only [List.length_cons] at hz hb
   apply ev_up
   simp only [laws_toNodeS.l0]
   refine ev_p (by simp; omega) (ev_p (by omega) ?_)
   rw [rdLNodeA hi]
   refine Ev.bind (ev_c (show laws_toNode.f x.f0 x.f1 x.f2 = some (x.f0, x.f1, x.f2) from rfl)) (ev_p (by simp; omega) ?_)
   rw [setA (by simpa using hi), w64 (by omega) (by omega), appA]
   have := ih (p ++ [x]) z (i + 1) (by simp; omega) (by omega) (by simp; omega)
   simpa [cvNode] using this
theorem toNodeS_ev (a : List S123) (h : a.length ≤ 1048576) : Ev (fun k => laws_toNodeS.f k a) (a.map cvNode) := by
 unfold laws_toNodeS.f
 refine ev_p (by omega) (ev_p (by omega) ?_)
 exact toNodeS_l0 a [] (List.replicate ((a.length : Int)).toNat z93) 0 rfl (by simp) (by simp; omega)
/-! #### toDiagram -/
theorem toDiagram_ev (n root : Int) (gs : List S123) (hg : gs.length ≤ 1048576) : Ev (fun k => laws_toDiagram.f k n gs root) (n, gs.map cvNode, root) := by
 unfold laws_toDiagram.f
 exact Ev.bind (toNodeS_ev gs hg) (Ev.now _)
/-! #### eqNodeS -/
theorem eqNodeS_l0 (r : List S93) : ∀ (p : List S93) (i : Int), i = p.length → p.length + r.length ≤ 9223372036854775807 →
  Ev (fun k => laws_eqNodeS.l0 k (p ++ r) (p ++ r) i) true := by
 induction r with
 | nil =>
  intro p i hi hb
  apply ev_up
  simp only [laws_eqNodeS.l0]
  exact ev_n (by simp; omega) (Ev.now true)
 | cons x r ih =>
  intro p i hi hb
  simp only [List.length_cons] at hb
  apply ev_up
  simp only [laws_eqNodeS.l0]
  refine ev_p (by simp; omega) (ev_p (by omega) (ev_p (by simp; omega) ?_))
  rw [rdNodeA hi]
  refine Ev.bind (ev_c (show laws_eqNode.f x.f0 x.f1 x.f2 x.f0 x.f1 x.f2 = some true by unfold laws_eqNode.f; rw [if_pos rfl, if_pos rfl, if_pos rfl])) (ev_p rfl ?_)
  rw [w64 (by omega) (by omega), appA]
  exact ih (p ++ [x]) (i + 1) (by simp; omega) (by simp; omega)
theorem eqNodeS_self (a : List S93) (h : a.length ≤ 9223372036854775807) : Ev (fun k => laws_eqNodeS.f k a a) true := by
 unfold laws_eqNodeS.f
 exact ev_p rfl (eqNodeS_l0 a [] 0 rfl (by simpa using h))
/-! #### eqDiagram -/
theorem eqDiagram_self (n root : Int) (gs : List S93) (hg : gs.length ≤ 9223372036854775807) : Ev (fun k => laws_eqDiagram.f k n gs root n gs root) true := by
 unfold laws_eqDiagram.f
 exact ev_p rfl (Ev.bind (eqNodeS_self gs hg) (ev_p rfl (ev_p rfl (Ev.now _))))
/-! #### FnExactCombineDiagrams -/
theorem FnExactCombineDiagrams (a0 : Int) (a1_0 : Int) (l1_1 : (List (S123))) (a1_2 : Int) (a2_0 : Int) (l2_1 : (List (S123))) (a2_2 : Int) : I64 a0 → I64 a1_0 → (l1_1.length ≤ 9223372036854775807 ∧ ∀ y2 ∈ l1_1, I64 y2.f0 ∧ I64 y2.f1 ∧ I64 y2.f2) → I64 a1_2 → I64 a2_0 → (l2_1.length ≤ 9223372036854775807 ∧ ∀ y2 ∈ l2_1, I64 y2.f0 ∧ I64 y2.f1 ∧ I64 y2.f2) → I64 a2_2 → ∃ k, laws_FnExactCombineDiagrams.f k a0 a1_0 l1_1 a1_2 a2_0 l2_1 a2_2 = some true := by
 rintro hk h1 ⟨hl, _⟩ h2 h3 ⟨hm, _⟩ h4
 apply ev_get
 unfold laws_FnExactCombineDiagrams.f
 rw [szDiagram_eq a1_0 l1_1 a1_2 1048576 (by omega) (by omega) hl]
 refine Ev.bind (ev_c rfl) (ev_ite (fun _ => Ev.now _) (fun h => ?_))
 have hl2 : l1_1.length ≤ 1048576 := by
  by_cases e : (l1_1.length : Int) ≤ 1048576
  ·omega
  ·rw [if_neg e] at h; exact absurd (by decide) h
 rw [if_pos (by omega), szDiagram_eq a2_0 l2_1 a2_2 _ (by omega) (by omega) hm]
 refine Ev.bind (ev_c rfl) (ev_ite (fun _ => Ev.now _) (fun h => ?_))
 have hm2 : (l2_1.length : Int) ≤ 1048576 - l1_1.length := by
  by_cases e : (l2_1.length : Int) ≤ 1048576 - l1_1.length
  ·exact e
  ·rw [if_neg e] at h; exact absurd (by decide) h
 have ht1 := toDiagram_ev a1_0 a1_2 l1_1 hl2
 have ht2 := toDiagram_ev a2_0 a2_2 l2_1 (by omega)
 have hg1 : (l1_1.map cvNode).length = l1_1.length := by simp
 have hg2 : (l2_1.map cvNode).length = l2_1.length := by simp
 have heq1 := eqDiagram_self a1_0 a1_2 (l1_1.map cvNode) (by omega)
 have heq2 := eqDiagram_self a2_0 a2_2 (l2_1.map cvNode) (by omega)
 obtain ⟨hs, hi⟩ := combine_ev a0 a1_0 (l1_1.map cvNode) a1_2 a2_0 (l2_1.map cvNode) a2_2 (by omega) (by omega)
 have hlen := cmbD_length a0 a1_0 (l1_1.map cvNode) a1_2 a2_0 (l2_1.map cvNode) a2_2
 have hmk1 := markDiagram_ev a1_0 a1_2 1 (l1_1.map cvNode) (by omega) (by omega) (by omega)
 have hmk2 := markDiagram_ev a2_0 a2_2 (1 + 3 * (l1_1.map cvNode).length) (l2_1.map cvNode) (by omega) (by omega) (by omega)
 generalize cmbD a0 a1_0 (l1_1.map cvNode) a1_2 a2_0 (l2_1.map cvNode) a2_2 = R at hs hi hlen
 have heqR := eqDiagram_self R.1 R.2.2.1 R.2.1 (by omega)
 have hmark := markDiagram_ev R.1 R.2.2.1 1 R.2.1 (by omega) (by omega) (by omega)
 have hheld := heldDiagram_ev R.1 R.2.2.1 R.2.1.length (by omega)
 repeat (first
  | (with_reducible exact Ev.now _)
  | (with_reducible refine Ev.bind ht1 ?_)
  | (with_reducible refine Ev.bind ht2 ?_)
  | (with_reducible refine Ev.bind hs ?_)
  | (with_reducible refine Ev.bind hi ?_)
  | (with_reducible refine Ev.bind heq1 ?_)
  | (with_reducible refine Ev.bind heq2 ?_)
  | (with_reducible refine Ev.bind heqR ?_)
  | (with_reducible refine Ev.bind hmk1 ?_)
  | (with_reducible refine Ev.bind hmk2 ?_)
  | (with_reducible refine Ev.bind hmark ?_)
  | (with_reducible refine Ev.bind hheld ?_)
  | (with_reducible refine ev_p rfl ?_)
  | (with_reducible refine ev_p True.intro ?_)
  | (refine ev_n ?h ?_; case h => (first | omega | (simp; done) | (simp; omega))))
end Go.Proofs.Ytlnhpkjioppbiaa.Pure
