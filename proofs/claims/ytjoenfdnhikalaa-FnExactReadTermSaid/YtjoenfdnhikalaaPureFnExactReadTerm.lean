/- The pure part of the law FnExactReadTerm: what the program and the reference compute is the same, for all arguments. Conditions: the numbers are of Go's int, the lengths of slices are. -/
import Derived.Test.YtjoenfdnhikalaaQFnExactReadTermx1
import Derived.Test.YtjoenfdnhikalaaKit
namespace Go.Proofs.Ytjoenfdnhikalaa.Pure
open Go.RowKit Go.Proofs.Ytjoenfdnhikalaa.QFnExactReadTerm Go.Proofs.YtjoenfdnhikalaaW.PrintWords Go.Proofs.YtjoenfdnhikalaaW.PrintLast Go.Proofs.Ytjoenfdnhikalaa.Open Go.Proofs.Ytjoenfdnhikalaa.Kit

/-! #### l1In -/
theorem l1In_eq (a b c : Int) : spec_l1In.f a b c = some (decide (b ≤ a ∧ a ≤ c)) := by
  unfold spec_l1In.f
  by_cases h : b ≤ a
  · rw [if_pos h]; simp [h]
  · rw [if_neg h]; simp [h]

/-! #### ttInputs -/
theorem ttInputs_eq (a : Int) : spec_ttInputs.f a = some (decide (0 ≤ a ∧ a ≤ 4)) := by
  unfold spec_ttInputs.f
  rw [l1In_eq, Option.bind_some]

/-! #### readTerm -/
theorem or_two_pow (m i : Nat) (h : m < 2 ^ i) : m ||| 2 ^ i = m + 2 ^ i := by
  have := Nat.two_pow_add_eq_or_of_lt h 1
  rw [Nat.mul_one] at this
  rw [Nat.or_comm, ← this, Nat.add_comm]
def readM (f : Int → Int) (i m v : Nat) : Nat → Int × Int × Bool
  | 0 => (m, v, true)
  | d + 1 => if f i = 49 then readM f (i + 1) (m + 2 ^ i) (v + 2 ^ i) d else if f i = 48 then readM f (i + 1) (m + 2 ^ i) v d else if f i = 45 then readM f (i + 1) m v d else (0, 0, false)
theorem spec_ReadTerm_l0 (s : ByteArray) (hs : s.size ≤ 4) (d : Nat) : ∀ (i m v : Nat), i + d = s.size → m < 2 ^ i → v < 2 ^ i →
    Ev (fun k => spec_ReadTerm.l0 k s i m v) (readM (bt s) i m v d) := by
  induction d with
  | zero =>
    intro i m v hi hm hv
    apply ev_up
    simp only [spec_ReadTerm.l0]
    exact ev_n (by omega) (Ev.now _)
  | succ d ih =>
    intro i m v hi hm hv
    have h8 : 2 ^ i ≤ 2 ^ 4 := Nat.pow_le_pow_right (by decide) (by omega)
    have h9 : 2 ^ (i + 1) = 2 * 2 ^ i := by rw [Nat.pow_succ]; omega
    apply ev_up
    simp only [spec_ReadTerm.l0]
    rw [u64w (by omega) (by omega), shl1 i (by omega), wN (n := (m : Int) + ((2 ^ i : Nat) : Int)) (m := m + 2 ^ i) (by omega) (by omega), wN (n := (v : Int) + ((2 ^ i : Nat) : Int)) (m := v + 2 ^ i) (by omega) (by omega), wN (n := (i : Int) + 1) (m := i + 1) (by omega) (by omega)]
    refine ev_p (by omega) (ev_p (by omega) (ev_p (by omega) ?_))
    simp only [readM]
    refine ev_ite (fun h => ?_) (fun h => ?_)
    · rw [if_pos h]
      exact ih (i + 1) _ _ (by omega) (by omega) (by omega)
    · rw [if_neg h]
      refine ev_ite (fun h => ?_) (fun h => ?_)
      · rw [if_pos h]
        exact ih (i + 1) _ _ (by omega) (by omega) (by omega)
      · rw [if_neg h]
        refine ev_ite (fun h => ?_) (fun h => ?_)
        · rw [if_pos h]
          exact ih (i + 1) _ _ (by omega) (by omega) (by omega)
        · rw [if_neg h]
          exact Ev.now _
theorem impl_ReadTerm_l0 (s : ByteArray) (hs : s.size ≤ 4) (d : Nat) : ∀ (i m v : Nat), i + d = s.size → m < 2 ^ i → v < 2 ^ i →
    Ev (fun k => impl_ReadTerm.l0 k s i m v) (readM (bt s) i m v d) := by
  induction d with
  | zero =>
    intro i m v hi hm hv
    apply ev_up
    simp only [impl_ReadTerm.l0]
    exact ev_n (by omega) (Ev.now _)
  | succ d ih =>
    intro i m v hi hm hv
    have h8 : 2 ^ i ≤ 2 ^ 4 := Nat.pow_le_pow_right (by decide) (by omega)
    have h9 : 2 ^ (i + 1) = 2 * 2 ^ i := by rw [Nat.pow_succ]; omega
    apply ev_up
    simp only [impl_ReadTerm.l0]
    rw [shl1 i (by omega), orN m (2 ^ i) (by omega) (by omega), orN v (2 ^ i) (by omega) (by omega), or_two_pow m i hm, or_two_pow v i hv, wN (n := (i : Int) + 1) (m := i + 1) (by omega) (by omega)]
    refine ev_p (by omega) (ev_p (by omega) ?_)
    simp only [readM]
    refine ev_ite (fun h => ?_) (fun h => ?_)
    · rw [if_pos h]
      exact ih (i + 1) _ _ (by omega) (by omega) (by omega)
    · rw [if_neg h]
      refine ev_ite (fun h => ?_) (fun h => ?_)
      · rw [if_pos h]
        exact ih (i + 1) _ _ (by omega) (by omega) (by omega)
      · rw [if_neg h]
        refine ev_ite (fun h => ?_) (fun h => ?_)
        · rw [if_pos h]
          exact ih (i + 1) _ _ (by omega) (by omega) (by omega)
        · rw [if_neg h]
          exact Ev.now _
def readTermM (s : ByteArray) : Int × Int × Bool := if s.size ≤ 4 then readM (bt s) 0 0 0 s.size else (0, 0, false)
theorem spec_ReadTerm_ev (s : ByteArray) : Ev (fun k => spec_ReadTerm.f k s) (readTermM s) := by
  unfold spec_ReadTerm.f readTermM
  rw [ttInputs_eq]
  refine Ev.bind (ev_c rfl) ?_
  refine ev_ite (fun h => ?_) (fun h => ?_)
  · have h' := of_decide_eq_true h
    rw [if_pos (by omega)]
    exact spec_ReadTerm_l0 s (by omega) s.size 0 0 0 (by omega) (by omega) (by omega)
  · rw [if_neg (fun h2 => h (decide_eq_true (by omega)))]
    exact Ev.now _
theorem impl_ReadTerm_ev (s : ByteArray) : Ev (fun k => impl_ReadTerm.f k s) (readTermM s) := by
  unfold impl_ReadTerm.f readTermM
  refine ev_ite (fun h => ?_) (fun h => ?_)
  · rw [if_neg (by omega)]
    exact Ev.now _
  · rw [if_pos (by omega)]
    exact impl_ReadTerm_l0 s (by omega) s.size 0 0 0 (by omega) (by omega) (by omega)

/-! #### eqTerm -/
theorem eqTerm_same (a b : Int) : laws_eqTerm.f a b a b = some true := by
  unfold laws_eqTerm.f
  rw [if_pos rfl, if_pos rfl]

/-! #### FnExactReadTerm -/
theorem FnExactReadTerm : laws_FnExactReadTerm.Pure := by
  intro s hs
  apply ev_get
  unfold laws_FnExactReadTerm.f
  refine ev_ite (fun _ => Ev.now _) (fun h => ?_)
  refine Ev.bind (spec_ReadTerm_ev s) (Ev.bind (impl_ReadTerm_ev s) (Ev.bind (ev_c (eqTerm_same _ _)) (ev_p rfl (ev_n (by simp) (Ev.now _)))))

end Go.Proofs.Ytjoenfdnhikalaa.Pure
