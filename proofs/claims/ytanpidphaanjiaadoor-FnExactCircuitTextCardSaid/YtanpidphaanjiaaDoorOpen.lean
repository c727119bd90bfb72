/- Arguments opened by their kinds: what a value of a type reads as, told as a plain Lean value. Conditions: none beyond the type's own shape. -/
import Derived.Test.YtanpidphaanjiaaDoorWSized
import Derived.Test.YtanpidphaanjiaaDoorWMore
import Derived.ChangeArms
import Derived.DataReads
import Derived.Carry
import Derived.Lib.SmallJoins
namespace Go.Proofs.YtanpidphaanjiaaDoor.Open
open Go.ChangeShapes Go.WideShapes Go.RowKit Go.Proofs.YtanpidphaanjiaaDoorW.PrintWords

/-- A type whose readings are all of a kind, each with the fact Q. -/
structure Opens {α : Type} (P : Program) (d : Kd α) (t : TypeId) (Q : α → Prop) : Prop where
  get : ∀ {H : Type} {enc : TypeId × Value → H} {w : World} {fuel : Nat} {cs : List Value} {x : DataW H × List MemPlace}, DataW.trod enc P w 0 (fun _ => true) true fuel t cs = some x → ∃ a, d.K w a cs ∧ Q a
  size : P.cellsOf t = d.sz

theorem opens_int {P : Program} {t : TypeId} (k : IntKind) (ht : P.underlying t = some (.int k)) (hc : P.cellsOf t = 1) : Opens P (Kd.int k) t (fun n => (Lit.int k n).wf = true) where
  get := fun h => by
    obtain ⟨n, rfl, _, hw⟩ := DataW.trod_int ht h
    exact ⟨n, rfl, hw⟩
  size := hc

/-- A number of Go's int. -/
def I64 (n : Int) : Prop := -9223372036854775808 ≤ n ∧ n ≤ 9223372036854775807
theorem i64_of {n : Int} (h : (Lit.int .i64 n).wf = true) : I64 n := by
  simp [Lit.wf, IntKind.min, IntKind.max, IntKind.signed, IntKind.bits] at h
  unfold I64
  omega
theorem opens_i64 {P : Program} {t : TypeId} (ht : P.underlying t = some (.int .i64)) (hc : P.cellsOf t = 1) : Opens P (Kd.int .i64) t I64 where
  get := fun h => by
    obtain ⟨n, rfl, _, hw⟩ := DataW.trod_int ht h
    exact ⟨n, rfl, i64_of hw⟩
  size := hc

theorem opens_slice {P : Program} {t e : TypeId} {α : Type} {d : Kd α} {Q : α → Prop} (ht : P.underlying t = some (.slice e)) (hc : P.cellsOf t = 1) (ho : Opens P d e Q) :
    Opens P (Kd.slice e d) t (fun xs => xs.length ≤ 9223372036854775807 ∧ ∀ x ∈ xs, Q x) where
  get := by
    intro H enc w fuel cs x h
    rcases DataW.trod_slice ht h with ⟨rfl, _⟩ | ⟨a, len, cap, elems, rest, n, _, rfl, _, _, hl, hm, hlen, hel, _⟩
    · exact ⟨[], ⟨none, 0, rfl, Nat.le_refl _, rfl, by simp, fun hn => absurd hn (by simp)⟩, by simp, fun x hx => absurd hx (by simp)⟩
    · have key : ∀ i : Fin len, ∃ a', (∃ c, c.length = d.sz ∧ d.K w a' c ∧ (∀ j u, c[j]? = some u → w.cell? (a.add (i.1 * d.sz + j)) = some u)) ∧ Q a' := by
        intro i
        have h1 := hel i.1 i.2
        rw [List.getElem?_eq_getElem (by omega)] at h1
        obtain ⟨c, hcs, hd⟩ := Option.bind_eq_some_iff.1 h1
        obtain ⟨a', hk, hq⟩ := ho.get hd
        refine ⟨a', ⟨c, d.K_len hk, hk, ?_⟩, hq⟩
        obtain ⟨_, hlen', hcell⟩ := World.cells?_some hcs
        intro j u hu
        have hj : j < P.cellsOf e := by
          have := (List.getElem?_eq_some_iff.1 hu).1
          omega
        have h2 := hcell j hj
        rw [hu, ho.size] at h2
        rw [← h2]
        congr 1
        unfold Addr.add
        rcases Nat.eq_zero_or_pos (i.1 * d.sz) with hz | hz <;> rcases Nat.eq_zero_or_pos j with hz' | hz'
        · simp [hz, hz']
        · simp [hz]
        · simp [hz']
        · rw [if_neg (by omega), if_neg (by omega), if_neg (by omega)]
          simp [Nat.add_assoc]
      obtain ⟨f, hf⟩ := Classical.axiomOfChoice key
      have hm' : len ≤ 9223372036854775807 := by unfold maxLen at hm; omega
      have hxl : (List.ofFn f).length = len := by simp
      refine ⟨List.ofFn f, ⟨some a, cap, ?_, by omega, by simp, by omega, fun _ => ⟨a, rfl, ?_⟩⟩, by omega, ?_⟩
      · rw [hxl]
      · intro j p hj
        rw [List.getElem?_ofFn] at hj
        split at hj
        · rename_i hjl
          injection hj with hj
          subst hj
          exact (hf ⟨j, hjl⟩).1
        · simp at hj
      · intro x hx
        obtain ⟨i, hi⟩ := (List.mem_ofFn).1 hx
        rw [← hi]
        exact (hf i).2
  size := hc

theorem opens_two {P : Program} {t : TypeId} {f0 f1 : Field} {α β : Type} {d0 : Kd α} {d1 : Kd β} {Q0 : α → Prop} {Q1 : β → Prop} (ht : P.underlying t = some (.struct #[f0, f1])) (hc : P.cellsOf t = d0.sz + d1.sz)
    (h0 : Opens P d0 f0.type Q0) (h1 : Opens P d1 f1.type Q1) (o0 : f0.offset = 0) (o1 : f1.offset = d0.sz) : Opens P (Kd.pair d0 d1) t (fun x => Q0 x.1 ∧ Q1 x.2) where
  get := by
    intro H enc w fuel cs x h
    obtain ⟨xs, n, _, _, hl, hlen, hf⟩ := DataW.trod_struct ht h
    have hx2 : xs.length = 2 := by simpa using hlen
    have g0 := hf 0 f0 rfl
    have g1 := hf 1 f1 rfl
    rw [List.getElem?_eq_getElem (by omega)] at g0 g1
    obtain ⟨a, ka, qa⟩ := h0.get g0
    obtain ⟨b, kb, qb⟩ := h1.get g1
    refine ⟨(a, b), ⟨_, _, ?_, ka, kb⟩, qa, qb⟩
    rw [o0, o1, h0.size, h1.size, List.drop_zero]
    rw [show (cs.drop d0.sz).take d1.sz = cs.drop d0.sz from List.take_of_length_le (by simp; omega)]
    exact (List.take_append_drop _ _).symm
  size := hc

theorem opens_three {P : Program} {t : TypeId} {f0 f1 f2 : Field} {α β γ : Type} {d0 : Kd α} {d1 : Kd β} {d2 : Kd γ} {Q0 : α → Prop} {Q1 : β → Prop} {Q2 : γ → Prop} (ht : P.underlying t = some (.struct #[f0, f1, f2])) (hc : P.cellsOf t = d0.sz + (d1.sz + d2.sz))
    (h0 : Opens P d0 f0.type Q0) (h1 : Opens P d1 f1.type Q1) (h2 : Opens P d2 f2.type Q2) (o0 : f0.offset = 0) (o1 : f1.offset = d0.sz) (o2 : f2.offset = d0.sz + d1.sz) : Opens P (Kd.pair d0 (Kd.pair d1 d2)) t (fun x => Q0 x.1 ∧ Q1 x.2.1 ∧ Q2 x.2.2) where
  get := by
    intro H enc w fuel cs x h
    obtain ⟨xs, n, _, _, hl, hlen, hf⟩ := DataW.trod_struct ht h
    have hx2 : xs.length = 3 := by simpa using hlen
    have g0 := hf 0 f0 rfl
    have g1 := hf 1 f1 rfl
    have g2 := hf 2 f2 rfl
    rw [List.getElem?_eq_getElem (by omega)] at g0 g1 g2
    obtain ⟨a, ka, qa⟩ := h0.get g0
    obtain ⟨b, kb, qb⟩ := h1.get g1
    obtain ⟨c, kc, qc⟩ := h2.get g2
    refine ⟨(a, b, c), ⟨_, _, ?_, ka, _, _, rfl, kb, kc⟩, qa, qb, qc⟩
    rw [o0, o1, o2, h0.size, h1.size, h2.size, List.drop_zero]
    have e2 : (cs.drop (d0.sz + d1.sz)).take d2.sz = cs.drop (d0.sz + d1.sz) := List.take_of_length_le (by simp; omega)
    have e1 : (cs.drop d0.sz).take d1.sz ++ cs.drop (d0.sz + d1.sz) = cs.drop d0.sz := by
      rw [← List.drop_drop]
      exact List.take_append_drop _ _
    rw [e2, e1]
    exact (List.take_append_drop _ _).symm
  size := hc

theorem opens_iso {P : Program} {t : TypeId} {α β : Type} {d : Kd α} {Q : α → Prop} (h : Opens P d t Q) (f : β → α) (g : α → β) (hfg : ∀ a, f (g a) = a) : Opens P (Kd.iso d f) t (fun b => Q (f b)) where
  get := fun ht => by
    obtain ⟨a, ha, hq⟩ := h.get ht
    exact ⟨g a, show d.K _ (f (g a)) _ by rw [hfg]; exact ha, by rw [hfg]; exact hq⟩
  size := h.size

/-- A slice as an argument. -/
theorem arg_slice {P : Program} {t e : TypeId} {α : Type} {d : Kd α} {Q : List α → Prop} {H : Type} {enc : TypeId × Value → H} {w : World} {r : Reach} {b0 : Nat} {v : Value} {x : DataW H} {p : List MemPlace} (ht : P.underlying t = some (.slice e)) (ho : Opens P (Kd.slice e d) t Q)
    (hv : Value.okWide P w r b0 t v) (h : DataW.Trod enc P w 0 (fun _ => true) true t v x p) : ∃ A c xs, v = .slice A xs.length c ∧ xs.length ≤ c ∧ d.C w A xs.length xs ∧ Q xs := by
  obtain ⟨a, len, cap, rfl⟩ := okWide_slice ht hv
  obtain ⟨fuel, hf⟩ := h
  obtain ⟨xs, ⟨A, c, he, hl, hC⟩, hq⟩ := ho.get hf
  rw [show (Value.slice a len cap).cells.toList = [Value.slice a len cap] from rfl] at he
  injection he with he _
  exact ⟨A, c, xs, he, hl, hC, hq⟩

/-- A struct as an argument: its cells, of the kind. -/
theorem arg_struct {P : Program} {t : TypeId} {fs : Array Field} {α : Type} {d : Kd α} {Q : α → Prop} {H : Type} {enc : TypeId × Value → H} {w : World} {r : Reach} {b0 : Nat} {v : Value} {x : DataW H} {p : List MemPlace} (ht : P.underlying t = some (.struct fs)) (ho : Opens P d t Q)
    (hv : Value.okWide P w r b0 t v) (h : DataW.Trod enc P w 0 (fun _ => true) true t v x p) : ∃ (cs : Array Value) (a : α), v = .agg cs ∧ d.K w a cs.toList ∧ Q a := by
  obtain ⟨cs, rfl, hsz⟩ := okWide_struct ht hv
  obtain ⟨fuel, hf⟩ := h
  obtain ⟨a, hk, hq⟩ := ho.get hf
  exact ⟨cs, a, rfl, by simpa [Value.cells] using hk, hq⟩
end Go.Proofs.YtanpidphaanjiaaDoor.Open
