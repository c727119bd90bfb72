/- The function markIntSS of the laws' package, walked by hand: as a Lean function, and the proof that the Go code comes to its answers: it writes the rows of a slice of slices that came in, and keeps all else. Conditions: those of the theorem. -/
import Derived.Test.YtanpidphaanjiaaQFnExactMiddleOrderx0
import Derived.Test.YtanpidphaanjiaaQFnExactMiddleOrderx1
import Derived.Test.YtanpidphaanjiaaQFnExactMiddleOrderx2
import Derived.Test.YtanpidphaanjiaaQFnExactMiddleOrderx3
import Derived.Test.YtanpidphaanjiaaQFnExactMiddleOrderx4
import Derived.Test.YtanpidphaanjiaaQFnExactMiddleOrderx5
import Derived.Test.YtanpidphaanjiaaQFnExactMiddleOrderx6
set_option linter.unusedVariables false
set_option linter.unusedSimpArgs false
namespace Go.Proofs.Ytanpidphaanjiaa.QFnExactMiddleOrder
open Go.RowKit Go.Proofs.YtanpidphaanjiaaW.PrintWords Go.Proofs.YtanpidphaanjiaaW.PrintLast Go.Proofs.YtanpidphaanjiaaW.PrintMore
def laws_markIntSS.l0 : Nat → List (List Int) → Int → Int → Option (Int × List (List Int))
  | 0, _, _, _ => none
  | k + 1, x0, x1, x5 => if x5 < (x0.length : Int) then (if 0 ≤ x5 then ((laws_markIntS.f k (rd_L1 x0 x5) x1).bind fun bt179 => (laws_markIntSS.l0 k (x0.set (x5 : Int).toNat bt179.2) bt179.1 (wrap64 (x5 + 1)))) else (none)) else (some (x1, x0))
def laws_markIntSS.f (k : Nat) (l0 : List (List Int)) (a1 : Int) : Option (Int × List (List Int)) := laws_markIntSS.l0 k l0 a1 0
theorem laws_markIntSS.mono_l : ∀ k, (∀ y0 y1 y2, LeO (laws_markIntSS.l0 k y0 y1 y2) (laws_markIntSS.l0 (k + 1) y0 y1 y2))
  | 0 => fun _ _ _ r h => by simp [laws_markIntSS.l0] at h
  | k + 1 => by
    have ih0 := laws_markIntSS.mono_l k
    · intro y0 y1 y2
      unfold laws_markIntSS.l0
      repeat' first
      | (with_reducible exact ih0 _ _ _)
      | (with_reducible exact laws_markIntS.mono _ _ _)
      | (with_reducible exact LeO.refl _)
      | (with_reducible exact LeO.none _)
      | (with_reducible refine LeO.ite ?_ ?_)
      | (with_reducible refine LeO.bind ?_ (fun _ => ?_))
      | exact ih0 _ _ _
      | exact laws_markIntS.mono _ _ _
      | exact LeO.none _
      | refine LeO.ite ?_ ?_
      | refine LeO.bind ?_ (fun _ => ?_)
theorem laws_markIntSS.mono : ∀ a0 a1 k, LeO (laws_markIntSS.f k a0 a1) (laws_markIntSS.f (k + 1) a0 a1) := fun a0 a1 k => laws_markIntSS.mono_l k a0 a1 0
/-- One row of a slice of slices is lent to a call that writes it, and comes back. -/
theorem S_lent {w : World} {base : Nat} {ok : Nat → Prop} {xs : List (List Int)} {A : Option Addr} {n c : Nat} (h : Kd.S (Kd.slice 3 (Kd.int .i64)) 24 w base ok (.slice A n c) xs) (i : Int) (h0 : 0 ≤ i) (h1 : i < (xs.length : Int)) :
    ∃ (ad : Addr) (u : Value) (oki : Nat → Prop), A = some ad ∧ w.cell? (ad.add i.toNat) = some u ∧ (∀ k, oki k → ok k) ∧ Kd.R (Kd.int .i64) 3 w base oki u (rd_L1 xs i) ∧
      ∀ (w1 : World) (ys : List Int), Kept w w1 oki → Kd.R (Kd.int .i64) 3 w1 base (fun k => oki k ∨ w.heap.size ≤ k) u ys → Kd.S (Kd.slice 3 (Kd.int .i64)) 24 w1 base ok (.slice A n c) (xs.set i.toNat ys) := by
  have hn := (Kd.S_reads' h).1
  obtain ⟨g, cap, hv, _⟩ := Kd.S_form h (by omega)
  injection hv with ha _ hc
  subst ha
  obtain ⟨oki, cs, hcl, hM, hcc, hoki, hH⟩ := Kd.S_lend h ([] : List Int) i h0 (by omega)
  obtain ⟨u, rfl, hR⟩ := hM
  have hcell := hcc 0 u rfl
  refine ⟨⟨g, 0, none⟩, u, oki, rfl, ?_, fun k hk => (hoki k hk).1, hR, fun w1 ys hk hR1 => ?_⟩
  · rw [add_plain, show i.toNat = i.toNat * (Kd.slice 3 (Kd.int .i64)).sz + 0 from (Nat.mul_one _).symm]
    exact hcell
  · have hH1 := Kd.H_kept hH hk (fun _ _ hn hs => hn hs)
    exact Kd.H_back hH1 (okp := oki) ⟨u, rfl, Kd.R_reok rfl hR1 (fun k he => hR.1 k he)⟩ (fun _ hk => hk)
set_option maxHeartbeats 8000000 in
set_option maxRecDepth 100000 in
theorem laws_markIntSS.calls (k : Nat) (P0_ : Nat → Prop) (u9000_ : Value) (l0 : List (List Int)) (a1 : Int) (r1 : Int) (r2 : List (List Int)) (w0 w : World) (hB : Below w0.heap.size w0 w) (ho0 : Kd.S (Kd.slice 3 (Kd.int .i64)) 24 w w0.heap.size P0_ u9000_ l0) (h : laws_markIntSS.f k l0 a1 = some (r1, r2)) :
    Calls Try.prog 10 #[u9000_, .int .i64 a1] w fun e w' => e = .returned (.int .i64 r1) ∧ Kd.S (Kd.slice 3 (Kd.int .i64)) 24 w' w0.heap.size P0_ u9000_ r2 ∧ Below w0.heap.size w0 w' ∧ Kept w w' P0_ := by
  obtain ⟨A0, c0, rfl⟩ := Kd.S_slice ho0
  have hlr : l0.length = l0.length := rfl
  have HO := Aside0.mk ho0
  have HB := Aside0.mk hB
  clear ho0 hB
  have H : (laws_markIntSS.l0 k l0 a1 0) = some (r1, r2) := h
  clear h
  have H' := Aside0.mk H
  clear H
  obtain ⟨n0, hn0⟩ : ∃ n, n = l0.length := ⟨_, rfl⟩
  rw [← hn0] at HO ⊢
  have HN0 := Aside0.mk hn0
  clear hn0 hlr
  go_enter Try.func10, Try.ntmps10
  go_wp2
  go_loopg [1, 5] k (fun kq v1 v5 w' => ∃ (x0_1 : List (List Int)) (x1_1 : Int) (x5_1 : Int), v1 = .int .i64 x1_1 ∧ v5 = .int .i64 x5_1 ∧ Aside0 (laws_markIntSS.l0 kq x0_1 x1_1 x5_1 = some (r1, r2)) ∧ Aside0 (kq ≤ k) ∧ Aside0 (x0_1.length = n0) ∧ Aside0 (Kd.S (Kd.slice 3 (Kd.int .i64)) 24 w' w0.heap.size P0_ (.slice A0 n0 c0) x0_1) ∧ Aside0 (Below w0.heap.size w0 w') ∧ Aside0 (Kept w w' P0_))
  case atStart => exact ⟨(l0), (a1), (0), (by first | rfl | (simp; done) | (simp [*]; done)), (by first | rfl | (simp; done) | (simp [*]; done)), H', ⟨Nat.le_refl _⟩, ⟨HN0.out.symm⟩, HO, HB, ⟨Kept.refl _ _⟩⟩
  case round =>
    clear H'
    obtain ⟨x0_1, x1_1, x5_1, rfl, rfl, HA, HK1, HN, HO, HB, HK⟩ := hrel
    cases gk with
    | zero => exact absurd HA.out (by simp [laws_markIntSS.l0])
    | succ k1 =>
      have H := HA.out
      clear HA
      simp only [laws_markIntSS.l0] at H
      by_cases c3 : x5_1 < (x0_1.length : Int)
      · rw [if_pos c3] at H
        have c3' : x5_1 < (n0 : Int) := by rw [← HN.out]; exact c3
        have c3b0 : decide (x5_1 < (n0 : Int)) = true := decide_eq_true c3'
        by_cases c4 : 0 ≤ x5_1
        · rw [if_pos c4] at H
          have c4b0 : decide (0 ≤ x5_1) = true := decide_eq_true c4
          replace H := Option.bind_eq_some_iff.mp H
          obtain ⟨⟨t1, t2⟩, A50, H⟩ := H
          replace H : laws_markIntSS.l0 k1 (x0_1.set (x5_1 : Int).toNat t2) t1 (wrap64 (x5_1 + 1)) = some (r1, r2) := H
          have A5 := Aside0.mk A50
          clear A50
          have H' := Aside0.mk H
          clear H
          obtain ⟨ad178, u178, oki, e178, hx178_0, hoki, hR178, hback⟩ := S_lent HO.out x5_1 c4 c3
          cases e178
          have HL := Aside0.mk hR178
          have HBK := Aside0.mk hback
          have HOK := Aside0.mk hoki
          clear hR178 hback hoki
          clear c3
          have p178 : (0 ≤ x5_1) = True := eq_true c4
          have q178 : (x5_1 < (n0 : Int)) = True := eq_true c3'
          clear c4 c3'
          go_wp2_with (first | ((with_reducible refine gate_callee (f := 11) rfl ?_); refine goesL_ (some 17) rfl rfl Try.func11 (by kernel_rfl) rfl #[u178, .int .i64 x1_1] rfl (by (try simp only [List.map_toArray, List.map_cons, List.map_nil]); first | done | rfl | (simp only [List.length_drop, List.length_take]; rfl)) ?_; (with_reducible refine (laws_markIntS.calls k1 oki u178 (rd_L1 x0_1 x5_1) x1_1 t1 t2 w0 _ ?side1 ?side2 A5.out).mono ?_); (case side1 => exact HB.out); (case side2 => exact HL.out); rintro e w5 ⟨rfl, hR1, hB1, hK1⟩; refine ⟨_, rfl, ?_⟩; have n0_ := Aside0.mk (HBK.out w5 t2 hK1 hR1); have n1_ := Aside0.mk hB1; have n2_ := Aside0.mk (Kept.then_ HK.out hK1 (fun k_ hk_ => Or.inl (HOK.out k_ hk_))); clear HO HB HK HL HBK HOK hR1 hB1 hK1; have HO := n0_; have HB := n1_; have HK := n2_; clear n0_ n1_ n2_))
          go_roundg k1
          case measure => have := HK1.out; omega
          case rel => exact ⟨_, (t1), (wrap64 (x5_1 + 1)), (by first | rfl | (simp; done) | (simp [*]; done)), (by first | rfl | (simp; done) | (simp [*]; done)), H', ⟨by have := HK1.out; omega⟩, ⟨by rw [List.length_set]; exact HN.out⟩, HO, HB, HK⟩
        · rw [if_neg c4] at H
          exact absurd H (by simp)
      · rw [if_neg c3] at H
        have c3b0 : decide (x5_1 < (n0 : Int)) = false := decide_eq_false (by rw [← HN.out]; exact c3)
        clear c3
        have H2 := Option.some.inj H
        injection H2 with e1 e2
        subst e1
        subst e2
        go_wp2
        go_ret
        exact ⟨by first | rfl | (simp; done) | (simp [*]; done), HO.out, HB.out, HK.out⟩
end Go.Proofs.Ytanpidphaanjiaa.QFnExactMiddleOrder
