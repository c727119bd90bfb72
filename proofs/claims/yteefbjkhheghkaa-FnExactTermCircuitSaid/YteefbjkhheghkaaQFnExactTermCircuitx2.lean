/- The functions that the law FnExactTermCircuit uses: each Go function as a Lean function, and the proof that the Go code comes to its answers (part 2). Written by wip/gen/own.py out of what print.sh printed for this seat, changed by that program where the printed text fell in Lean. Conditions: those of each theorem. -/
import Derived.Test.YteefbjkhheghkaaQFnExactTermCircuitx0
import Derived.Test.YteefbjkhheghkaaQFnExactTermCircuitx1
namespace Go.Proofs.Yteefbjkhheghkaa.QFnExactTermCircuit
open Go.RowKit Go.Proofs.YteefbjkhheghkaaW.PrintWords Go.Proofs.YteefbjkhheghkaaW.PrintLast Go.Proofs.YteefbjkhheghkaaW.PrintMore
attribute [local go_sem] max2_int min2_int max_two min_two max_three min_three max_four min_four   -- for this text's walks alone
set_option linter.unusedVariables false
set_option linter.unusedSimpArgs false

/-! ### spec_TermCircuit: function 25 -/
/-- Gates of a kind that join wires, one after the other. -/
def tcJoin (n kind : Int) : List Int → List (S74) → Int → List (S74) × Int
  | [], gs, last => (gs, last)
  | k :: r, gs, last => tcJoin n kind r (gs ++ [(⟨kind, last, k⟩ : S74)]) (n + (gs.length : Int))
def tcWire (n x i : Int) : Int := if Go.bits .and .i64 (shr .i64 x i) 1 = 0 then n + i else i
def tcWires (n x : Int) (d : Nat) : List Int := (Sep.iota d).map (tcWire n x)
def tcNots (n : Nat) : List (S74) := (Sep.iota n).map (fun i => (⟨4, i, i⟩ : S74))
/-- Some wires, joined. -/
def tcAll (n kind : Int) (gs : List (S74)) : List Int → List (S74) × Int
  | [] => (gs, -1)
  | k :: r => tcJoin n kind r gs k
/-- The terms of some indices: the gates, and each term's wire. -/
def tcTerms (n : Nat) : List Int → List (S74) → List Int → List (S74) × List Int
  | [], gs, ts => (gs, ts)
  | x :: r, gs, ts => tcTerms n r (tcAll n 1 gs (tcWires n x n)).1 (ts ++ [(tcAll n 1 gs (tcWires n x n)).2])
def tcMade (n : Nat) (os : List Int) : List (S74) × Int := tcAll n 2 (tcTerms n os (tcNots n) []).1 (tcTerms n os (tcNots n) []).2
theorem tcJoin_length (n kind : Int) : ∀ (r : List Int) (gs : List (S74)) (last : Int), (tcJoin n kind r gs last).1.length = gs.length + r.length := by
  intro r
  induction r with
  | nil => intro gs last; rfl
  | cons k r ih => intro gs last; rw [tcJoin, ih]; simp; omega
theorem tcAll_length (n kind : Int) (gs : List (S74)) (l : List Int) : (tcAll n kind gs l).1.length ≤ gs.length + l.length := by
  cases l with
  | nil => simp [tcAll]
  | cons k r => rw [tcAll, tcJoin_length]; simp
theorem tcWires_length (n x : Int) (d : Nat) : (tcWires n x d).length = d := by simp [tcWires, Sep.iota_length]
theorem tcNots_length (n : Nat) : (tcNots n).length = n := by simp [tcNots, Sep.iota_length]
theorem tcTerms_length (n : Nat) : ∀ (r : List Int) (gs : List (S74)) (ts : List Int), (tcTerms n r gs ts).1.length ≤ gs.length + r.length * n ∧ (tcTerms n r gs ts).2.length = ts.length + r.length := by
  intro r
  induction r with
  | nil => intro gs ts; simp [tcTerms]
  | cons x r ih =>
    intro gs ts
    rw [tcTerms]
    obtain ⟨h1, h2⟩ := ih (tcAll n 1 gs (tcWires n x n)).1 (ts ++ [(tcAll n 1 gs (tcWires n x n)).2])
    have h3 := tcAll_length n 1 gs (tcWires n x n)
    rw [tcWires_length] at h3
    refine ⟨?_, by rw [h2]; simp; omega⟩
    rw [List.length_cons, Nat.add_mul, Nat.one_mul]
    omega
theorem tcJoin_snoc (n kind k : Int) : ∀ (r : List Int) (gs : List (S74)) (last : Int), tcJoin n kind (r ++ [k]) gs last = ((tcJoin n kind r gs last).1 ++ [(⟨kind, (tcJoin n kind r gs last).2, k⟩ : S74)], n + ((tcJoin n kind r gs last).1.length : Int)) := by
  intro r
  induction r with
  | nil => intro gs last; rfl
  | cons y r ih => intro gs last; rw [List.cons_append, tcJoin, ih]; rfl
theorem tc_cut {P : Program} (t e : TypeId) {i : TypeInfo} (ht : P.underlying t = some (.slice e)) (hi : P.info? e = some i) (hsz : i.size = 1) (A : Option Addr) (c : Nat) (k0 : Int) (r : List Int) (hc : r.length + 1 ≤ c) :
    ∃ A' : Option Addr, (∀ W : World, (Instr.slice t (.slice A (r.length + 1) c) (some (.int .i64 1)) none none).run P W = .ok (.slice A' r.length (c - 1)) W) ∧ (∀ w : World, Kd.C (Kd.int .i64) w A (r.length + 1) (k0 :: r) → Kd.C (Kd.int .i64) w A' r.length r) := by
  obtain ⟨A', h1, h2, _⟩ := print_drop_of (P := P) (Value.int .i64) (0 : Int) t e .i64 ht hi hsz A c (k0 :: r) 1 (by omega) (by simp; omega) (by simpa using hc)
  exact ⟨A', fun W => by simpa using h1 W, fun w h => Kd.C_of_reads (h1 := fun _ => rfl) (by simpa using h2 w (Kd.reads_of_C h))⟩

theorem tc_drop (q : List Int) (j : Int) (h0 : 0 ≤ j) (h1 : j < (q.length : Int)) : q.drop j.toNat = rd q j :: q.drop (j + 1).toNat := by
  have hl : j.toNat < q.length := by omega
  rw [List.drop_eq_getElem_cons hl, show (j + 1).toNat = j.toNat + 1 by omega]
  unfold rd
  rw [List.getD_eq_getElem?_getD, List.getElem?_eq_getElem hl]
  rfl
open Go.Proofs.Yteefbjkhheghkaa.Sep in
set_option maxHeartbeats 16000000 in
set_option maxRecDepth 100000 in
theorem spec_ciJoin.ext (w0 : World) (n : Int) (hn : 0 ≤ n ∧ n ≤ 4) (gc gw cw : Nat) (vo : Value) (kind k0 : Int) (r : List Int) (gs : List (S74)) (hg : gs.length + r.length ≤ 1000) (w : World) (vg : Value) (F : List Sep.Item) (_h : Own w0 w (Sep.Item.box gc 47 #[.int .i64 n, vg, vo] :: Sep.Item.row k74 74 vg gs :: Sep.Item.row (Kd.int .i64) 3 (.slice (some ⟨gw, 0, none⟩) (r.length + 1) cw) (k0 :: r) :: F)) :
    Calls Try.prog 58 #[.pointer (some ⟨gc, 0, none⟩), .int .i64 kind, .slice (some ⟨gw, 0, none⟩) (r.length + 1) cw] w fun e w' => e = .returned (.int .i64 (tcJoin n kind r gs k0).2) ∧ ∃ (A : Option Addr) (m c : Nat), Aside0 (m = (tcJoin n kind r gs k0).1.length) ∧ Own w0 w' (Sep.Item.box gc 47 #[.int .i64 n, (.slice A m c), vo] :: Sep.Item.row k74 74 (.slice A m c) (tcJoin n kind r gs k0).1 :: Sep.Item.row (Kd.int .i64) 3 (.slice (some ⟨gw, 0, none⟩) (r.length + 1) cw) (k0 :: r) :: F) := by
  obtain ⟨Ag, cg, rfl⟩ := _h.row_slice 1 rfl
  have HO := Aside0.mk _h
  clear _h
  obtain ⟨i0, hi0, _, hsz, _⟩ := info_parts info3
  obtain ⟨A', hcut, hA'⟩ := tc_cut (P := Try.prog) 24 3 Try.underlying24 hi0 hsz (some ⟨gw, 0, none⟩) cw k0 r (by have e := (HO.out.row_reads 2 rfl).2.1; simpa using e)
  have HA := Aside0.mk hA'
  clear hA' hsz hi0
  have hlt : ((0 : Int) < ((r.length + 1 : Nat) : Int)) = True := eq_true (by omega)
  have hle : ((1 : Int) ≤ ((r.length + 1 : Nat) : Int)) = True := eq_true (by omega)
  go_enter Try.func58, Try.ntmps58
  have z_1 : w.cell? ⟨gw, 0, none⟩ = some (.int .i64 k0) := (Sep.own_row_cell (0 : Int) HO.out 2 rfl 0 (Int.le_refl _) (by first | (simp; done) | (simp; omega))).1
  go_wp2
  go_loopw [7, 16] (fun v7 v16 wr => ∃ (j last : Int) (gt : List (S74)) (A_ : Option Addr) (m_ c_ : Nat), 0 ≤ j ∧ j ≤ (r.length : Int) ∧ v16 = .int .i64 j ∧ v7 = .int .i64 last ∧ Aside0 (tcJoin n kind (r.drop j.toNat) gt last = tcJoin n kind r gs k0) ∧ Aside0 ((gt.length : Int) = gs.length + j) ∧ Aside0 (m_ = gt.length) ∧ Aside0 (Own w0 wr (Sep.Item.box gc 47 #[.int .i64 n, (.slice A_ m_ c_), vo] :: Sep.Item.row k74 74 (.slice A_ m_ c_) gt :: Sep.Item.row (Kd.int .i64) 3 (.slice (some ⟨gw, 0, none⟩) (r.length + 1) cw) (k0 :: r) :: F))) (fun _ v16 _ => r.length - (intOf v16).toNat)
  case atStart => exact ⟨0, k0, gs, _, _, _, Int.le_refl _, by omega, rfl, rfl, ⟨rfl⟩, ⟨by simp⟩, ⟨rfl⟩, HO⟩
  case round =>
    clear HO
    obtain ⟨j, last, gt, A_, m_, c_, hj0, hj1, rfl, rfl, HJ, HL, HM, HO⟩ := hrel
    by_cases c1 : j < (r.length : Int)
    · have c1b := decide_eq_true c1
      have hwj : wrap64 (j + 1) = j + 1 := by have := hg; unfold wrap64; omega
      obtain ⟨adr, er, hx⟩ := Kd.at_int (HA.out _ (HO.out.row_reads 2 rfl).2.2) j hj0 c1
      cases er
      have p1 : (0 ≤ j) = True := eq_true hj0
      have q1 : (j < (r.length : Int)) = True := eq_true c1
      have HJ2 := Aside0.mk (show tcJoin n kind (r.drop (j + 1).toNat) (gt ++ [(⟨kind, last, rd r j⟩ : S74)]) (n + (gt.length : Int)) = tcJoin n kind r gs k0 from by have e := HJ.out; rw [tc_drop r j hj0 c1, tcJoin] at e; exact e)
      have z_2 : wr.cell? ⟨gc, 1, none⟩ = some (.slice A_ m_ c_) := (HO.out.cell 0 rfl 1 rfl)
      go_wp2_with (first | ((with_reducible refine gate_dst (N := 30) rfl ?_); at_builtin; refine Sep.own_append k74 HO.out 1 _ (gt) 74 rfl rfl (.tmp 24) (.tmp 29) 45 (.agg #[.int .i64 0, .int .i64 0, .int .i64 0]) 24 rfl Try.underlying45 info74 rfl (by decide) (by omega) ((⟨kind, last, rd r j⟩ : S74)) [.int .i64 kind, .int .i64 last, .int .i64 (rd r j)] rfl rfl (k74_mkM _ _ _ _) (by have := HL.out; have := HM.out; omega) ?_; intro x_30 w_2 ho; obtain ⟨A_30, n_30, c_30, hn_, rfl⟩ := ho.row_seal 1 rfl; have HN_30 := Aside0.mk hn_; clear hn_; have HO_2 := Aside0.mk ho; clear ho) | ((with_reducible refine gate_store (t := 45) (p := 32) (v := .tmp 30) rfl ?_); refine Sep.own_store_at HO_2.out 0 gc 47 _ rfl rfl rfl 45 (.tmp 32) (.tmp 30) rfl 1 rfl (.slice A_30 n_30 c_30) rfl rfl (by kernel_rfl) rfl (by simp) ?_; intro w_3 ho; have HO_3 := Aside0.mk ho; clear ho))
      have HD_6_2 := Aside0.mk (HO_3.out.drew)
      refine start_ (n := 12) (S := fun w' => w'.cell? ⟨gc, 0, none⟩ = some (.int .i64 n) ∧ w'.cell? ⟨gc, 1, none⟩ = some (.slice A_30 n_30 c_30)) (ds := []) #[false, false, false, false, false, false, false, false, false, false, false, false] (by kernel_rfl) rfl rfl ⟨(HD_6_2.out.cell 0 rfl 0 rfl), (HD_6_2.out.cell 0 rfl 1 rfl)⟩ (fun hHeld => ?_)
      generalize w_3.drew = wd_6_3 at HD_6_2 hHeld ⊢
      refine pure_ (i := 0) (N := some 33) (v := ?_) (a' := ?_) #[true, false, false, false, false, false, false, false, false, false, false, false] rfl rfl (by kernel_rfl) (fun _ _ _ h => h) (Or.inl ⟨by rfl, ?_⟩) ?_ ?_
      rotate_left
      · intro w'
        go_simp
        with_reducible rfl
      rotate_left
      · simp only [Act.put, List.setIfInBounds_toArray, List.set_cons_zero, List.set_cons_succ, i64_w, i32_w]
        rfl
      refine pure_ (i := 1) (N := some 34) (v := ?_) (a' := ?_) #[true, true, false, false, false, false, false, false, false, false, false, false] rfl rfl (by kernel_rfl) (fun _ _ _ h => h) (Or.inl ⟨by rfl, ?_⟩) ?_ ?_
      rotate_left
      · intro w'
        go_simp
        with_reducible rfl
      rotate_left
      · simp only [Act.put, List.setIfInBounds_toArray, List.set_cons_zero, List.set_cons_succ, i64_w, i32_w]
        rfl
      refine pure_ (i := 2) (N := some 35) (v := ?_) (a' := ?_) #[true, true, true, false, false, false, false, false, false, false, false, false] rfl rfl (by kernel_rfl) (fun _ _ _ h => h) (Or.inl ⟨by rfl, ?_⟩) ?_ ?_
      rotate_left
      · intro w'
        go_simp
        with_reducible rfl
      rotate_left
      · simp only [Act.put, List.setIfInBounds_toArray, List.set_cons_zero, List.set_cons_succ, i64_w, i32_w]
        rfl
      refine pure_ (i := 4) (N := some 37) (v := ?_) (a' := ?_) #[true, true, true, false, true, false, false, false, false, false, false, false] rfl rfl (by kernel_rfl) (fun _ _ _ h => h) (Or.inl ⟨by rfl, ?_⟩) ?_ ?_
      rotate_left
      · intro w'
        go_simp
        with_reducible rfl
      rotate_left
      · simp only [Act.put, List.setIfInBounds_toArray, List.set_cons_zero, List.set_cons_succ, i64_w, i32_w]
        rfl
      refine pure_ (i := 5) (N := some 38) (v := ?_) (a' := ?_) #[true, true, true, false, true, true, false, false, false, false, false, false] rfl rfl (by kernel_rfl) (fun _ _ _ h => h) (Or.inl ⟨by rfl, ?_⟩) ?_ ?_
      rotate_left
      · intro w'
        go_simp
        with_reducible rfl
      rotate_left
      · simp only [Act.put, List.setIfInBounds_toArray, List.set_cons_zero, List.set_cons_succ, i64_w, i32_w]
        rfl
      refine pure_ (i := 6) (N := some 39) (v := ?_) (a' := ?_) #[true, true, true, false, true, true, true, false, false, false, false, false] rfl rfl (by kernel_rfl) (fun _ _ _ h => h) (Or.inl ⟨by rfl, ?_⟩) ?_ ?_
      rotate_left
      · intro w'
        go_simp
        with_reducible rfl
      rotate_left
      · simp only [Act.put, List.setIfInBounds_toArray, List.set_cons_zero, List.set_cons_succ, i64_w, i32_w]
        rfl
      refine take_ (i := 3) (N := some 36) (v := ?_) (a' := ?_) #[true, true, true, true, true, true, true, false, false, false, false, false] rfl rfl (by kernel_rfl) (fun _ _ _ h => h) (Or.inl ⟨by rfl, ?_⟩) hHeld ?_ ?_
      rotate_left
      · rintro w' ⟨s0, s1⟩
        go_simp
        with_reducible rfl
      rotate_left
      · simp only [Act.put, List.setIfInBounds_toArray, List.set_cons_zero, List.set_cons_succ, i64_w, i32_w]
        rfl
      refine take_ (i := 7) (N := some 40) (v := ?_) (a' := ?_) #[true, true, true, true, true, true, true, true, false, false, false, false] rfl rfl (by kernel_rfl) (fun _ _ _ h => h) (Or.inl ⟨by rfl, ?_⟩) hHeld ?_ ?_
      rotate_left
      · rintro w' ⟨s0, s1⟩
        go_simp
        with_reducible rfl
      rotate_left
      · simp only [Act.put, List.setIfInBounds_toArray, List.set_cons_zero, List.set_cons_succ, i64_w, i32_w]
        rfl
      refine pure_ (i := 8) (N := some 41) (v := ?_) (a' := ?_) #[true, true, true, true, true, true, true, true, true, false, false, false] rfl rfl (by kernel_rfl) (fun _ _ _ h => h) (Or.inl ⟨by rfl, ?_⟩) ?_ ?_
      rotate_left
      · intro w'
        go_simp
        with_reducible rfl
      rotate_left
      · simp only [Act.put, List.setIfInBounds_toArray, List.set_cons_zero, List.set_cons_succ, i64_w, i32_w]
        rfl
      refine pure_ (i := 9) (N := some 42) (v := ?_) (a' := ?_) #[true, true, true, true, true, true, true, true, true, true, false, false] rfl rfl (by kernel_rfl) (fun _ _ _ h => h) (Or.inl ⟨by rfl, ?_⟩) ?_ ?_
      rotate_left
      · intro w'
        go_simp
        with_reducible rfl
      rotate_left
      · simp only [Act.put, List.setIfInBounds_toArray, List.set_cons_zero, List.set_cons_succ, i64_w, i32_w]
        rfl
      refine pure_ (i := 10) (N := some 43) (v := ?_) (a' := ?_) #[true, true, true, true, true, true, true, true, true, true, true, false] rfl rfl (by kernel_rfl) (fun _ _ _ h => h) (Or.inl ⟨by rfl, ?_⟩) ?_ ?_
      rotate_left
      · intro w'
        go_simp
        with_reducible rfl
      rotate_left
      · simp only [Act.put, List.setIfInBounds_toArray, List.set_cons_zero, List.set_cons_succ, i64_w, i32_w]
        rfl
      refine pure_ (i := 11) (N := some 7) (v := ?_) (a' := ?_) #[true, true, true, true, true, true, true, true, true, true, true, true] rfl rfl (by kernel_rfl) (fun _ _ _ h => h) (Or.inl ⟨by rfl, ?_⟩) ?_ ?_
      rotate_left
      · intro w'
        go_simp
        with_reducible rfl
      rotate_left
      · simp only [Act.put, List.setIfInBounds_toArray, List.set_cons_zero, List.set_cons_succ, i64_w, i32_w]
        rfl
      refine done_ (by kernel_rfl) ?_
      go_wp2
      have hv : wrap64 (wrap64 (n + (n_30 : Int)) - 1) = n + (gt.length : Int) := by have e := HN_30.out; rw [List.length_append, List.length_singleton] at e; have := HL.out; unfold wrap64; omega
      go_roundw
      case measure => simp only [intOf, hwj]; omega
      case rel => exact ⟨j + 1, n + (gt.length : Int), gt ++ [(⟨kind, last, rd r j⟩ : S74)], _, _, _, by omega, by omega, by first | rfl | rw [hwj], by first | rfl | rw [hv], HJ2, ⟨by rw [List.length_append, List.length_singleton]; have := HL.out; omega⟩, HN_30, HD_6_2⟩
    · have c1b := decide_eq_false c1
      obtain rfl : j = (r.length : Int) := by omega
      have hj := HJ.out
      rw [Int.toNat_natCast, List.drop_length, tcJoin] at hj
      have HJ2 := Aside0.mk hj
      clear hj
      go_wp2
      obtain ⟨e1, e2⟩ : gt = (tcJoin n kind r gs k0).1 ∧ last = (tcJoin n kind r gs k0).2 := by rw [← HJ2.out]; exact ⟨rfl, rfl⟩
      clear HJ HJ2
      subst e1
      subst e2
      go_ret
      exact ⟨rfl, A_, m_, HM, c_, HO.out⟩

theorem tc_and1 (y : Int) : Go.bits .and .i64 y 1 = 0 ∨ Go.bits .and .i64 y 1 = 1 := by
  show IntKind.i64.wrap ((BitVec.ofInt 64 y &&& BitVec.ofInt 64 1).toNat : Int) = 0 ∨ IntKind.i64.wrap ((BitVec.ofInt 64 y &&& BitVec.ofInt 64 1).toNat : Int) = 1
  have h : (BitVec.ofInt 64 y &&& BitVec.ofInt 64 1).toNat ≤ 1 := by
    rw [BitVec.toNat_and]
    exact Nat.le_trans Nat.and_le_right (by decide)
  generalize (BitVec.ofInt 64 y &&& BitVec.ofInt 64 1).toNat = m at h
  have : m = 0 ∨ m = 1 := by omega
  rcases this with rfl | rfl
  · left; decide
  · right; decide

theorem tc_bit (n : Nat) (x i : Int) (h0 : 0 ≤ i) (h1 : i < 1000 ∧ (n : Int) < 1000) : ∃ bb, spec_ttBit.f x i = some bb ∧ wrap64 (i + wrap64 ((n : Int) * wrap64 (1 - bb))) = tcWire n x i := by
  have hu : IntKind.u64.wrap i = i := by simp [IntKind.wrap, IntKind.bits, IntKind.signed]; omega
  refine ⟨Go.bits .and .i64 (shr .i64 x i) 1, by unfold spec_ttBit.f; rw [hu, if_pos h0], ?_⟩
  have hb : Go.bits .and .i64 (shr .i64 x i) 1 = 0 ∨ Go.bits .and .i64 (shr .i64 x i) 1 = 1 := tc_and1 _
  unfold tcWire
  rcases hb with hb | hb
  · rw [hb, if_pos rfl]
    unfold wrap64
    omega
  · rw [hb, if_neg (by decide)]
    unfold wrap64
    omega
def spec_TermCircuit.f (k : Nat) (a0_0 : Int) (l0_1 : List Int) : Option (Int × List (S74) × List Int × Bool) :=
  (spec_ttGood.f k a0_0 l0_1).bind fun t => if t = true then (if a0_0 = 0 then some (0, [], [], false) else ((spec_ttOnes.f k a0_0 l0_1).bind fun os => (if os = [] then some (0, [], [], false) else (if 1 ≤ a0_0 ∧ a0_0 ≤ 4 ∧ os.length ≤ 16 then
    ((spec_ciGood.f k a0_0 (tcMade a0_0.toNat os).1 [(tcMade a0_0.toNat os).2]).bind fun u => if u = true then some (a0_0, (tcMade a0_0.toNat os).1, [(tcMade a0_0.toNat os).2], true) else some (0, [], [], false)) else none)))) else some (0, [], [], false)
theorem spec_TermCircuit.mono : ∀ a0 a1 k, LeO (spec_TermCircuit.f k a0 a1) (spec_TermCircuit.f (k + 1) a0 a1) := fun a0 a1 k =>
  LeO.bind (spec_ttGood.mono a0 a1 k) (fun t => LeO.ite (LeO.ite (LeO.refl _) (LeO.bind (spec_ttOnes.mono a0 a1 k) (fun os => LeO.ite (LeO.refl _) (LeO.ite (LeO.bind (spec_ciGood.mono _ _ _ k) (fun _ => LeO.refl _)) (LeO.refl _))))) (LeO.refl _))
open Go.Proofs.Yteefbjkhheghkaa.Sep in
set_option maxHeartbeats 16000000 in
set_option maxRecDepth 100000 in
theorem spec_TermCircuit.calls (k : Nat) (a0_0 : Int) (A0_1 : Option Addr) (c0_1 : Nat) (l0_1 : List Int) (r1 : Int) (r2 : List (S74)) (r3 : List Int) (r4 : Bool) (w : World) (hr0_1 : Kd.C (Kd.int .i64) w A0_1 l0_1.length l0_1) (hc0_1 : l0_1.length ≤ c0_1) (h : spec_TermCircuit.f k a0_0 l0_1 = some (r1, r2, r3, r4)) :
    Calls Try.prog 25 #[.agg #[.int .i64 a0_0, .slice A0_1 l0_1.length c0_1]] w fun e w' => ∃ v1_ v2_ : Value, e = .returned (.tuple #[.agg #[.int .i64 r1, v1_, v2_], .bool r4]) ∧ Kd.R k74 74 w' w.heap.size (fun _ => True) v1_ r2 ∧ Kd.R (Kd.int .i64) 3 w' w.heap.size (fun _ => True) v2_ r3 ∧ Below w.heap.size w w' := by
  have HR := Aside0.mk hr0_1
  have HC := Aside0.mk hc0_1
  clear hr0_1 hc0_1
  unfold spec_TermCircuit.f at h
  obtain ⟨t, hA, h1⟩ := Option.bind_eq_some_iff.mp h
  clear h
  have HA := Aside0.mk hA
  clear hA
  cases t with
  | false =>
    rw [if_neg (by decide)] at h1
    have h2 : ((0 : Int), ([] : List (S74)), ([] : List Int), false) = (r1, r2, r3, r4) := Option.some.inj h1
    clear h1
    injection h2 with e1 e2
    injection e2 with e2 e3
    injection e3 with e3 e4
    subst e1
    subst e2
    subst e3
    subst e4
    go_enter Try.func25, Try.ntmps25
    go_wp2_with (first | ((with_reducible refine gate_dst (N := 1) rfl ?_); refine box_event ?hg (N := 1) ?hd (cs := #[.int .i64 a0_0, .slice A0_1 l0_1.length c0_1]) (t := 50) ?hr ?_; (case hd => rfl); (case hg => rfl); (case hr => first | (go_simp; done) | (go_simp; rfl)); intro gt hg w_1 hbox hb; have HO_1 := Aside0.mk ((Sep.Own.nil w).add_box (T := 50) (cs := #[.int .i64 a0_0, .slice A0_1 l0_1.length c0_1]) hg hbox hb); clear hg hbox hb) | ((with_reducible refine gate_dst (N := 2) rfl ?_); refine box_event ?hg (N := 2) ?hd (cs := #[.int .i64 0, .slice none 0 0, .slice none 0 0]) (t := 47) ?hr ?_; (case hd => rfl); (case hg => rfl); (case hr => first | (go_simp; done) | (go_simp; rfl)); intro gr hg w_2 hbox hb; have HO_2 := Aside0.mk (HO_1.out.add_box (T := 47) (cs := #[.int .i64 0, .slice none 0 0, .slice none 0 0]) hg hbox hb); clear hg hbox hb; have z_1 : w_2.cell? ⟨gt, 0, none⟩ = some (.int .i64 a0_0) := (HO_2.out.cell 1 rfl 0 rfl); have z_2 : w_2.cell? ⟨gt, 1, none⟩ = some (.slice A0_1 l0_1.length c0_1) := (HO_2.out.cell 1 rfl 1 rfl)) | ((with_reducible refine gate_callee (f := 55) rfl ?_); refine goesL_ (some 12) rfl rfl Try.func55 (by kernel_rfl) rfl #[.agg #[.int .i64 a0_0, .slice A0_1 l0_1.length c0_1]] rfl (by (try simp only [List.map_toArray, List.map_cons, List.map_nil]); first | done | rfl) ?_; (with_reducible refine (spec_ttGood.calls k a0_0 _ _ l0_1 false _ (by exact Kd.C_below HR.out HO_2.out.base) HC.out HA.out).mono ?_); rintro e w_3 ⟨rfl, hb⟩; refine ⟨_, rfl, ?_⟩; have HO_3 := Aside0.mk (HO_2.out.below hb); clear hb) | ((with_reducible refine gate_store (t := 47) (p := 2) (v := .tmp 25) rfl ?_); refine Sep.own_store HO_3.out 0 gr 47 _ #[.int .i64 0, .slice none 0 0, .slice none 0 0] rfl rfl rfl 47 (.tmp 2) (.tmp 25) rfl rfl _ rfl rfl rfl (by kernel_rfl) (by simp [Value.oneCell']) ?_; intro w_4 ho; have HO_4 := Aside0.mk ho; clear ho))
    (try simp only [Exit.inBlock, Exit.then])
    refine bodyPost_ret (results_ct rfl _ _ gr 47 #[.int .i64 0, .slice none 0 0, .slice none 0 0] (0, 0) _ rfl (HO_4.out.blk 0 rfl) Try.underlying47 rfl (by kernel_rfl)) rfl ?_
    exact ⟨_, _, rfl, Kd.R_nil _ _ _ _ _, Kd.R_nil _ _ _ _ _, HO_4.out.base⟩
  | true =>
    rw [if_pos rfl] at h1
    by_cases c0 : a0_0 = 0
    · rw [if_pos c0] at h1
      have h2 : ((0 : Int), ([] : List (S74)), ([] : List Int), false) = (r1, r2, r3, r4) := Option.some.inj h1
      clear h1
      injection h2 with e1 e2
      injection e2 with e2 e3
      injection e3 with e3 e4
      subst e1
      subst e2
      subst e3
      subst e4
      subst c0
      go_enter Try.func25, Try.ntmps25
      go_wp2_with (first | ((with_reducible refine gate_dst (N := 1) rfl ?_); refine box_event ?hg (N := 1) ?hd (cs := #[.int .i64 0, .slice A0_1 l0_1.length c0_1]) (t := 50) ?hr ?_; (case hd => rfl); (case hg => rfl); (case hr => first | (go_simp; done) | (go_simp; rfl)); intro gt hg w_1 hbox hb; have HO_1 := Aside0.mk ((Sep.Own.nil w).add_box (T := 50) (cs := #[.int .i64 0, .slice A0_1 l0_1.length c0_1]) hg hbox hb); clear hg hbox hb) | ((with_reducible refine gate_dst (N := 2) rfl ?_); refine box_event ?hg (N := 2) ?hd (cs := #[.int .i64 0, .slice none 0 0, .slice none 0 0]) (t := 47) ?hr ?_; (case hd => rfl); (case hg => rfl); (case hr => first | (go_simp; done) | (go_simp; rfl)); intro gr hg w_2 hbox hb; have HO_2 := Aside0.mk (HO_1.out.add_box (T := 47) (cs := #[.int .i64 0, .slice none 0 0, .slice none 0 0]) hg hbox hb); clear hg hbox hb; have z_1 : w_2.cell? ⟨gt, 0, none⟩ = some (.int .i64 0) := (HO_2.out.cell 1 rfl 0 rfl); have z_2 : w_2.cell? ⟨gt, 1, none⟩ = some (.slice A0_1 l0_1.length c0_1) := (HO_2.out.cell 1 rfl 1 rfl)) | ((with_reducible refine gate_callee (f := 55) rfl ?_); refine goesL_ (some 12) rfl rfl Try.func55 (by kernel_rfl) rfl #[.agg #[.int .i64 0, .slice A0_1 l0_1.length c0_1]] rfl (by (try simp only [List.map_toArray, List.map_cons, List.map_nil]); first | done | rfl) ?_; (with_reducible refine (spec_ttGood.calls k 0 _ _ l0_1 true _ (by exact Kd.C_below HR.out HO_2.out.base) HC.out HA.out).mono ?_); rintro e w_3 ⟨rfl, hb⟩; refine ⟨_, rfl, ?_⟩; have HO_3 := Aside0.mk (HO_2.out.below hb); clear hb; have z_3 : w_3.cell? ⟨gt, 0, none⟩ = some (.int .i64 0) := (HO_3.out.cell 1 rfl 0 rfl)) | ((with_reducible refine gate_store (t := 47) (p := 2) (v := .tmp 25) rfl ?_); refine Sep.own_store HO_3.out 0 gr 47 _ #[.int .i64 0, .slice none 0 0, .slice none 0 0] rfl rfl rfl 47 (.tmp 2) (.tmp 25) rfl rfl _ rfl rfl rfl (by kernel_rfl) (by simp [Value.oneCell']) ?_; intro w_4 ho; have HO_4 := Aside0.mk ho; clear ho))
      (try simp only [Exit.inBlock, Exit.then])
      refine bodyPost_ret (results_ct rfl _ _ gr 47 #[.int .i64 0, .slice none 0 0, .slice none 0 0] (0, 0) _ rfl (HO_4.out.blk 0 rfl) Try.underlying47 rfl (by kernel_rfl)) rfl ?_
      exact ⟨_, _, rfl, Kd.R_nil _ _ _ _ _, Kd.R_nil _ _ _ _ _, HO_4.out.base⟩
    · rw [if_neg c0] at h1
      obtain ⟨os, hO, h2⟩ := Option.bind_eq_some_iff.mp h1
      clear h1
      have h1 := h2
      clear h2
      have HQ := Aside0.mk hO
      clear hO
      have c0b : (a0_0 == 0) = false := beq_eq_false_iff_ne.mpr c0
      by_cases c2 : os = []
      · rw [if_pos c2] at h1
        have h2 : ((0 : Int), ([] : List (S74)), ([] : List Int), false) = (r1, r2, r3, r4) := Option.some.inj h1
        clear h1
        injection h2 with e1 e2
        injection e2 with e2 e3
        injection e3 with e3 e4
        subst e1
        subst e2
        subst e3
        subst e4
        clear c0
        have c2b : ((os.length : Int) == 0) = true := by rw [c2]; rfl
        have HC2 := Aside0.mk c2
        clear c2
        go_enter Try.func25, Try.ntmps25
        go_wp2_with (first | ((with_reducible refine gate_dst (N := 1) rfl ?_); refine box_event ?hg (N := 1) ?hd (cs := #[.int .i64 a0_0, .slice A0_1 l0_1.length c0_1]) (t := 50) ?hr ?_; (case hd => rfl); (case hg => rfl); (case hr => first | (go_simp; done) | (go_simp; rfl)); intro gt hg w_1 hbox hb; have HO_1 := Aside0.mk ((Sep.Own.nil w).add_box (T := 50) (cs := #[.int .i64 a0_0, .slice A0_1 l0_1.length c0_1]) hg hbox hb); clear hg hbox hb) | ((with_reducible refine gate_dst (N := 2) rfl ?_); refine box_event ?hg (N := 2) ?hd (cs := #[.int .i64 0, .slice none 0 0, .slice none 0 0]) (t := 47) ?hr ?_; (case hd => rfl); (case hg => rfl); (case hr => first | (go_simp; done) | (go_simp; rfl)); intro gr hg w_2 hbox hb; have HO_2 := Aside0.mk (HO_1.out.add_box (T := 47) (cs := #[.int .i64 0, .slice none 0 0, .slice none 0 0]) hg hbox hb); clear hg hbox hb; have z_1 : w_2.cell? ⟨gt, 0, none⟩ = some (.int .i64 a0_0) := (HO_2.out.cell 1 rfl 0 rfl); have z_2 : w_2.cell? ⟨gt, 1, none⟩ = some (.slice A0_1 l0_1.length c0_1) := (HO_2.out.cell 1 rfl 1 rfl)) | ((with_reducible refine gate_callee (f := 55) rfl ?_); refine goesL_ (some 12) rfl rfl Try.func55 (by kernel_rfl) rfl #[.agg #[.int .i64 a0_0, .slice A0_1 l0_1.length c0_1]] rfl (by (try simp only [List.map_toArray, List.map_cons, List.map_nil]); first | done | rfl) ?_; (with_reducible refine (spec_ttGood.calls k a0_0 _ _ l0_1 true _ (by exact Kd.C_below HR.out HO_2.out.base) HC.out HA.out).mono ?_); rintro e w_3 ⟨rfl, hb⟩; refine ⟨_, rfl, ?_⟩; have HO_3 := Aside0.mk (HO_2.out.below hb); clear hb; have z_3 : w_3.cell? ⟨gt, 0, none⟩ = some (.int .i64 a0_0) := (HO_3.out.cell 1 rfl 0 rfl); have z_4 : w_3.cell? ⟨gt, 0, none⟩ = some (.int .i64 a0_0) := (HO_3.out.cell 1 rfl 0 rfl); have z_5 : w_3.cell? ⟨gt, 1, none⟩ = some (.slice A0_1 l0_1.length c0_1) := (HO_3.out.cell 1 rfl 1 rfl)) | (go_at_call 56; (with_reducible refine (spec_ttOnes.calls k a0_0 _ _ l0_1 os _ (by exact Kd.C_below HR.out HO_3.out.base) HC.out HQ.out).mono ?_); rintro e w_4 ⟨v_4, rfl, hR, hb⟩; have ho := (HO_3.out.add_row hR hb); obtain ⟨A_q6, c_q6, rfl⟩ := ho.row_slice 0 rfl; have HO_4 := Aside0.mk ho; clear ho hR hb) | ((with_reducible refine gate_store (t := 47) (p := 2) (v := .tmp 25) rfl ?_); refine Sep.own_store HO_4.out 1 gr 47 _ #[.int .i64 0, .slice none 0 0, .slice none 0 0] rfl rfl rfl 47 (.tmp 2) (.tmp 25) rfl rfl _ rfl rfl rfl (by kernel_rfl) (by simp [Value.oneCell']) ?_; intro w_5 ho; have HO_5 := Aside0.mk ho; clear ho))
        (try simp only [Exit.inBlock, Exit.then])
        refine bodyPost_ret (results_ct rfl _ _ gr 47 #[.int .i64 0, .slice none 0 0, .slice none 0 0] (0, 0) _ rfl (HO_5.out.blk 1 rfl) Try.underlying47 rfl (by kernel_rfl)) rfl ?_
        exact ⟨_, _, rfl, Kd.R_nil _ _ _ _ _, Kd.R_nil _ _ _ _ _, HO_5.out.base⟩
      · rw [if_neg c2] at h1
        split at h1
        · rename_i hcc
          obtain ⟨hn1, hn4, hos16⟩ := hcc
          obtain ⟨n, rfl⟩ := Int.eq_ofNat_of_zero_le (show 0 ≤ a0_0 by omega)
          rw [Int.toNat_natCast] at h1
          have HNN := Aside0.mk (show 0 ≤ (n : Int) ∧ (n : Int) ≤ 4 ∧ 1 ≤ n by omega)
          have HO16 := Aside0.mk hos16
          have c2b : ((os.length : Int) == 0) = false := beq_eq_false_iff_ne.mpr (by intro e; exact c2 (List.eq_nil_of_length_eq_zero (by omega)))
          have HNE := Aside0.mk c2
          clear c0 c2 hn1 hn4 hos16
          have H1 := Aside0.mk h1
          clear h1
          go_enter Try.func25, Try.ntmps25
          go_wp2_with (first | ((with_reducible refine gate_dst (N := 1) rfl ?_); refine box_event ?hg (N := 1) ?hd (cs := #[.int .i64 ((n : Int)), .slice A0_1 l0_1.length c0_1]) (t := 50) ?hr ?_; (case hd => rfl); (case hg => rfl); (case hr => first | (go_simp; done) | (go_simp; rfl)); intro gt hg w_1 hbox hb; have HO_1 := Aside0.mk ((Sep.Own.nil w).add_box (T := 50) (cs := #[.int .i64 ((n : Int)), .slice A0_1 l0_1.length c0_1]) hg hbox hb); clear hg hbox hb) | ((with_reducible refine gate_dst (N := 2) rfl ?_); refine box_event ?hg (N := 2) ?hd (cs := #[.int .i64 0, .slice none 0 0, .slice none 0 0]) (t := 47) ?hr ?_; (case hd => rfl); (case hg => rfl); (case hr => first | (go_simp; done) | (go_simp; rfl)); intro gr hg w_2 hbox hb; have HO_2 := Aside0.mk (HO_1.out.add_box (T := 47) (cs := #[.int .i64 0, .slice none 0 0, .slice none 0 0]) hg hbox hb); clear hg hbox hb; have z_1 : w_2.cell? ⟨gt, 0, none⟩ = some (.int .i64 ((n : Int))) := (HO_2.out.cell 1 rfl 0 rfl); have z_2 : w_2.cell? ⟨gt, 1, none⟩ = some (.slice A0_1 l0_1.length c0_1) := (HO_2.out.cell 1 rfl 1 rfl)) | ((with_reducible refine gate_callee (f := 55) rfl ?_); refine goesL_ (some 12) rfl rfl Try.func55 (by kernel_rfl) rfl #[.agg #[.int .i64 ((n : Int)), .slice A0_1 l0_1.length c0_1]] rfl (by (try simp only [List.map_toArray, List.map_cons, List.map_nil]); first | done | rfl) ?_; (with_reducible refine (spec_ttGood.calls k (n : Int) _ _ l0_1 true _ (by exact Kd.C_below HR.out HO_2.out.base) HC.out HA.out).mono ?_); rintro e w_3 ⟨rfl, hb⟩; refine ⟨_, rfl, ?_⟩; have HO_3 := Aside0.mk (HO_2.out.below hb); clear hb; have z_3 : w_3.cell? ⟨gt, 0, none⟩ = some (.int .i64 ((n : Int))) := (HO_3.out.cell 1 rfl 0 rfl); have z_4 : w_3.cell? ⟨gt, 0, none⟩ = some (.int .i64 ((n : Int))) := (HO_3.out.cell 1 rfl 0 rfl); have z_5 : w_3.cell? ⟨gt, 1, none⟩ = some (.slice A0_1 l0_1.length c0_1) := (HO_3.out.cell 1 rfl 1 rfl)) | (go_at_call 56; (with_reducible refine (spec_ttOnes.calls k (n : Int) _ _ l0_1 os _ (by exact Kd.C_below HR.out HO_3.out.base) HC.out HQ.out).mono ?_); rintro e w_4 ⟨v_4, rfl, hR, hb⟩; have ho := (HO_3.out.add_row hR hb); obtain ⟨A_q6, c_q6, rfl⟩ := ho.row_slice 0 rfl; have HO_4 := Aside0.mk ho; clear ho hR hb; have z_7 : w_4.cell? ⟨gt, 0, none⟩ = some (.int .i64 ((n : Int))) := (HO_4.out.cell 2 rfl 0 rfl)) | ((with_reducible refine gate_dst (N := 4) rfl ?_); refine box_event ?hg (N := 4) ?hd (cs := #[.int .i64 0, .slice none 0 0, .slice none 0 0]) (t := 47) ?hr ?_; (case hd => rfl); (case hg => rfl); (case hr => first | (go_simp; done) | (go_simp; rfl)); intro gc hg w_5 hbox hb; have HO_5 := Aside0.mk (HO_4.out.add_box (T := 47) (cs := #[.int .i64 0, .slice none 0 0, .slice none 0 0]) hg hbox hb); clear hg hbox hb) | ((with_reducible refine gate_store (t := 47) (p := 4) (v := .tmp 28) rfl ?_); refine Sep.own_store HO_5.out 0 gc 47 _ #[.int .i64 ((n : Int)), .slice none 0 0, .slice none 0 0] rfl rfl rfl 47 (.tmp 4) (.tmp 28) rfl rfl _ rfl rfl rfl (by kernel_rfl) (by simp [Value.oneCell']) ?_; intro w_6 ho; have HO_6 := Aside0.mk ho; clear ho))
          (try simp only [Act.put, List.setIfInBounds_toArray, List.set_cons_zero, List.set_cons_succ])
          go_loopw [5] (fun v5 wr => ∃ (i : Int) (A_ : Option Addr) (m_ c_ : Nat), 0 ≤ i ∧ i ≤ (n : Int) ∧ v5 = .int .i64 i ∧ Aside0 (Own w wr [Item.box gc 47 #[.int .i64 ((n : Int)), .slice A_ m_ c_, .slice none 0 0], Item.row k74 74 (.slice A_ m_ c_) (((Sep.iota i.toNat).map (fun i => (⟨4, i, i⟩ : S74)))), Item.box gr 47 #[.int .i64 0, .slice none 0 0, .slice none 0 0], Item.box gt 50 #[.int .i64 ((n : Int)), .slice A0_1 l0_1.length c0_1]])) (fun v5 _ => n - (intOf v5).toNat)
          case atStart => exact ⟨0, none, 0, 0, Int.le_refl _, by omega, rfl, ⟨((((((HO_6.out.nilrow k74 74).front 4 rfl).front 4 rfl).front 2 rfl).front 3 rfl).front 4 rfl).tail⟩⟩
          case round =>
            obtain ⟨i, A_, m_, c_, hi0, hi1, rfl, HO⟩ := hrel
            clear HO_6
            by_cases c3 : i < (n : Int)
            · have c3b := decide_eq_true c3
              have hwi : wrap64 (i + 1) = i + 1 := by have := HNN.out; unfold wrap64; omega
              have z_8 : wr.cell? ⟨gt, 0, none⟩ = some (.int .i64 ((n : Int))) := (HO.out.cell 3 rfl 0 rfl)
              have z_9 : wr.cell? ⟨gc, 1, none⟩ = some (.slice A_ m_ c_) := (HO.out.cell 0 rfl 1 rfl)
              go_wp2_with (first | ((with_reducible refine gate_dst (N := 41) rfl ?_); at_builtin; refine Sep.own_append k74 HO.out 1 _ (((Sep.iota i.toNat).map (fun i => (⟨4, i, i⟩ : S74)))) 74 rfl rfl (.tmp 36) (.tmp 40) 45 (.agg #[.int .i64 0, .int .i64 0, .int .i64 0]) 24 rfl Try.underlying45 info74 rfl (by decide) (by omega) ((⟨4, i, i⟩ : S74)) [.int .i64 4, .int .i64 i, .int .i64 i] rfl rfl (k74_mkM _ _ _ _) (by rw [List.length_map, Sep.iota_length]; have := HNN.out; omega) ?_; intro x_41 w_2 ho; obtain ⟨A_41, n_41, c_41, hn_, rfl⟩ := ho.row_seal 1 rfl; have HN_41 := Aside0.mk hn_; clear hn_; have HO_2 := Aside0.mk ho; clear ho) | ((with_reducible refine gate_store (t := 45) (p := 42) (v := .tmp 41) rfl ?_); refine Sep.own_store_at HO_2.out 0 gc 47 _ rfl rfl rfl 45 (.tmp 42) (.tmp 41) rfl 1 rfl (.slice A_41 n_41 c_41) rfl rfl (by kernel_rfl) rfl (by simp) ?_; intro w_3 ho; have HO_3 := Aside0.mk ho; clear ho))
              go_roundw
              case measure => simp only [intOf, hwi]; omega
              case rel => exact ⟨i + 1, _, _, _, by omega, by omega, by first | rfl | rw [hwi], ⟨by rw [Sep.iota_succ i hi0, List.map_append, List.map_singleton]; exact HO_3.out⟩⟩
            · have c3b := decide_eq_false c3
              obtain rfl : i = (n : Int) := by omega
              have ho := HO.out
              rw [Int.toNat_natCast] at ho
              have HO1 := Aside0.mk (show Own w wr [Item.box gc 47 #[.int .i64 ((n : Int)), .slice A_ m_ c_, .slice none 0 0], Item.row k74 74 (.slice A_ m_ c_) ((tcNots n)), Item.box gr 47 #[.int .i64 0, .slice none 0 0, .slice none 0 0], Item.box gt 50 #[.int .i64 ((n : Int)), .slice A0_1 l0_1.length c0_1]] from ho)
              clear ho HO
              have HO := HO1
              clear HO1
              have z_8 : wr.cell? ⟨gt, 0, none⟩ = some (.int .i64 ((n : Int))) := (HO.out.cell 3 rfl 0 rfl)
              have z_9 : wr.cell? ⟨gt, 0, none⟩ = some (.int .i64 ((n : Int))) := (HO.out.cell 3 rfl 0 rfl)
              have z_10 : wr.cell? ⟨gt, 1, none⟩ = some (.slice A0_1 l0_1.length c0_1) := (HO.out.cell 3 rfl 1 rfl)
              go_wp2_with (first | ((with_reducible refine gate_callee (f := 56) rfl ?_); refine goesL_ (some 44) rfl rfl Try.func56 (by kernel_rfl) rfl #[.agg #[.int .i64 ((n : Int)), .slice A0_1 l0_1.length c0_1]] rfl (by (try simp only [List.map_toArray, List.map_cons, List.map_nil]); first | done | rfl) ?_; (with_reducible refine (spec_ttOnes.calls k (n : Int) _ _ l0_1 os _ (by exact Kd.C_below HR.out HO.out.base) HC.out HQ.out).mono ?_); rintro e w_1 ⟨v_1, rfl, hR, hb⟩; refine ⟨_, rfl, ?_⟩; have ho := (HO.out.add_row hR hb); obtain ⟨A_q11, c_q11, rfl⟩ := ho.row_slice 0 rfl; have HO_1 := Aside0.mk ho; clear ho hR hb))
              (try simp only [Act.put, List.setIfInBounds_toArray, List.set_cons_zero, List.set_cons_succ])
              go_loopw [6, 46] (fun v6 v46 wr => ∃ (j : Int) (gs : List (S74)) (ts : List Int) (A_ : Option Addr) (m_ c_ : Nat), 0 ≤ j ∧ j ≤ (os.length : Int) ∧ v46 = .int .i64 j ∧ Aside0 (tcTerms n (os.drop j.toNat) gs ts = tcTerms n os (tcNots n) []) ∧ Aside0 ((gs.length : Int) ≤ n + j * 4) ∧ Aside0 ((ts.length : Int) = j) ∧ Aside0 (Own w wr [Item.box gc 47 #[.int .i64 ((n : Int)), .slice A_ m_ c_, .slice none 0 0], Item.row k74 74 (.slice A_ m_ c_) (gs), Item.row (Kd.int .i64) 3 (v6) (ts), Item.row (Kd.int .i64) 3 (.slice A_q11 os.length c_q11) (os), Item.box gr 47 #[.int .i64 0, .slice none 0 0, .slice none 0 0], Item.box gt 50 #[.int .i64 ((n : Int)), .slice A0_1 l0_1.length c0_1]])) (fun _ v46 _ => os.length - (intOf v46).toNat)
              case atStart => exact ⟨0, tcNots n, [], _, _, _, Int.le_refl _, by omega, rfl, ⟨rfl⟩, ⟨by rw [tcNots_length]; omega⟩, ⟨rfl⟩, ⟨(((((((HO_1.out.nilrow (Kd.int .i64) 3).front 5 rfl).front 5 rfl).front 3 rfl).front 3 rfl).front 5 rfl).front 5 rfl)⟩⟩
              case round =>
                clear HO HO_1
                obtain ⟨j, gs, ts, A_, m_, c_, hj0, hj1, rfl, HT, HGL, HTL, HO⟩ := hrel
                by_cases c4 : j < (os.length : Int)
                · have c4b := decide_eq_true c4
                  have hwj : wrap64 (j + 1) = j + 1 := by have := HO16.out; unfold wrap64; omega
                  obtain ⟨ado, eo, hx⟩ := Kd.at_int (HO.out.row_reads 3 rfl).2.2 j hj0 c4
                  cases eo
                  have p1 : (0 ≤ j) = True := eq_true hj0
                  have q1 : (j < (os.length : Int)) = True := eq_true c4
                  have hT := HT.out
                  rw [tc_drop os j hj0 c4, tcTerms] at hT
                  obtain ⟨xx, hxx⟩ : ∃ xx, xx = rd os j := ⟨_, rfl⟩
                  rw [← hxx] at hx hT
                  have HT2 := Aside0.mk hT
                  clear hT hxx HT
                  go_wp2
                  go_loopw [9, 10] (fun v9 v10 wr => ∃ (i : Int), 0 ≤ i ∧ i ≤ (n : Int) ∧ v10 = .int .i64 i ∧ Aside0 (Own w wr [Item.box gc 47 #[.int .i64 ((n : Int)), .slice A_ m_ c_, .slice none 0 0], Item.row k74 74 (.slice A_ m_ c_) (gs), Item.row (Kd.int .i64) 3 (v9) ((tcWires (n : Int) xx i.toNat)), Item.row (Kd.int .i64) 3 (u6) (ts), Item.row (Kd.int .i64) 3 (.slice ((some ado)) os.length c_q11) (os), Item.box gr 47 #[.int .i64 0, .slice none 0 0, .slice none 0 0], Item.box gt 50 #[.int .i64 ((n : Int)), .slice A0_1 l0_1.length c0_1]])) (fun _ v10 _ => n - (intOf v10).toNat)
                  case atStart => exact ⟨0, Int.le_refl _, by omega, rfl, ⟨((((((((HO.out.nilrow (Kd.int .i64) 3).front 6 rfl).front 6 rfl).front 6 rfl).front 6 rfl).front 4 rfl).front 6 rfl).front 6 rfl)⟩⟩
                  case round =>
                    clear HO hx
                    obtain ⟨i, hi0, hi1, rfl, HO⟩ := hrel
                    by_cases c5 : i < (n : Int)
                    · have c5b := decide_eq_true c5
                      have hwi : wrap64 (i + 1) = i + 1 := by have := HNN.out; unfold wrap64; omega
                      obtain ⟨bb, hbb, hbw⟩ : ∃ bb, spec_ttBit.f xx i = some bb ∧ wrap64 (i + wrap64 ((n : Int) * wrap64 (1 - bb))) = tcWire n xx i := tc_bit n xx i hi0 (by have := HNN.out; omega)
                      have HBIT := Aside0.mk hbb
                      have HBW := Aside0.mk hbw
                      clear hbb hbw
                      have z_12 : wr.cell? ⟨gt, 0, none⟩ = some (.int .i64 ((n : Int))) := (HO.out.cell 6 rfl 0 rfl)
                      go_wp2
                      have HD_16_12 := Aside0.mk (HO.out.drew)
                      refine start_ (n := 13) (S := fun w' => w'.cell? ⟨gt, 0, none⟩ = some (.int .i64 ((n : Int)))) (ds := []) #[false, false, false, false, false, false, false, false, false, false, false, false, false] (by kernel_rfl) rfl rfl ((HD_16_12.out.cell 6 rfl 0 rfl)) (fun hHeld => ?_)
                      generalize wr.drew = wd_16_13 at HD_16_12 hHeld ⊢
                      refine pure_ (i := 0) (N := some 56) (v := ?_) (a' := ?_) #[true, false, false, false, false, false, false, false, false, false, false, false, false] rfl rfl (by kernel_rfl) (fun _ _ _ h => h) (Or.inl ⟨by rfl, ?_⟩) ?_ ?_
                      rotate_left
                      · intro w'
                        go_simp
                        with_reducible rfl
                      rotate_left
                      · simp only [Act.put, List.setIfInBounds_toArray, List.set_cons_zero, List.set_cons_succ, i64_w, i32_w]
                        rfl
                      refine pure_ (i := 1) (N := some 57) (v := ?_) (a' := ?_) #[true, true, false, false, false, false, false, false, false, false, false, false, false] rfl rfl (by kernel_rfl) (fun _ _ _ h => h) (Or.inl ⟨by rfl, ?_⟩) ?_ ?_
                      rotate_left
                      · intro w'
                        go_simp
                        with_reducible rfl
                      rotate_left
                      · simp only [Act.put, List.setIfInBounds_toArray, List.set_cons_zero, List.set_cons_succ, i64_w, i32_w]
                        rfl
                      refine pure_ (i := 2) (N := some 58) (v := ?_) (a' := ?_) #[true, true, true, false, false, false, false, false, false, false, false, false, false] rfl rfl (by kernel_rfl) (fun _ _ _ h => h) (Or.inl ⟨by rfl, ?_⟩) ?_ ?_
                      rotate_left
                      · intro w'
                        go_simp
                        with_reducible rfl
                      rotate_left
                      · simp only [Act.put, List.setIfInBounds_toArray, List.set_cons_zero, List.set_cons_succ, i64_w, i32_w]
                        rfl
                      refine pure_ (i := 4) (N := some 60) (v := ?_) (a' := ?_) #[true, true, true, false, true, false, false, false, false, false, false, false, false] rfl rfl (by kernel_rfl) (fun _ _ _ h => h) (Or.inl ⟨by rfl, ?_⟩) ?_ ?_
                      rotate_left
                      · intro w'
                        go_simp
                        with_reducible rfl
                      rotate_left
                      · simp only [Act.put, List.setIfInBounds_toArray, List.set_cons_zero, List.set_cons_succ, i64_w, i32_w]
                        rfl
                      refine pure_ (i := 5) (N := some 61) (v := ?_) (a' := ?_) #[true, true, true, false, true, true, false, false, false, false, false, false, false] rfl rfl (by kernel_rfl) (fun _ _ _ h => h) (Or.inl ⟨by rfl, ?_⟩) ?_ ?_
                      rotate_left
                      · intro w'
                        go_simp
                        with_reducible rfl
                      rotate_left
                      · simp only [Act.put, List.setIfInBounds_toArray, List.set_cons_zero, List.set_cons_succ, i64_w, i32_w]
                        rfl
                      refine take_ (i := 3) (N := some 59) (v := ?_) (a' := ?_) #[true, true, true, true, true, true, false, false, false, false, false, false, false] rfl rfl (by kernel_rfl) (fun _ _ _ h => h) (Or.inl ⟨by rfl, ?_⟩) hHeld ?_ ?_
                      rotate_left
                      · intro w' s0
                        go_simp
                        with_reducible rfl
                      rotate_left
                      · simp only [Act.put, List.setIfInBounds_toArray, List.set_cons_zero, List.set_cons_succ, i64_w, i32_w]
                        rfl
                      refine one_ (i := 6) (N := some 62) #[true, true, true, true, true, true, true, false, false, false, false, false, false] rfl rfl (by kernel_rfl) (by decide) (fun K hK => ?_)
                      refine goes_ Try.func57 (by kernel_rfl) rfl #[.int .i64 xx, .int .i64 i] (by rfl) rfl rfl (by simp only [List.map_toArray, List.map_cons, List.map_nil]; rfl) ?_
                      (with_reducible refine (spec_ttBit.calls xx i bb _ HBIT.out).mono ?_)
                      rintro e w_1 ⟨rfl, hd⟩
                      refine ⟨_, rfl, ?_⟩
                      have HO_1 := Aside0.mk (HD_16_12.out.below hd.below)
                      clear hd
                      refine hK.out _ _ ((HO_1.out.cell 6 rfl 0 rfl)) (fun hHeld => ?_)
                      clear hK K
                      refine norm_ (a' := ?_) ?_ ?_
                      rotate_left
                      · show Act.put _ (some 62) _ = _
                        simp only [Act.put, List.setIfInBounds_toArray, List.set_cons_zero, List.set_cons_succ, i64_w, i32_w]
                        rfl
                      refine pure_ (i := 7) (N := some 63) (v := ?_) (a' := ?_) #[true, true, true, true, true, true, true, true, false, false, false, false, false] rfl rfl (by kernel_rfl) (fun _ _ _ h => h) (Or.inl ⟨by rfl, ?_⟩) ?_ ?_
                      rotate_left
                      · intro w'
                        go_simp
                        with_reducible rfl
                      rotate_left
                      · simp only [Act.put, List.setIfInBounds_toArray, List.set_cons_zero, List.set_cons_succ, i64_w, i32_w]
                        rfl
                      refine pure_ (i := 8) (N := some 64) (v := ?_) (a' := ?_) #[true, true, true, true, true, true, true, true, true, false, false, false, false] rfl rfl (by kernel_rfl) (fun _ _ _ h => h) (Or.inl ⟨by rfl, ?_⟩) ?_ ?_
                      rotate_left
                      · intro w'
                        go_simp
                        with_reducible rfl
                      rotate_left
                      · simp only [Act.put, List.setIfInBounds_toArray, List.set_cons_zero, List.set_cons_succ, i64_w, i32_w]
                        rfl
                      refine pure_ (i := 9) (N := some 65) (v := ?_) (a' := ?_) #[true, true, true, true, true, true, true, true, true, true, false, false, false] rfl rfl (by kernel_rfl) (fun _ _ _ h => h) (Or.inl ⟨by rfl, ?_⟩) ?_ ?_
                      rotate_left
                      · intro w'
                        go_simp
                        with_reducible rfl
                      rotate_left
                      · simp only [Act.put, List.setIfInBounds_toArray, List.set_cons_zero, List.set_cons_succ, i64_w, i32_w]
                        rfl
                      refine one_ (i := 10) (N := some 66) #[true, true, true, true, true, true, true, true, true, true, true, false, false] rfl rfl (by kernel_rfl) (by decide) (fun K hK => ?_)
                      refine value_ (w1 := ?_) (v := ?_) (by rfl) rfl ?_ ?_
                      rotate_left 2
                      · go_simp
                        constructor
                        · rfl
                        · rfl
                      have HOb66 := Aside0.mk (HO_1.out.below (below_alloc (Below.refl _ _) (.cells #[.int .i64 (wrap64 (i + (wrap64 (((n : Int)) * (wrap64 (1 - bb))))))] 3)))
                      refine hK.out _ _ ((HOb66.out.cell 6 rfl 0 rfl)) (fun hHeld => ?_)
                      clear hK K
                      refine norm_ (a' := ?_) ?_ ?_
                      rotate_left
                      · show Act.put _ (some 66) _ = _
                        simp only [Act.put, List.setIfInBounds_toArray, List.set_cons_zero, List.set_cons_succ, i64_w, i32_w]
                        rfl
                      refine one_ (i := 11) (N := some 67) #[true, true, true, true, true, true, true, true, true, true, true, true, false] rfl rfl (by kernel_rfl) (by decide) (fun K hK => ?_)
                      refine Sep.own_append_step (Kd.int .i64) HO_1.out 2 _ ((tcWires (n : Int) xx i.toNat)) 3 rfl (by rfl) (.tmp 56) (.tmp 66) 24 (.int .i64 0) 8 rfl Try.underlying24 info3 rfl (by decide) (by omega) (wrap64 (i + (wrap64 (((n : Int)) * (wrap64 (1 - bb)))))) [.int .i64 (wrap64 (i + (wrap64 (((n : Int)) * (wrap64 (1 - bb))))))] rfl rfl rfl (by rw [tcWires_length]; have := HNN.out; omega) ?_
                      intro x_67 w_3 ho
                      have HO_3 := Aside0.mk ho
                      clear ho
                      refine hK.out _ _ ((HO_3.out.cell 6 rfl 0 rfl)) (fun hHeld => ?_)
                      clear hK K
                      refine norm_ (a' := ?_) ?_ ?_
                      rotate_left
                      · show Act.put _ (some 67) _ = _
                        simp only [Act.put, List.setIfInBounds_toArray, List.set_cons_zero, List.set_cons_succ, i64_w, i32_w]
                        rfl
                      refine pure_ (i := 12) (N := some 9) (v := ?_) (a' := ?_) #[true, true, true, true, true, true, true, true, true, true, true, true, true] rfl rfl (by kernel_rfl) (fun _ _ _ h => h) (Or.inl ⟨by rfl, ?_⟩) ?_ ?_
                      rotate_left
                      · intro w'
                        go_simp
                        with_reducible rfl
                      rotate_left
                      · simp only [Act.put, List.setIfInBounds_toArray, List.set_cons_zero, List.set_cons_succ, i64_w, i32_w]
                        rfl
                      refine done_ (by kernel_rfl) ?_
                      go_wp2
                      have hfin := HO_3.out
                      rw [HBW.out] at hfin
                      have HFIN := Aside0.mk hfin
                      clear hfin
                      go_roundw
                      case measure => simp only [intOf, hwi]; omega
                      case rel => exact ⟨i + 1, by omega, by omega, by first | rfl | rw [hwi], ⟨by rw [tcWires, Sep.iota_succ i hi0, List.map_append, List.map_singleton]; exact HFIN.out⟩⟩
                    · have c5b := decide_eq_false c5
                      obtain rfl : i = (n : Int) := by omega
                      have ho := HO.out
                      rw [Int.toNat_natCast] at ho
                      have HO1 := Aside0.mk ho
                      clear ho HO
                      have HO := HO1
                      clear HO1
                      obtain ⟨gw, cw, rfl⟩ := Sep.own_row_form HO.out 2 rfl (by rw [tcWires_length]; have := HNN.out; omega)
                      obtain ⟨wk, wr_, hwk⟩ : ∃ k r, tcWires (n : Int) xx n = k :: r := by
                        cases hc : tcWires (n : Int) xx n with
                        | nil => have e := tcWires_length (n : Int) xx n; rw [hc] at e; have := HNN.out; simp at e; omega
                        | cons k r => exact ⟨k, r, rfl⟩
                      have hwl := tcWires_length (n : Int) xx n
                      rw [hwk] at hwl
                      have HWL := Aside0.mk (show wr_.length + 1 = n from hwl)
                      have HWK := Aside0.mk hwk
                      rw [hwk] at HO
                      (try rw [hwk])
                      (try rw [List.length_cons])
                      (try rw [List.length_cons] at HO)
                      clear hwl hwk
                      have z_12 : wr.cell? ⟨gt, 0, none⟩ = some (.int .i64 ((n : Int))) := (HO.out.cell 6 rfl 0 rfl)
                      go_wp2_with (first | ((with_reducible refine gate_callee (f := 58) rfl ?_); refine goesL_ (some 70) rfl rfl Try.func58 (by kernel_rfl) rfl #[.pointer (some ⟨gc, 0, none⟩), .int .i64 1, .slice ((some ⟨gw, 0, none⟩)) ((wr_.length + 1)) cw] rfl (by (try simp only [List.map_toArray, List.map_cons, List.map_nil]); first | done | rfl) ?_; refine (spec_ciJoin.ext w (n : Int) (by have := HNN.out; omega) gc _ _ _ 1 wk wr_ (gs) (by have := HGL.out; have := HWL.out; have := HNN.out; have := HO16.out; omega) _ _ [Item.row (Kd.int .i64) 3 (u6) (ts), Item.row (Kd.int .i64) 3 (.slice ((some ado)) os.length c_q11) (os), Item.box gr 47 #[.int .i64 0, .slice none 0 0, .slice none 0 0], Item.box gt 50 #[.int .i64 ((n : Int)), .slice A0_1 l0_1.length c0_1]] (((HO.out.front 2 rfl).front 2 rfl).front 2 rfl)).mono ?_; rintro e w_1 ⟨rfl, A_j70, m_j70, c_j70, hm_, ho⟩; refine ⟨_, rfl, ?_⟩; generalize hgf_ : tcJoin (n : Int) 1 wr_ (gs) wk = RR_ at ho hm_ ⊢; obtain ⟨gf70, lf70⟩ := RR_; have HJ70 := Aside0.mk hgf_; have HM70 := Aside0.mk hm_.out; have HO_1 := Aside0.mk ho; clear ho hgf_ hm_) | ((with_reducible refine gate_dst (N := 72) rfl ?_); at_builtin; refine Sep.own_append (Kd.int .i64) HO_1.out 3 _ (ts) 3 rfl rfl (.tmp 68) (.tmp 71) 24 (.int .i64 0) 8 rfl Try.underlying24 info3 rfl (by decide) (by omega) lf70 [.int .i64 lf70] rfl rfl rfl (by have := HTL.out; have := HO16.out; omega) ?_; intro x_72 w_3 ho; have HO_3 := Aside0.mk ho; clear ho))
                      have hall : tcAll (n : Int) 1 gs (tcWires (n : Int) xx n) = (gf70, lf70) := by rw [HWK.out]; exact HJ70.out
                      have hgl : gf70.length = gs.length + wr_.length := by have e := tcJoin_length (n : Int) 1 wr_ gs wk; rw [HJ70.out] at e; exact e
                      have HGL2 := Aside0.mk hgl
                      have HALL := Aside0.mk hall
                      clear hgl hall
                      go_roundw
                      case measure => simp only [intOf, hwj]; omega
                      case rel => exact ⟨j + 1, gf70, ts ++ [lf70], _, _, _, by omega, by omega, by first | rfl | rw [hwj], ⟨by have e := HT2.out; rw [HALL.out] at e; exact e⟩, ⟨by have := HGL.out; have := HGL2.out; have := HWL.out; have := HNN.out; omega⟩, ⟨by rw [List.length_append, List.length_singleton]; have := HTL.out; omega⟩, ⟨(((((((HO_3.out.front 6 rfl).front 6 rfl).front 6 rfl).front 6 rfl).front 5 rfl).front 5 rfl).front 6 rfl).tail⟩⟩
                · have c4b := decide_eq_false c4
                  obtain rfl : j = (os.length : Int) := by omega
                  have hT := HT.out
                  rw [Int.toNat_natCast, List.drop_length, tcTerms] at hT
                  have HT2 := Aside0.mk hT
                  clear hT
                  have htn : 0 < ts.length := by have e := HTL.out; have e2 := List.length_pos_iff.mpr HNE.out; omega
                  obtain ⟨gw, cw, rfl⟩ := Sep.own_row_form HO.out 2 rfl htn
                  obtain ⟨wk, wr_, rfl⟩ : ∃ k r, ts = k :: r := by
                    cases ts with
                    | nil => simp at htn
                    | cons k r => exact ⟨k, r, rfl⟩
                  have HWL := Aside0.mk (show ((wr_.length : Int) + 1) = os.length from by have e := HTL.out; rw [List.length_cons] at e; omega)
                  (try rw [List.length_cons])
                  (try rw [List.length_cons] at HO)
                  clear htn
                  obtain ⟨u, hU, h2⟩ := Option.bind_eq_some_iff.mp H1.out
                  have HU := Aside0.mk hU
                  clear hU H1
                  cases u with
                  | false =>
                    rw [if_neg (by decide)] at h2
                    have h3 : ((0 : Int), ([] : List (S74)), ([] : List Int), false) = (r1, r2, r3, r4) := Option.some.inj h2
                    clear h2
                    injection h3 with e1 e2
                    injection e2 with e2 e3
                    injection e3 with e3 e4
                    subst e1
                    subst e2
                    subst e3
                    subst e4
                    go_wp2_with (first | ((with_reducible refine gate_callee (f := 58) rfl ?_); refine goesL_ (some 75) rfl rfl Try.func58 (by kernel_rfl) rfl #[.pointer (some ⟨gc, 0, none⟩), .int .i64 2, .slice ((some ⟨gw, 0, none⟩)) ((wr_.length + 1)) cw] rfl (by (try simp only [List.map_toArray, List.map_cons, List.map_nil]); first | done | rfl) ?_; refine (spec_ciJoin.ext w (n : Int) (by have := HNN.out; omega) gc _ _ _ 2 wk wr_ (gs) (by have := HGL.out; have := HWL.out; have := HNN.out; have := HO16.out; omega) _ _ [Item.row (Kd.int .i64) 3 (.slice A_q11 os.length c_q11) (os), Item.box gr 47 #[.int .i64 0, .slice none 0 0, .slice none 0 0], Item.box gt 50 #[.int .i64 ((n : Int)), .slice A0_1 l0_1.length c0_1]] (((HO.out.front 2 rfl).front 2 rfl).front 2 rfl)).mono ?_; rintro e w_1 ⟨rfl, A_j75, m_j75, c_j75, hm_, ho⟩; refine ⟨_, rfl, ?_⟩; generalize hgf_ : tcJoin (n : Int) 2 wr_ (gs) wk = RR_ at ho hm_ ⊢; obtain ⟨gf75, lf75⟩ := RR_; have HJ75 := Aside0.mk hgf_; have HM75 := Aside0.mk hm_.out; have HO_1 := Aside0.mk ho; clear ho hgf_ hm_; obtain ⟨hm_⟩ := HM75; subst hm_; have HMADE := Aside0.mk (show tcMade n os = (gf75, lf75) from by unfold tcMade; rw [← HT2.out]; exact HJ75.out)) | ((with_reducible refine gate_dst (N := 76) rfl ?_); refine Sep.own_lit1 (Value.int .i64) (h1 := fun _ => rfl) HO_1.out 3 lf75 ?hg (N := 76) ?hd ?hr ?_; (case hd => rfl); (case hg => rfl); (case hr => first | (go_simp; done) | (go_simp; rfl)); intro x_76 w_2 ho _; obtain ⟨A_76, n_76, c_76, hn_, rfl⟩ := ho.row_seal 0 rfl; obtain rfl : n_76 = 1 := hn_; have HO_2 := Aside0.mk ho; clear ho) | ((with_reducible refine gate_store (t := 24) (p := 77) (v := .tmp 76) rfl ?_); refine Sep.own_store_at HO_2.out 1 gc 47 _ rfl rfl rfl 24 (.tmp 77) (.tmp 76) rfl 2 rfl (.slice A_76 1 c_76) rfl rfl (by kernel_rfl) rfl (by simp) ?_; intro w_3 ho; have HO_3 := Aside0.mk ho; clear ho; have z_12 : w_3.cell? ⟨gc, 0, none⟩ = some (.int .i64 ((n : Int))) := (HO_3.out.cell 1 rfl 0 rfl); have z_13 : w_3.cell? ⟨gc, 1, none⟩ = some (.slice A_j75 gf75.length c_j75) := (HO_3.out.cell 1 rfl 1 rfl); have z_14 : w_3.cell? ⟨gc, 2, none⟩ = some (.slice A_76 1 c_76) := (HO_3.out.cell 1 rfl 2 rfl)) | ((with_reducible refine gate_callee (f := 59) rfl ?_); refine goesL_ (some 79) rfl rfl Try.func59 (by kernel_rfl) rfl #[.agg #[.int .i64 ((n : Int)), .slice A_j75 gf75.length c_j75, .slice A_76 1 c_76]] rfl (by (try simp only [List.map_toArray, List.map_cons, List.map_nil]); first | done | rfl) ?_; have HU2 := Aside0.mk (show spec_ciGood.f k (n : Int) gf75 [lf75] = some false from by have e := HU.out; rw [HMADE.out] at e; exact e); (refine (spec_ciGood.calls k (n : Int) _ _ gf75 _ _ [lf75] false _ (by exact (HO_3.out.row_reads 2 rfl).2.2) (by exact (HO_3.out.row_reads 2 rfl).2.1) (by exact (HO_3.out.row_reads 0 rfl).2.2) (by exact (HO_3.out.row_reads 0 rfl).2.1) HU2.out).mono ?_); rintro e w_4 ⟨rfl, hb⟩; refine ⟨_, rfl, ?_⟩; have HO_4 := Aside0.mk (HO_3.out.below hb); clear hb) | ((with_reducible refine gate_store (t := 47) (p := 2) (v := .tmp 81) rfl ?_); refine Sep.own_store HO_4.out 5 gr 47 _ #[.int .i64 0, .slice none 0 0, .slice none 0 0] rfl rfl rfl 47 (.tmp 2) (.tmp 81) rfl rfl _ rfl rfl rfl (by kernel_rfl) (by simp [Value.oneCell']) ?_; intro w_5 ho; have HO_5 := Aside0.mk ho; clear ho))
                    (try simp only [Exit.inBlock, Exit.then])
                    refine bodyPost_ret (results_ct rfl _ _ gr 47 #[.int .i64 0, .slice none 0 0, .slice none 0 0] (0, 0) _ rfl (HO_5.out.blk 5 rfl) Try.underlying47 rfl (by kernel_rfl)) rfl ?_
                    exact ⟨_, _, rfl, Kd.R_nil _ _ _ _ _, Kd.R_nil _ _ _ _ _, HO_5.out.base⟩
                  | true =>
                    rw [if_pos rfl] at h2
                    have h3 := Option.some.inj h2
                    clear h2
                    have HF := Aside0.mk h3
                    clear h3
                    go_wp2_with (first | ((with_reducible refine gate_callee (f := 58) rfl ?_); refine goesL_ (some 75) rfl rfl Try.func58 (by kernel_rfl) rfl #[.pointer (some ⟨gc, 0, none⟩), .int .i64 2, .slice ((some ⟨gw, 0, none⟩)) ((wr_.length + 1)) cw] rfl (by (try simp only [List.map_toArray, List.map_cons, List.map_nil]); first | done | rfl) ?_; refine (spec_ciJoin.ext w (n : Int) (by have := HNN.out; omega) gc _ _ _ 2 wk wr_ (gs) (by have := HGL.out; have := HWL.out; have := HNN.out; have := HO16.out; omega) _ _ [Item.row (Kd.int .i64) 3 (.slice A_q11 os.length c_q11) (os), Item.box gr 47 #[.int .i64 0, .slice none 0 0, .slice none 0 0], Item.box gt 50 #[.int .i64 ((n : Int)), .slice A0_1 l0_1.length c0_1]] (((HO.out.front 2 rfl).front 2 rfl).front 2 rfl)).mono ?_; rintro e w_1 ⟨rfl, A_j75, m_j75, c_j75, hm_, ho⟩; refine ⟨_, rfl, ?_⟩; generalize hgf_ : tcJoin (n : Int) 2 wr_ (gs) wk = RR_ at ho hm_ ⊢; obtain ⟨gf75, lf75⟩ := RR_; have HJ75 := Aside0.mk hgf_; have HM75 := Aside0.mk hm_.out; have HO_1 := Aside0.mk ho; clear ho hgf_ hm_; obtain ⟨hm_⟩ := HM75; subst hm_; have HMADE := Aside0.mk (show tcMade n os = (gf75, lf75) from by unfold tcMade; rw [← HT2.out]; exact HJ75.out)) | ((with_reducible refine gate_dst (N := 76) rfl ?_); refine Sep.own_lit1 (Value.int .i64) (h1 := fun _ => rfl) HO_1.out 3 lf75 ?hg (N := 76) ?hd ?hr ?_; (case hd => rfl); (case hg => rfl); (case hr => first | (go_simp; done) | (go_simp; rfl)); intro x_76 w_2 ho _; obtain ⟨A_76, n_76, c_76, hn_, rfl⟩ := ho.row_seal 0 rfl; obtain rfl : n_76 = 1 := hn_; have HO_2 := Aside0.mk ho; clear ho) | ((with_reducible refine gate_store (t := 24) (p := 77) (v := .tmp 76) rfl ?_); refine Sep.own_store_at HO_2.out 1 gc 47 _ rfl rfl rfl 24 (.tmp 77) (.tmp 76) rfl 2 rfl (.slice A_76 1 c_76) rfl rfl (by kernel_rfl) rfl (by simp) ?_; intro w_3 ho; have HO_3 := Aside0.mk ho; clear ho; have z_12 : w_3.cell? ⟨gc, 0, none⟩ = some (.int .i64 ((n : Int))) := (HO_3.out.cell 1 rfl 0 rfl); have z_13 : w_3.cell? ⟨gc, 1, none⟩ = some (.slice A_j75 gf75.length c_j75) := (HO_3.out.cell 1 rfl 1 rfl); have z_14 : w_3.cell? ⟨gc, 2, none⟩ = some (.slice A_76 1 c_76) := (HO_3.out.cell 1 rfl 2 rfl)) | ((with_reducible refine gate_callee (f := 59) rfl ?_); refine goesL_ (some 79) rfl rfl Try.func59 (by kernel_rfl) rfl #[.agg #[.int .i64 ((n : Int)), .slice A_j75 gf75.length c_j75, .slice A_76 1 c_76]] rfl (by (try simp only [List.map_toArray, List.map_cons, List.map_nil]); first | done | rfl) ?_; have HU2 := Aside0.mk (show spec_ciGood.f k (n : Int) gf75 [lf75] = some true from by have e := HU.out; rw [HMADE.out] at e; exact e); (refine (spec_ciGood.calls k (n : Int) _ _ gf75 _ _ [lf75] true _ (by exact (HO_3.out.row_reads 2 rfl).2.2) (by exact (HO_3.out.row_reads 2 rfl).2.1) (by exact (HO_3.out.row_reads 0 rfl).2.2) (by exact (HO_3.out.row_reads 0 rfl).2.1) HU2.out).mono ?_); rintro e w_4 ⟨rfl, hb⟩; refine ⟨_, rfl, ?_⟩; have HO_4 := Aside0.mk (HO_3.out.below hb); clear hb; have z_15 : w_4.cell? ⟨gc, 0, none⟩ = some (.int .i64 ((n : Int))) := (HO_4.out.cell 1 rfl 0 rfl); have z_16 : w_4.cell? ⟨gc, 1, none⟩ = some (.slice A_j75 gf75.length c_j75) := (HO_4.out.cell 1 rfl 1 rfl); have z_17 : w_4.cell? ⟨gc, 2, none⟩ = some (.slice A_76 1 c_76) := (HO_4.out.cell 1 rfl 2 rfl)) | ((with_reducible refine gate_store (t := 47) (p := 2) (v := .tmp 82) rfl ?_); refine Sep.own_store HO_4.out 5 gr 47 _ #[.int .i64 ((n : Int)), .slice A_j75 gf75.length c_j75, .slice A_76 1 c_76] rfl rfl rfl 47 (.tmp 2) (.tmp 82) rfl rfl _ rfl rfl rfl (by kernel_rfl) (by simp [Value.oneCell']) ?_; intro w_5 ho; have HO_5 := Aside0.mk ho; clear ho))
                    (try simp only [Exit.inBlock, Exit.then])
                    refine bodyPost_ret (results_ct rfl _ _ gr 47 #[.int .i64 ((n : Int)), .slice A_j75 gf75.length c_j75, .slice A_76 1 c_76] (0, 0) _ rfl (HO_5.out.blk 5 rfl) Try.underlying47 rfl (by kernel_rfl)) rfl ?_
                    have h3 := HF.out
                    rw [HMADE.out] at h3
                    injection h3 with e1 e2
                    injection e2 with e2 e3
                    injection e3 with e3 e4
                    subst e1
                    subst e2
                    subst e3
                    subst e4
                    obtain ⟨P1, hP1⟩ := HO_5.out.get 2 rfl
                    obtain ⟨P2, hP2⟩ := HO_5.out.get 0 rfl
                    exact ⟨_, _, rfl, Kd.R_mono hP1 (fun _ _ => trivial), Kd.R_mono hP2 (fun _ _ => trivial), HO_5.out.base⟩
        · cases h1

/-! ### laws_toIntS: function 37 -/
def laws_toIntS.l0 : Nat → List Int → List Int → Int → Option (List Int)
  | 0, _, _, _ => none
  | k + 1, x0, x3, x4 => if x4 < (x0.length : Int) then (if 0 ≤ x4 then (if x4 < (x3.length : Int) then (laws_toIntS.l0 k x0 (x3.set (x4 : Int).toNat (rd x0 x4)) (wrap64 (x4 + 1))) else (none)) else (none)) else (some x3)
def laws_toIntS.f (k : Nat) (l0 : List Int) : Option (List Int) := if 0 ≤ (l0.length : Int) then (if ((l0.length : Int) : Int).toNat ≤ 35184372088832 then (laws_toIntS.l0 k l0 (List.replicate ((l0.length : Int) : Int).toNat 0) 0) else (none)) else (none)
theorem laws_toIntS.mono_l : ∀ k, (∀ y0 y1 y2, LeO (laws_toIntS.l0 k y0 y1 y2) (laws_toIntS.l0 (k + 1) y0 y1 y2))
  | 0 => fun _ _ _ r h => by simp [laws_toIntS.l0] at h
  | k + 1 => by
    have ih0 := laws_toIntS.mono_l k
    · intro y0 y1 y2
      unfold laws_toIntS.l0
      repeat' first
      | (with_reducible exact ih0 _ _ _)
      | (with_reducible exact LeO.refl _)
      | (with_reducible exact LeO.none _)
      | (with_reducible refine LeO.ite ?_ ?_)
      | (with_reducible refine LeO.bind ?_ (fun _ => ?_))
      | exact ih0 _ _ _
      | exact LeO.none _
      | refine LeO.ite ?_ ?_
      | refine LeO.bind ?_ (fun _ => ?_)
theorem laws_toIntS.mono : ∀ a0 k, LeO (laws_toIntS.f k a0) (laws_toIntS.f (k + 1) a0) := by
  intro a0 k
  have ih0 := laws_toIntS.mono_l k
  unfold laws_toIntS.f
  repeat' first
      | (with_reducible exact ih0 _ _ _)
      | (with_reducible exact LeO.refl _)
      | (with_reducible exact LeO.none _)
      | (with_reducible refine LeO.ite ?_ ?_)
      | (with_reducible refine LeO.bind ?_ (fun _ => ?_))
      | exact ih0 _ _ _
      | exact LeO.none _
      | refine LeO.ite ?_ ?_
      | refine LeO.bind ?_ (fun _ => ?_)
set_option maxHeartbeats 8000000 in
set_option maxRecDepth 100000 in
theorem laws_toIntS.calls (k : Nat) (A0 : Option Addr) (c0 : Nat) (l0 : List Int) (r : List Int) (w : World) (hr0 : Kd.C (Kd.int .i64) w A0 l0.length l0) (hc0 : l0.length ≤ c0) (h : laws_toIntS.f k l0 = some r) :
    Calls Try.prog 37 #[.slice A0 l0.length c0] w fun e w' => ∃ v0_ : Value, e = .returned (v0_) ∧ Kd.R (Kd.int .i64) 3 w' w.heap.size (fun _ => True) v0_ r ∧ Below w.heap.size w w' := by
  have HR0 := Aside0.mk hr0
  have HC0 := Aside0.mk hc0
  clear hr0 hc0
  have HB := Aside0.mk (Below.refl w.heap.size w)
  have H : (if 0 ≤ (l0.length : Int) then (if ((l0.length : Int) : Int).toNat ≤ 35184372088832 then (laws_toIntS.l0 k l0 (List.replicate ((l0.length : Int) : Int).toNat 0) 0) else (none)) else (none)) = some r := h
  clear h
  by_cases c2 : 0 ≤ (l0.length : Int)
  · rw [if_pos c2] at H
    have c2b0 := eq_true c2
    have c2b1 : decide (0 ≤ (l0.length : Int)) = true := decide_eq_true c2
    clear c2
    by_cases c3 : ((l0.length : Int) : Int).toNat ≤ 35184372088832
    · rw [if_pos c3] at H
      have c3b0 := eq_true c3
      have c3b1 : decide (((l0.length : Int) : Int).toNat ≤ 35184372088832) = true := decide_eq_true c3
      clear c3
      obtain ⟨y123, hy123⟩ : ∃ y_ : List Int, y_ = (List.replicate ((l0.length : Int) : Int).toNat 0) := ⟨_, rfl⟩
      replace H : (laws_toIntS.l0 k l0 y123 0) = some r := by first | (rw [hy123]; with_reducible exact H) | (have H2_ := (Option.bind_some _ _).symm.trans H; rw [hy123]; with_reducible exact H2_) | (have H2_ := (Option.bind_some _ _).symm.trans H; with_reducible exact H2_) | with_reducible exact H | (rw [hy123]; exact H) | exact H
      have Ny123 := Aside0.mk hy123
      clear hy123
      have H' := Aside0.mk H
      clear H
      go_enter Try.func37, Try.ntmps37
      go_wp2_with (first | ((with_reducible refine gate_dst (N := 7) rfl ?_); refine Kd.R_make (Kd.int .i64) _ 3 rfl (N := 7) rfl 24 _ _ rfl (l0.length : Int) rfl rfl Try.underlying24 (.int .i64 0) 8 info3 rfl (by decide) (by omega) 0 (ok := fun _ => True) (okp := fun _ => True) rfl (fun _ hk => hk) trivial (of_decide_eq_true (by first | (with_reducible assumption) | assumption)) (Nat.le_trans (Nat.mul_le_mul_right _ (of_decide_eq_true (by first | (with_reducible assumption) | assumption) : (l0.length : Int).toNat ≤ 35184372088832)) (by omega)) (Below.refl _ _) (Nat.le_refl _) ?_; intro v124 w4 ho5 hb hg_ hnew_; clear hg_ hnew_; (first | rw [← Ny123.out] at ho5 | (simp only [Int.reduceToNat] at ho5; rw [← Ny123.out] at ho5)); have n0_ := Aside0.mk (Kd.R_lower ho5 (below_size (by repeat (first | (with_reducible first | exact HB.out | apply below_alloc | apply pw_below_drewN | apply below_drew1) | exact HB.out)))); have n1_ := Aside0.mk (below_step (by repeat (first | (with_reducible first | exact HB.out | apply below_alloc | apply pw_below_drewN | apply below_drew1) | exact HB.out)) hb); clear HB; have HO125 := n0_; have HB := n1_; clear n0_ n1_; clear hb ho5))
      go_loopg [4] k (fun kq v4 w' => ∃ (x3_1 : List Int) (x4_1 : Int), v4 = .int .i64 x4_1 ∧ Aside0 (laws_toIntS.l0 kq l0 x3_1 x4_1 = some r) ∧ Aside0 (kq ≤ k) ∧ Aside0 (Kd.R (Kd.int .i64) 3 w' w.heap.size (fun _ => True) v124 x3_1) ∧ Aside0 (Below w.heap.size w w'))
      case atStart => exact ⟨(y123), (0), (by first | rfl | (simp; done) | (simp [*]; done)), H', ⟨Nat.le_refl _⟩, ⟨by (with_reducible repeat (first | apply Kd.R_alloc | apply Kd.R_drewN | apply Kd.R_drew)); exact HO125.out⟩, ⟨by repeat (first | (with_reducible first | exact HB.out | apply below_alloc | apply pw_below_drewN | apply below_drew1) | exact HB.out)⟩⟩
      case round =>
        clear H'
        try clear c2
        try clear c2b0
        try clear c2b1
        try clear p2
        try clear c3
        try clear c3b0
        try clear c3b1
        obtain ⟨x3_1, x4_1, rfl, HA, HK1, HO_3, HB⟩ := hrel
        cases gk with
        | zero => exact absurd HA.out (by simp [laws_toIntS.l0])
        | succ k1 =>
          have H := HA.out
          clear HA
          simp only [laws_toIntS.l0] at H
          by_cases c6 : x4_1 < (l0.length : Int)
          · rw [if_pos c6] at H
            have c6b0 : decide (x4_1 < (l0.length : Int)) = true := decide_eq_true c6
            clear c6
            by_cases c7 : 0 ≤ x4_1
            · rw [if_pos c7] at H
              have c7b0 : decide (0 ≤ x4_1) = true := decide_eq_true c7
              clear c7
              by_cases c8 : x4_1 < (x3_1.length : Int)
              · rw [if_pos c8] at H
                have c8b0 : decide (x4_1 < (x3_1.length : Int)) = true := decide_eq_true c8
                clear c8
                obtain ⟨y127, hy127⟩ : ∃ y_ : List Int, y_ = (x3_1.set (x4_1 : Int).toNat (rd l0 x4_1)) := ⟨_, rfl⟩
                replace H : (laws_toIntS.l0 k1 l0 y127 (wrap64 (x4_1 + 1))) = some r := by first | (rw [hy127]; with_reducible exact H) | (have H2_ := (Option.bind_some _ _).symm.trans H; rw [hy127]; with_reducible exact H2_) | (have H2_ := (Option.bind_some _ _).symm.trans H; with_reducible exact H2_) | with_reducible exact H | (rw [hy127]; exact H) | exact H
                have Ny127 := Aside0.mk hy127
                clear hy127
                have H' := Aside0.mk H
                clear H
                have p126 : 0 ≤ (x4_1 : Int) := of_decide_eq_true (by first | (with_reducible assumption) | assumption)
                have q126 : x4_1 < (l0.length : Int) := of_decide_eq_true (by first | (with_reducible assumption) | assumption)
                obtain ⟨ad126, e126, hx126_0⟩ := Kd.at_int HR0.out x4_1 p126 q126
                cases e126
                (try (replace hx126_0 := (HB.out.cell (World.block_lt_of_cell? w _ hx126_0)).trans hx126_0))
                replace p126 := eq_true p126
                replace q126 := eq_true q126
                have p9 : 0 ≤ (x4_1 : Int) := of_decide_eq_true (by first | (with_reducible assumption) | assumption)
                have q9 : (x4_1 : Int) < ((x3_1.length : Int) : Int) := of_decide_eq_true (by first | (with_reducible assumption) | assumption)
                obtain ⟨go9, co9, eo9, gb9, gl9, cl9, HG9⟩ := Kd.R_form HO_3.out (by omega)
                (first | cases eo9 | (injection eo9 with ea_ en_ ec_; (first | subst ea_ | (injection ea_ with ea_; subst ea_)); subst ec_; clear en_))
                have GB9 := Aside0.mk gb9
                have GG9 := Aside0.mk HG9
                clear gb9 gl9 HG9
                obtain ⟨hx9_0, hf9_0⟩ := Kd.R_celln 0 HO_3.out (x4_1 : Int) p9 q9
                replace p9 := eq_true p9
                replace q9 := eq_true q9
                have HP10 := Kd.R_putg HO_3.out (x4_1 : Int) (rd l0 x4_1)
                go_wp2_with (first | ((with_reducible refine gate_store (t := 3) (p := 20) rfl ?_); refine store_event (t := 3) (p := 20) (v := ?vo_w11) (w1 := (wr.setCell ⟨go9, (x4_1 : Int).toNat, none⟩ (.int .i64 (rd l0 x4_1)))) ?hg ?ho ?hn ?hr ?_; (case ho => rfl); (case hg => rfl); (case hn => rfl); (case hr => first | (go_simp; done) | (go_simp; rfl)); intro w11 hw; have hg : wr.grownBy w11 (some go9) := (by rw [hw]; exact HP10.2); have hp_ : Kd.R (Kd.int .i64) 3 w11 w.heap.size (fun _ => True) (.slice (some ⟨go9, 0, none⟩) x3_1.length co9) y127 := (by rw [hw, Ny127.out]; exact HP10.1); clear HP10; have n0_ := Aside0.mk (hp_); have n1_ := Aside0.mk ((by rw [hw]; exact below_set (HB.out) GB9.out : Below w.heap.size w w11)); clear HO_3; clear HB; have HO_3 := n0_; have HB := n1_; clear n0_ n1_; clear hg hw hp_))
                go_roundg k1
                case measure => have := HK1.out; omega
                case rel => exact ⟨(y127), (wrap64 (x4_1 + 1)), (by first | rfl | (simp; done) | (simp [*]; done)), H', ⟨by have := HK1.out; omega⟩, ⟨by (with_reducible repeat (first | apply Kd.R_alloc | apply Kd.R_drewN | apply Kd.R_drew)); exact HO_3.out⟩, ⟨by repeat (first | (with_reducible first | exact HB.out | apply below_alloc | apply pw_below_drewN | apply below_drew1) | exact HB.out)⟩⟩
              · rw [if_neg c8] at H
                exact absurd H (by simp)
            · rw [if_neg c7] at H
              exact absurd H (by simp)
          · rw [if_neg c6] at H
            have c6b0 : decide (x4_1 < (l0.length : Int)) = false := decide_eq_false c6
            clear c6
            obtain rfl := Option.some.inj H
            go_wp2
            go_ret
            exact ⟨_, by first | rfl | (simp [errW_none, errW_some] <;> rfl) | (simp [*, errW_none, errW_some] <;> rfl), by (with_reducible repeat (first | apply Kd.R_alloc | apply Kd.R_drewN | apply Kd.R_drew)); exact HO_3.out, by repeat (first | (with_reducible first | exact HB.out | apply below_alloc | apply pw_below_drewN | apply below_drew1) | exact HB.out)⟩
    · rw [if_neg c3] at H
      exact absurd H (by simp)
  · rw [if_neg c2] at H
    exact absurd H (by simp)

/-! ### laws_toTable: function 26 -/
def laws_toTable.f (k : Nat) (a0_0 : Int) (l0_1 : List Int) : Option (Int × List Int) := (laws_toIntS.f k l0_1).bind fun t131 => (some (a0_0, t131))
theorem laws_toTable.mono : ∀ a0 a1 k, LeO (laws_toTable.f k a0 a1) (laws_toTable.f (k + 1) a0 a1) := by
  intro a0 a1 k
  unfold laws_toTable.f
  repeat' first
      | (with_reducible exact laws_toIntS.mono _ _)
      | (with_reducible exact LeO.refl _)
      | (with_reducible exact LeO.none _)
      | (with_reducible refine LeO.ite ?_ ?_)
      | (with_reducible refine LeO.bind ?_ (fun _ => ?_))
      | exact laws_toIntS.mono _ _
      | exact LeO.none _
      | refine LeO.ite ?_ ?_
      | refine LeO.bind ?_ (fun _ => ?_)
set_option maxHeartbeats 8000000 in
set_option maxRecDepth 100000 in
theorem laws_toTable.calls (k : Nat) (a0_0 : Int) (A0_1 : Option Addr) (c0_1 : Nat) (l0_1 : List Int) (r1 : Int) (r2 : List Int) (w : World) (hr0_1 : Kd.C (Kd.int .i64) w A0_1 l0_1.length l0_1) (hc0_1 : l0_1.length ≤ c0_1) (h : laws_toTable.f k a0_0 l0_1 = some (r1, r2)) :
    Calls Try.prog 26 #[.agg #[.int .i64 a0_0, .slice A0_1 l0_1.length c0_1]] w fun e w' => ∃ v1_ : Value, e = .returned (.agg #[.int .i64 r1, v1_]) ∧ Kd.R (Kd.int .i64) 3 w' w.heap.size (fun _ => True) v1_ r2 ∧ Below w.heap.size w w' := by
  have hu43 := Try.underlying43
  have hu50 := Try.underlying50
  have HR0_1 := Aside0.mk hr0_1
  have HC0_1 := Aside0.mk hc0_1
  clear hr0_1 hc0_1
  have HB := Aside0.mk (Below.refl w.heap.size w)
  have H : ((laws_toIntS.f k l0_1).bind fun t131 => (some (a0_0, t131))) = some (r1, r2) := h
  clear h
  replace H := Option.bind_eq_some_iff.mp H
  obtain ⟨t131, A20, H⟩ := H
  replace H : (some (a0_0, t131)) = some (r1, r2) := H
  have A2 := Aside0.mk A20
  clear A20
  simp only [Option.some.injEq, Prod.mk.injEq] at H
  obtain ⟨rfl, rfl⟩ := H
  go_enter Try.func26, Try.ntmps26
  go_wp2_with (first | ((with_reducible refine gate_dst (N := 1) rfl ?_); refine box_event ?hg (N := 1) ?hd (cs := #[.int .i64 a0_0, .slice A0_1 l0_1.length c0_1]) (t := 43) ?hr ?_; (case hd => rfl); (case hg => rfl); (case hr => first | (go_simp; done) | (go_simp; rfl)); intro gb128 hg w3 hbox hb; have n0_ := Aside0.mk (below_step (by repeat (first | (with_reducible first | exact HB.out | apply below_alloc | apply pw_below_drewN | apply below_drew1) | exact HB.out)) hb); have n1_ := Aside0.mk (hbox); have n2_ := Aside0.mk ((by rw [hg]; exact (below_size (by repeat (first | (with_reducible first | exact HB.out | apply below_alloc | apply pw_below_drewN | apply below_drew1) | exact HB.out))) : w.heap.size ≤ gb128)); have n3_ := Aside0.mk ((by rw [hg]; exact (below_size (by repeat (first | (with_reducible first | exact HB.out | apply below_alloc | apply pw_below_drewN | apply below_drew1) | exact HB.out))) : w.heap.size ≤ gb128)); clear HB; have HB := n0_; have BK128 := n1_; have GW128 := n2_; have GE128 := n3_; clear n0_ n1_ n2_ n3_; clear hb hbox hg) | ((with_reducible refine gate_dst (N := 2) rfl ?_); refine box_event ?hg (N := 2) ?hd (cs := #[.int .i64 0, .slice none 0 0]) (t := 50) ?hr ?_; (case hd => rfl); (case hg => rfl); (case hr => first | (go_simp; done) | (go_simp; rfl)); intro gb129 hg w4 hbox hb; have n0_ := Aside0.mk (blk_below (g := gb128) (o := .cells #[.int .i64 a0_0, .slice A0_1 l0_1.length c0_1] 43 (0, 0)) (by (with_reducible repeat (first | refine blk_drewN ?_ _ | refine blk_drew ?_ | refine blk_alloc ?_ _)); exact BK128.out) hb); have n1_ := Aside0.mk (below_step (by repeat (first | (with_reducible first | exact HB.out | apply below_alloc | apply pw_below_drewN | apply below_drew1 | refine below_set ?_ GE128.out) | exact HB.out)) hb); have n2_ := Aside0.mk (hbox); have n3_ := Aside0.mk ((by rw [hg]; exact (below_size (by repeat (first | (with_reducible first | exact HB.out | apply below_alloc | apply pw_below_drewN | apply below_drew1 | refine below_set ?_ GE128.out) | exact HB.out))) : w.heap.size ≤ gb129)); have n4_ := Aside0.mk ((by rw [hg]; exact (below_size (by repeat (first | (with_reducible first | exact HB.out | apply below_alloc | apply pw_below_drewN | apply below_drew1 | refine below_set ?_ GE128.out) | exact HB.out))) : w.heap.size ≤ gb129)); have n5_ := Aside0.mk ((by rw [hg]; exact Nat.ne_of_lt (blk_lt (g := gb128) (o := .cells #[.int .i64 a0_0, .slice A0_1 l0_1.length c0_1] 43 (0, 0)) (by (with_reducible repeat (first | refine blk_drewN ?_ _ | refine blk_drew ?_ | refine blk_alloc ?_ _)); exact BK128.out)) : gb128 ≠ gb129)); have n6_ := Aside0.mk ((by rw [hg]; exact Nat.ne_of_gt (blk_lt (g := gb128) (o := .cells #[.int .i64 a0_0, .slice A0_1 l0_1.length c0_1] 43 (0, 0)) (by (with_reducible repeat (first | refine blk_drewN ?_ _ | refine blk_drew ?_ | refine blk_alloc ?_ _)); exact BK128.out)) : gb129 ≠ gb128)); clear BK128; clear HB; have BK128 := n0_; have HB := n1_; have BK129 := n2_; have GW129 := n3_; have GE129 := n4_; have NB128_129 := n5_; have NB129_128 := n6_; clear n0_ n1_ n2_ n3_ n4_ n5_ n6_; clear hb hbox hg) | ((with_reducible refine gate_dst (N := 3) rfl ?_); refine box_event ?hg (N := 3) ?hd (cs := #[.int .i64 0, .slice none 0 0]) (t := 50) ?hr ?_; (case hd => rfl); (case hg => rfl); (case hr => first | (go_simp; done) | (go_simp; rfl)); intro gb130 hg w5 hbox hb; have n0_ := Aside0.mk (blk_below (g := gb128) (o := .cells #[.int .i64 a0_0, .slice A0_1 l0_1.length c0_1] 43 (0, 0)) (by (with_reducible repeat (first | refine blk_drewN ?_ _ | refine blk_drew ?_ | refine blk_alloc ?_ _)); exact BK128.out) hb); have n1_ := Aside0.mk (blk_below (g := gb129) (o := .cells #[.int .i64 0, .slice none 0 0] 50 (0, 0)) (by (with_reducible repeat (first | refine blk_drewN ?_ _ | refine blk_drew ?_ | refine blk_alloc ?_ _)); exact BK129.out) hb); have n2_ := Aside0.mk (below_step (by repeat (first | (with_reducible first | exact HB.out | apply below_alloc | apply pw_below_drewN | apply below_drew1 | refine below_set ?_ GE128.out | refine below_set ?_ GE129.out) | exact HB.out)) hb); have n3_ := Aside0.mk (hbox); have n4_ := Aside0.mk ((by rw [hg]; exact (below_size (by repeat (first | (with_reducible first | exact HB.out | apply below_alloc | apply pw_below_drewN | apply below_drew1 | refine below_set ?_ GE128.out | refine below_set ?_ GE129.out) | exact HB.out))) : w.heap.size ≤ gb130)); have n5_ := Aside0.mk ((by rw [hg]; exact (below_size (by repeat (first | (with_reducible first | exact HB.out | apply below_alloc | apply pw_below_drewN | apply below_drew1 | refine below_set ?_ GE128.out | refine below_set ?_ GE129.out) | exact HB.out))) : w.heap.size ≤ gb130)); have n6_ := Aside0.mk ((by rw [hg]; exact Nat.ne_of_lt (blk_lt (g := gb128) (o := .cells #[.int .i64 a0_0, .slice A0_1 l0_1.length c0_1] 43 (0, 0)) (by (with_reducible repeat (first | refine blk_drewN ?_ _ | refine blk_drew ?_ | refine blk_alloc ?_ _)); exact BK128.out)) : gb128 ≠ gb130)); have n7_ := Aside0.mk ((by rw [hg]; exact Nat.ne_of_gt (blk_lt (g := gb128) (o := .cells #[.int .i64 a0_0, .slice A0_1 l0_1.length c0_1] 43 (0, 0)) (by (with_reducible repeat (first | refine blk_drewN ?_ _ | refine blk_drew ?_ | refine blk_alloc ?_ _)); exact BK128.out)) : gb130 ≠ gb128)); have n8_ := Aside0.mk ((by rw [hg]; exact Nat.ne_of_lt (blk_lt (g := gb129) (o := .cells #[.int .i64 0, .slice none 0 0] 50 (0, 0)) (by (with_reducible repeat (first | refine blk_drewN ?_ _ | refine blk_drew ?_ | refine blk_alloc ?_ _)); exact BK129.out)) : gb129 ≠ gb130)); have n9_ := Aside0.mk ((by rw [hg]; exact Nat.ne_of_gt (blk_lt (g := gb129) (o := .cells #[.int .i64 0, .slice none 0 0] 50 (0, 0)) (by (with_reducible repeat (first | refine blk_drewN ?_ _ | refine blk_drew ?_ | refine blk_alloc ?_ _)); exact BK129.out)) : gb130 ≠ gb129)); clear BK128; clear BK129; clear HB; have BK128 := n0_; have BK129 := n1_; have HB := n2_; have BK130 := n3_; have GW130 := n4_; have GE130 := n5_; have NB128_130 := n6_; have NB130_128 := n7_; have NB129_130 := n8_; have NB130_129 := n9_; clear n0_ n1_ n2_ n3_ n4_ n5_ n6_ n7_ n8_ n9_; clear hb hbox hg; have hnb6 := NB128_129.out; have hnc6 := NB129_128.out; have hnb7 := NB128_130.out; have hnc7 := NB130_128.out; have hcz8_0 : w5.cell? ⟨gb128, 0, none⟩ = some (.int .i64 a0_0) := (blk_cell BK128.out 0).trans rfl; have hcz8_1 : w5.cell? ⟨gb128, 1, none⟩ = some (.slice A0_1 l0_1.length c0_1) := (blk_cell BK128.out 1).trans rfl; have hfz8_0 := blk_frozen BK128.out 0; have hfz8_1 := blk_frozen BK128.out 1; have hnb9 := NB130_129.out; have hnc9 := NB129_130.out; have hcz10_0 : w5.cell? ⟨gb130, 0, none⟩ = some (.int .i64 0) := (blk_cell BK130.out 0).trans rfl; have hcz10_1 : w5.cell? ⟨gb130, 1, none⟩ = some (.slice none 0 0) := (blk_cell BK130.out 1).trans rfl; have hfz10_0 := blk_frozen BK130.out 0; have hfz10_1 := blk_frozen BK130.out 1) | ((with_reducible refine gate_callee (f := 37) rfl ?_); refine goesL_ (some 9) rfl rfl Try.func37 (by kernel_rfl) rfl #[.slice A0_1 l0_1.length c0_1] rfl (by (try simp only [List.map_toArray, List.map_cons, List.map_nil]); first | done | rfl | (simp only [List.length_drop, List.length_take]; rfl)) ?_; (with_reducible refine (laws_toIntS.calls k _ _ l0_1 t131 _ ?side1 ?side2 A2.out).mono ?_); (case side1 => exact Kd.C_below HR0_1.out (by repeat (first | (with_reducible first | exact HB.out | apply below_alloc | apply pw_below_drewN | apply below_drew1 | refine below_set ?_ GE128.out | refine below_set ?_ GE129.out | refine below_set ?_ GE130.out) | exact HB.out))); (case side2 => exact HC0_1.out); rintro e w11 ⟨v132, rfl, ho0, hb⟩; refine ⟨_, rfl, ?_⟩; have n0_ := Aside0.mk (Kd.R_lower ho0 (below_size (by repeat (first | (with_reducible first | exact HB.out | apply below_alloc | apply pw_below_drewN | apply below_drew1 | refine below_set ?_ GE128.out | refine below_set ?_ GE129.out | refine below_set ?_ GE130.out) | exact HB.out)))); have n1_ := Aside0.mk (blk_below (g := gb128) (o := .cells #[.int .i64 a0_0, .slice A0_1 l0_1.length c0_1] 43 (0, 0)) (by (with_reducible repeat (first | refine blk_drewN ?_ _ | refine blk_drew ?_ | refine blk_alloc ?_ _)); refine blk_far ?_ NB128_130.out _; (with_reducible repeat (first | refine blk_drewN ?_ _ | refine blk_drew ?_ | refine blk_alloc ?_ _)); exact BK128.out) hb); have n2_ := Aside0.mk (blk_below (g := gb129) (o := .cells #[.int .i64 0, .slice none 0 0] 50 (0, 0)) (by (with_reducible repeat (first | refine blk_drewN ?_ _ | refine blk_drew ?_ | refine blk_alloc ?_ _)); refine blk_far ?_ NB129_130.out _; (with_reducible repeat (first | refine blk_drewN ?_ _ | refine blk_drew ?_ | refine blk_alloc ?_ _)); exact BK129.out) hb); have n3_ := Aside0.mk (blk_below (g := gb130) (o := .cells #[.int .i64 a0_0, .slice none 0 0] 50 (0, 0)) (by (with_reducible repeat (first | refine blk_drewN ?_ _ | refine blk_drew ?_ | refine blk_alloc ?_ _)); refine blk_put (cs := #[.int .i64 0, .slice none 0 0]) ?_ 0 _ rfl; (with_reducible repeat (first | refine blk_drewN ?_ _ | refine blk_drew ?_ | refine blk_alloc ?_ _)); exact BK130.out) hb); have n4_ := Aside0.mk (below_step (by repeat (first | (with_reducible first | exact HB.out | apply below_alloc | apply pw_below_drewN | apply below_drew1 | refine below_set ?_ GE128.out | refine below_set ?_ GE129.out | refine below_set ?_ GE130.out) | exact HB.out)) hb); clear BK128; clear BK129; clear BK130; clear HB; have HO133 := n0_; have BK128 := n1_; have BK129 := n2_; have BK130 := n3_; have HB := n4_; clear n0_ n1_ n2_ n3_ n4_; (try clear hb); (try clear hb2); (try clear hk); (try clear hi); (try clear ho0); obtain ⟨Ao12, co12, eo12⟩ := Kd.R_slice HO133.out; subst eo12; have hcz13_0 : w11.cell? ⟨gb130, 0, none⟩ = some (.int .i64 a0_0) := (blk_cell BK130.out 0).trans rfl; have hcz13_1 : w11.cell? ⟨gb130, 1, none⟩ = some (.slice none 0 0) := (blk_cell BK130.out 1).trans rfl; have hfz13_0 := blk_frozen BK130.out 0; have hfz13_1 := blk_frozen BK130.out 1; have hcz14_0 : w11.cell? ⟨gb129, 0, none⟩ = some (.int .i64 0) := (blk_cell BK129.out 0).trans rfl; have hcz14_1 : w11.cell? ⟨gb129, 1, none⟩ = some (.slice none 0 0) := (blk_cell BK129.out 1).trans rfl; have hfz14_0 := blk_frozen BK129.out 0; have hfz14_1 := blk_frozen BK129.out 1))
  refine bodyPost_ret (results_cell_row rfl _ _ gb129 50 #[.int .i64 a0_0, .slice Ao12 t131.length co12] (0, 0) _ rfl (by (with_reducible repeat (first | refine blk_drewN ?_ _ | refine blk_drew ?_ | refine blk_alloc ?_ _)); refine blk_put (cs := #[.int .i64 a0_0, .slice none 0 0]) ?_ 1 _ rfl; (with_reducible repeat (first | refine blk_drewN ?_ _ | refine blk_drew ?_ | refine blk_alloc ?_ _)); refine blk_put (cs := #[.int .i64 0, .slice none 0 0]) ?_ 0 _ rfl; (with_reducible repeat (first | refine blk_drewN ?_ _ | refine blk_drew ?_ | refine blk_alloc ?_ _)); refine blk_far ?_ NB129_130.out _; (with_reducible repeat (first | refine blk_drewN ?_ _ | refine blk_drew ?_ | refine blk_alloc ?_ _)); exact BK129.out) Try.underlying50 rfl (by kernel_rfl)) rfl ?_
  exact ⟨_, by first | rfl | (simp [errW_none, errW_some] <;> rfl) | (simp [*, errW_none, errW_some] <;> rfl), by (with_reducible repeat (first | apply Kd.R_alloc | apply Kd.R_drewN | apply Kd.R_drew)); exact Kd.R_mono (Kd.R_far (p := ⟨gb129, 1, none⟩) (Kd.R_far (p := ⟨gb129, 0, none⟩) (Kd.R_far (p := ⟨gb130, 1, none⟩) (Kd.R_types (Kd.R_types HO133.out BK130.out (by decide)) BK129.out (by decide)) (fun _ hk => hk.1.2) (.slice Ao12 t131.length co12)) (fun _ hk => hk.2) (.int .i64 a0_0)) (fun _ hk => hk.2) (.slice Ao12 t131.length co12)) (fun _ hk => trivial), by repeat (first | (with_reducible first | exact HB.out | apply below_alloc | apply pw_below_drewN | apply below_drew1 | refine below_set ?_ GE128.out | refine below_set ?_ GE129.out | refine below_set ?_ GE130.out) | exact HB.out)⟩

end Go.Proofs.Yteefbjkhheghkaa.QFnExactTermCircuit
