/- Functions of FnExactCombineDiagrams, each as a Lean function, with the proof that the Go code comes to its answers. -/
import Derived.Test.YtlnhpkjioppbiaaSFnExactCombineDiagramsx0
namespace Go.Proofs.Ytlnhpkjioppbiaa.QFnExactCombineDiagrams
open Go.RowKit Go.Proofs.YtlnhpkjioppbiaaW.PrintWords Go.Proofs.YtlnhpkjioppbiaaW.PrintLast Go.Proofs.YtlnhpkjioppbiaaW.PrintMore
open Go.Proofs.YtlnhpkjioppbiaaW.PrintWords renaming pw_below_drewN → pN, below_drew1 → p1, below_alloc → pA
open Go.Proofs.YtlnhpkjioppbiaaW.PrintWords.Kd renaming R_alloc → kA, R_drewN → kN, R_drew → kD, C_alloc → cA, C_drewN → cN, C_drew → cD
open Go.Proofs.YtlnhpkjioppbiaaW.PrintWords.Aside0 renaming mk → aM
open List renaming setIfInBounds_toArray → sI, set_cons_zero → s0, set_cons_succ → sS, map_toArray → mT, length_take → lT, length_drop → lD, map_cons → mC, map_nil → mN
attribute [local go_sem] max2_int min2_int max_two min_two max_three min_three max_four min_four
set_option linter.unusedVariables false
set_option linter.unusedSimpArgs false
def ndVisitS (ns : List S93) : Nat → Int → List Bool × List Int → List Bool × List Int
 | 0, _, st => st
 | F + 1, r, st => if r < 2 ∨ rdOf false st.1 (r - 2) = true then st else
   ((ndVisitS ns F (rd_T93 ns (r - 2)).f2 (ndVisitS ns F (rd_T93 ns (r - 2)).f1 (st.1.set (r - 2).toNat true, st.2))).1, (ndVisitS ns F (rd_T93 ns (r - 2)).f2 (ndVisitS ns F (rd_T93 ns (r - 2)).f1 (st.1.set (r - 2).toNat true, st.2))).2 ++ [r - 2])
theorem ndVisitS_seen (ns : List S93) : ∀ (F : Nat) (r : Int) (st : List Bool × List Int), (ndVisitS ns F r st).1.length = st.1.length := by
 intro F
 induction F with
 | zero => intro r st; rfl
 | succ F ih =>
  intro r st
  rw [ndVisitS]
  split
  ·rfl
  ·simp only [ih, List.length_set]
theorem ndVisitS_length (ns : List S93) : ∀ (F : Nat) (r : Int) (st : List Bool × List Int), (ndVisitS ns F r st).2.length + 1 ≤ st.2.length + 2 ^ F := by
 intro F
 induction F with
 | zero => intro r st; rw [ndVisitS]; simp
 | succ F ih =>
  intro r st
  rw [ndVisitS, Nat.pow_succ]; have h0 : 0 < 2 ^ F := Nat.two_pow_pos F
  split
  ·omega
  ·have h1 := ih (rd_T93 ns (r - 2)).f1 (st.1.set (r - 2).toNat true, st.2)
   have h2 := ih (rd_T93 ns (r - 2)).f2 (ndVisitS ns F (rd_T93 ns (r - 2)).f1 (st.1.set (r - 2).toNat true, st.2))
   simp only [List.length_append, List.length_singleton] at h1 h2 ⊢
   omega
theorem ndVisitS_no (ns : List S93) (F : Nat) (r : Int) (st : List Bool × List Int) (h : r < 2 ∨ rdOf false st.1 (r - 2) = true) : ndVisitS ns F r st = st := by
 cases F with
 | zero => rfl
 | succ F => rw [ndVisitS, if_pos h]
def ndDown (ns : List S93) : Prop := ∀ i, i < ns.length → (rd_T93 ns (i : Int)).f1 < 2 + (i : Int) ∧ (rd_T93 ns (i : Int)).f2 < 2 + (i : Int)
instance (ns : List S93) : Decidable (ndDown ns) := by unfold ndDown; exact inferInstance
theorem nd_at3 {w : World} {ad : Addr} {n : Nat} {xs : List (S93)} (h : Kd.C k93 w (some ad) n xs) (i : Int) (h0 : 0 ≤ i) (h1 : i < n) : w.cell? (ad.add (i.toNat * 3)) = some (.int .i64 (rd_T93 xs i).f0) ∧ w.cell? ⟨(ad.add (i.toNat * 3)).block, (ad.add (i.toNat * 3)).off + 1, none⟩ = some (.int .i64 (rd_T93 xs i).f1) ∧ w.cell? ⟨(ad.add (i.toNat * 3)).block, (ad.add (i.toNat * 3)).off + 2, none⟩ = some (.int .i64 (rd_T93 xs i).f2) := by
 obtain ⟨ad', e, h2⟩ := at_T93 h i h0 h1
 cases e
 exact h2
open Go.Proofs.Ytlnhpkjioppbiaa.Sep in
set_option maxHeartbeats 16000000 in
set_option maxRecDepth 100000 in
theorem impl_visitOrder.visit (w0 : World) (n root : Int) (As Ad : Option Addr) (cs cd : Nat) (ns : List (S93)) (hr : Kd.C k93 w0 Ad ns.length ns) (hk : ndDown ns) (hl : ns.length ≤ 40) (gs gd gv go : Nat) : ∀ (k : Nat) (_hk : k ≤ 40) (r : Int) (sn : List Bool) (out : List Int) (w : World) (vo : Value) (F : List Sep.Item) (_h1 : r < 2 + (k : Int)) (_h2 : r < 2 + (ns.length : Int)) (_hs : sn.length = ns.length) (_ho : out.length + 2 ^ k ≤ 17592186044416) (_h : Own w0 w (Sep.Item.box gs 131 #[.slice As ns.length cs] :: Sep.Item.row Kd.bool 4 (.slice As ns.length cs) (sn) :: Sep.Item.box go 39 #[vo] :: Sep.Item.row (Kd.int .i64) 3 (vo) (out) :: Sep.Item.box gv 132 #[.func (.func 116) #[] #[.pointer (some ⟨gs, 0, none⟩), .pointer (some ⟨gd, 0, none⟩), .pointer (some ⟨gv, 0, none⟩), .pointer (some ⟨go, 0, none⟩)]] :: Sep.Item.box gd 28 #[.int .i64 n, .slice Ad ns.length cd, .int .i64 root] :: F)),
  Calls Try.prog 116 #[.int .i64 r, .pointer (some ⟨gs, 0, none⟩), .pointer (some ⟨gd, 0, none⟩), .pointer (some ⟨gv, 0, none⟩), .pointer (some ⟨go, 0, none⟩)] w fun e w' => e = .returned (.tuple #[]) ∧ ∃ vo' : Value, Own w0 w' (Sep.Item.box gs 131 #[.slice As ns.length cs] :: Sep.Item.row Kd.bool 4 (.slice As ns.length cs) ((ndVisitS ns k r (sn, out)).1) :: Sep.Item.box go 39 #[vo'] :: Sep.Item.row (Kd.int .i64) 3 (vo') ((ndVisitS ns k r (sn, out)).2) :: Sep.Item.box gv 132 #[.func (.func 116) #[] #[.pointer (some ⟨gs, 0, none⟩), .pointer (some ⟨gd, 0, none⟩), .pointer (some ⟨gv, 0, none⟩), .pointer (some ⟨go, 0, none⟩)]] :: Sep.Item.box gd 28 #[.int .i64 n, .slice Ad ns.length cd, .int .i64 root] :: F) := by
 intro k
 induction k with
 | zero =>
  intro hk40 r sn out w vo F h1 h2 hs ho h
  obtain ⟨Ao, co, rfl⟩ := h.row_slice 3 rfl; have HO := aM h; have HS := aM hs; have HU := aM ho; have H2 := aM h2; clear h hs ho h2; have hr2 : r < 2 := by omega
  have cb := decide_eq_true hr2; have hno := ndVisitS_no ns 0 r (sn, out) (Or.inl hr2); rw [hno]; clear hno
  go_enter Try.func116, Try.ntmps116
  go_wp2
  (try simp only [Exit.inBlock, Exit.then])
  refine bodyPost_ret (results_none rfl _ _ _) rfl ?_
  exact ⟨rfl, _, HO.out⟩
 | succ k ih =>
  intro hk40 r sn out w vo F h1 h2 hs ho h
  obtain ⟨Ao, co, rfl⟩ := h.row_slice 3 rfl; have HO := aM h; have HS := aM hs; have HU := aM ho; have H2 := aM h2; clear h hs ho h2
  by_cases hr2 : r < 2
  ·have cb := decide_eq_true hr2
   have hno := ndVisitS_no ns (k + 1) r (sn, out) (Or.inl hr2); rw [hno]; clear hno
   go_enter Try.func116, Try.ntmps116
   go_wp2
   (try simp only [Exit.inBlock, Exit.then])
   refine bodyPost_ret (results_none rfl _ _ _) rfl ?_
   exact ⟨rfl, _, HO.out⟩
  ·have cb := decide_eq_false hr2
   obtain ⟨q, hq⟩ : ∃ q : Int, q = r - 2 := ⟨_, rfl⟩; have hwq : wrap64 (r - 2) = q := by have := H2.out; unfold wrap64; omega
   have hq0 : 0 ≤ q := by omega
   have hq1 : q < (ns.length : Int) := by have := H2.out; omega
   have hqk : q ≤ (k : Int) := by omega
   have p1 : (0 ≤ q) = True := eq_true hq0; have q1 : (q < (ns.length : Int)) = True := eq_true hq1; have HQS := aM (show q < (sn.length : Int) by have := HS.out; omega); have HQ := aM hq; have HR2 := aM hr2; clear hq hr2 h1; obtain ⟨gsn, cs', hsv⟩ := Sep.own_row_form HO.out 1 rfl (by have := HS.out; omega)
   injection hsv with ha hb hc
   subst ha; subst hc; clear hb; obtain ⟨ad, ead, _⟩ := at_T93 hr q hq0 hq1; subst ead; have HC := aM hr; have IH := aM ih; clear hr ih; obtain ⟨bs, hbs⟩ : ∃ b, rdOf false sn q = b := ⟨_, rfl⟩; have HB := aM hbs; clear hbs; have HSTEP := aM (show ndVisitS ns (k + 1) r (sn, out) = if r < 2 ∨ rdOf false sn q = true then (sn, out) else ((ndVisitS ns k (rd_T93 ns q).f2 (ndVisitS ns k (rd_T93 ns q).f1 (sn.set q.toNat true, out))).1, (ndVisitS ns k (rd_T93 ns q).f2 (ndVisitS ns k (rd_T93 ns q).f1 (sn.set q.toNat true, out))).2 ++ [q]) from by rw [ndVisitS, ← HQ.out])
   cases bs with
   | true =>
    have hst := HSTEP.out; rw [if_pos (Or.inr (show rdOf false sn q = true from HB.out))] at hst; rw [hst]; clear hst HSTEP
    go_enter Try.func116, Try.ntmps116
    have z_1 : w.cell? ⟨gs, 0, none⟩ = some (.slice ((some ⟨gsn, 0, none⟩)) ns.length cs) := (HO.out.cell 0 rfl 0 rfl); have z_2 : w.cell? ⟨gsn, q.toNat, none⟩ = some (.bool true) := (by have e := (Sep.own_row_cell false HO.out 1 rfl q hq0 HQS.out).1; rw [HB.out] at e; exact e)
    go_wp2
    (try simp only [Exit.inBlock, Exit.then])
    refine bodyPost_ret (results_none rfl _ _ _) rfl ?_
    exact ⟨rfl, _, HO.out⟩
   | false =>
    have hst := HSTEP.out; rw [if_neg (show ¬ (r < 2 ∨ rdOf false sn q = true) from fun hh => hh.elim HR2.out (fun hh => by rw [show rdOf false sn q = false from HB.out] at hh; cases hh))] at hst; rw [hst]; clear hst HSTEP; obtain ⟨a0, a1, a2, hnd⟩ : ∃ a0 a1 a2, rd_T93 ns q = ⟨a0, a1, a2⟩ := ⟨_, _, _, rfl⟩; have hdn := hk q.toNat (by omega); rw [Int.toNat_of_nonneg hq0, hnd] at hdn
    dsimp only at hdn
    rw [hnd]; have HD := aM hdn; have HND := aM hnd; clear hdn hnd; generalize hs1 : ndVisitS ns k a1 (sn.set q.toNat true, out) = s1; obtain ⟨sn1, out1⟩ := s1; generalize hs2 : ndVisitS ns k a2 (sn1, out1) = s2; obtain ⟨sn2, out2⟩ := s2; have hl1 := ndVisitS_seen ns k a1 (sn.set q.toNat true, out); have hm1 := ndVisitS_length ns k a1 (sn.set q.toNat true, out); have hl2 := ndVisitS_seen ns k a2 (sn1, out1); have hm2 := ndVisitS_length ns k a2 (sn1, out1); rw [hs1] at hl1 hm1; rw [hs2] at hl2 hm2; have hu := HU.out; rw [Nat.pow_succ] at hu
    simp only [List.length_set] at hl1
    dsimp only at hl1 hl2 hm1 hm2
    have hss := HS.out; have HV1 := aM hs1; have HV2 := aM hs2; have HL1 := aM (show sn1.length = ns.length by omega); have HM0 := aM (show out.length + 2 ^ k ≤ 17592186044416 by omega); have HM1 := aM (show out1.length + 2 ^ k ≤ 17592186044416 by omega); have HM2 := aM (show out2.length + 1 ≤ 17592186044416 by omega); clear hs1 hs2 hl1 hl2 hm1 hm2 hu hss
    go_enter Try.func116, Try.ntmps116
    have z_1 : w.cell? ⟨gs, 0, none⟩ = some (.slice ((some ⟨gsn, 0, none⟩)) ns.length cs) := (HO.out.cell 0 rfl 0 rfl); have z_2 : w.cell? ⟨gsn, q.toNat, none⟩ = some (.bool false) := (by have e := (Sep.own_row_cell false HO.out 1 rfl q hq0 HQS.out).1; rw [HB.out] at e; exact e); have z_3 : w.cell? ⟨gd, 1, none⟩ = some (.slice ((some ad)) ns.length cd) := (HO.out.cell 5 rfl 1 rfl); have z_4 : w.cell? (ad.add (q.toNat * 3)) = some (.int .i64 a0) := (by have e := (nd_at3 (Kd.C_below HC.out HO.out.base) q hq0 hq1).1; rw [HND.out] at e; exact e); have z_5 : w.cell? ⟨(ad.add (q.toNat * 3)).block, (ad.add (q.toNat * 3)).off + 1, none⟩ = some (.int .i64 a1) := (by have e := (nd_at3 (Kd.C_below HC.out HO.out.base) q hq0 hq1).2.1; rw [HND.out] at e; exact e); have z_6 : w.cell? ⟨(ad.add (q.toNat * 3)).block, (ad.add (q.toNat * 3)).off + 2, none⟩ = some (.int .i64 a2) := (by have e := (nd_at3 (Kd.C_below HC.out HO.out.base) q hq0 hq1).2.2; rw [HND.out] at e; exact e)
    go_wp2_with (first | ((with_reducible refine gate_dst (N := 6) rfl ?_); refine box_event ?hg (N := 6) ?hd (cs := #[.int .i64 0, .int .i64 0, .int .i64 0]) (t := 93) ?hr ?_; (case hd => rfl); (case hg => rfl); (case hr => exact zb_); intro g6 hg w_1 hbox hb; have HO_1 := aM (HO.out.add_box (T := 93) (cs := #[.int .i64 0, .int .i64 0, .int .i64 0]) hg hbox hb); clear hg hbox hb) | ((with_reducible refine gate_store (t := 93) (p := 6) (v := .tmp 21) rfl ?_); refine Sep.own_store HO_1.out 0 g6 93 _ #[.int .i64 a0, .int .i64 a1, .int .i64 a2] rfl rfl rfl 93 (.tmp 6) (.tmp 21) rfl rfl _ rfl rfl rfl (by kernel_rfl) (by simp [Value.oneCell']) ?_; intro w_2 ho; have HO_2 := aM ho; clear ho; have z_7 : w_2.cell? ⟨gs, 0, none⟩ = some (.slice ((some ⟨gsn, 0, none⟩)) ns.length cs) := (HO_2.out.cell 1 rfl 0 rfl)) | ((with_reducible refine gate_store (t := 4) (p := 25) (v := .const (.bool true)) rfl ?_); refine Sep.own_put_ev false HO_2.out 2 rfl q true hq0 HQS.out rfl rfl 4 (.tmp 25) (.const (.bool true)) rfl rfl rfl rfl (by kernel_rfl) ?_; intro w_3 ho; have HO_3 := aM ho; clear ho; have z_8 : w_3.cell? ⟨gv, 0, none⟩ = some (.func (.func 116) #[] #[.pointer (some ⟨gs, 0, none⟩), .pointer (some ⟨gd, 0, none⟩), .pointer (some ⟨gv, 0, none⟩), .pointer (some ⟨go, 0, none⟩)]) := (HO_3.out.cell 5 rfl 0 rfl); have z_9 : w_3.cell? ⟨g6, 1, none⟩ = some (.int .i64 a1) := (HO_3.out.cell 0 rfl 1 rfl)) | ((with_reducible refine gate_dst (N := 29) rfl ?_); refine Sep.goesCL_ (some 29) rfl rfl (f := 116) (fn := Try.f116) Try.func116 (by kernel_rfl) rfl #[.int .i64 a1, .pointer (some ⟨gs, 0, none⟩), .pointer (some ⟨gd, 0, none⟩), .pointer (some ⟨gv, 0, none⟩), .pointer (some ⟨go, 0, none⟩)] rfl rfl zgc_ ?_; refine (IH.out (by omega) a1 (((sn).set q.toNat true)) (out) _ _ (Item.box g6 93 #[.int .i64 a0, .int .i64 a1, .int .i64 a2] :: F) (by have := HD.out; omega) (by have := HD.out; omega) (by rw [List.length_set]; exact HS.out) HM0.out ((((((HO_3.out.front 6 rfl).front 6 rfl).front 6 rfl).front 6 rfl).front 6 rfl).front 6 rfl)).mono ?_; rintro e w_4 ⟨rfl, vo1, ho⟩; rw [HV1.out] at ho; refine ⟨_, rfl, ?_⟩; obtain ⟨Ao1, co1, rfl⟩ := ho.row_slice 3 rfl; have HO_4 := aM ho; clear ho; have z_10 : w_4.cell? ⟨gv, 0, none⟩ = some (.func (.func 116) #[] #[.pointer (some ⟨gs, 0, none⟩), .pointer (some ⟨gd, 0, none⟩), .pointer (some ⟨gv, 0, none⟩), .pointer (some ⟨go, 0, none⟩)]) := (HO_4.out.cell 4 rfl 0 rfl); have z_11 : w_4.cell? ⟨g6, 2, none⟩ = some (.int .i64 a2) := (HO_4.out.cell 6 rfl 2 rfl)) | ((with_reducible refine gate_dst (N := 33) rfl ?_); refine Sep.goesCL_ (some 33) rfl rfl (f := 116) (fn := Try.f116) Try.func116 (by kernel_rfl) rfl #[.int .i64 a2, .pointer (some ⟨gs, 0, none⟩), .pointer (some ⟨gd, 0, none⟩), .pointer (some ⟨gv, 0, none⟩), .pointer (some ⟨go, 0, none⟩)] rfl rfl zgc_ ?_; refine (IH.out (by omega) a2 (sn1) (out1) _ _ (Item.box g6 93 #[.int .i64 a0, .int .i64 a1, .int .i64 a2] :: F) (by have := HD.out; omega) (by have := HD.out; omega) HL1.out HM1.out ((((((HO_4.out.front 5 rfl).front 5 rfl).front 5 rfl).front 5 rfl).front 5 rfl).front 5 rfl)).mono ?_; rintro e w_5 ⟨rfl, vo2, ho⟩; rw [HV2.out] at ho; refine ⟨_, rfl, ?_⟩; obtain ⟨Ao2, co2, rfl⟩ := ho.row_slice 3 rfl; have HO_5 := aM ho; clear ho; have z_12 : w_5.cell? ⟨go, 0, none⟩ = some (.slice Ao2 out2.length co2) := (HO_5.out.cell 2 rfl 0 rfl)) | ((with_reducible refine gate_dst (N := 38) rfl ?_); at_builtin; refine Sep.own_append (Kd.int .i64) HO_5.out 3 _ (out2) 3 rfl rfl (.tmp 34) (.tmp 37) 39 (.int .i64 0) 8 rfl Try.underlying39 info3 rfl (by decide) (by omega) q [.int .i64 q] rfl rfl rfl (by have := HM2.out; simp; omega) ?_; intro x_38 w_7 ho; obtain ⟨A_38, n_38, c_38, hn_, rfl⟩ := ho.row_seal 3 rfl; have HN_38 := aM hn_; clear hn_; have HO_7 := aM ho; clear ho) | ((with_reducible refine gate_store (t := 39) (p := 4) (v := .tmp 38) rfl ?_); refine Sep.own_store HO_7.out 2 go 39 _ #[.slice A_38 n_38 c_38] rfl rfl rfl 39 (.tmp 4) (.tmp 38) rfl rfl (.slice A_38 n_38 c_38) rfl rfl rfl (by kernel_rfl) (by simp [Value.oneCell']) ?_; intro w_8 ho; have HO_8 := aM ho; clear ho))
    go_end0
    exact ⟨rfl, _, (((((((HO_8.out.front 5 rfl).front 5 rfl).front 5 rfl).front 5 rfl).front 5 rfl).front 5 rfl).front 6 rfl).tail⟩
def impl_visitOrder.f (k : Nat) (a0_0 : Int) (l0_1 : List (S93)) (a0_2 : Int) : Option (List Int) := if l0_1.length ≤ 40 ∧ a0_2 < 2 + (l0_1.length : Int) ∧ ndDown l0_1 then some (ndVisitS l0_1 l0_1.length a0_2 (List.replicate l0_1.length false, [])).2 else none
theorem impl_visitOrder.mono : ∀ a0 a1 a2 k, LeO (impl_visitOrder.f k a0 a1 a2) (impl_visitOrder.f (k + 1) a0 a1 a2) := fun _ _ _ _ => LeO.refl _
open Go.Proofs.Ytlnhpkjioppbiaa.Sep in
set_option maxHeartbeats 16000000 in
set_option maxRecDepth 100000 in
theorem impl_visitOrder.calls (k : Nat) (a0_0 : Int) (A0_1 : Option Addr) (c0_1 : Nat) (l0_1 : List (S93)) (a0_2 : Int) (r1 : List Int) (w : World) (hr0_1 : Kd.C k93 w A0_1 l0_1.length l0_1) (hc0_1 : l0_1.length ≤ c0_1) (h : impl_visitOrder.f k a0_0 l0_1 a0_2 = some r1) :
  Calls Try.prog 72 #[.agg #[.int .i64 a0_0, .slice A0_1 l0_1.length c0_1, .int .i64 a0_2]] w fun e w' => ∃ v0_ : Value, e = .returned v0_ ∧ Kd.R (Kd.int .i64) 3 w' w.heap.size (fun _ => True) v0_ r1 ∧ Below w.heap.size w w' := by
 have HC := aM hr0_1
 clear hr0_1 hc0_1
 unfold impl_visitOrder.f at h
 split at h
 ·rename_i hcc
  obtain ⟨hl, hrt, hdn⟩ := hcc; obtain rfl := Option.some.inj h; clear h; have HL := aM hl; have HR := aM hrt; have HD := aM hdn; clear hrt hdn hl
  go_enter Try.func72, Try.ntmps72
  go_wp2_with (first | ((with_reducible refine gate_dst (N := 1) rfl ?_); refine box_event ?hg (N := 1) ?hd (cs := #[.int .i64 a0_0, .slice A0_1 l0_1.length c0_1, .int .i64 a0_2]) (t := 28) ?hr ?_; (case hd => rfl); (case hg => rfl); (case hr => exact zb_); intro gd hg w_1 hbox hb; have HO_1 := aM ((Sep.Own.nil w).add_box (T := 28) (cs := #[.int .i64 a0_0, .slice A0_1 l0_1.length c0_1, .int .i64 a0_2]) hg hbox hb); clear hg hbox hb; have z_1 : w_1.cell? ⟨gd, 1, none⟩ = some (.slice A0_1 l0_1.length c0_1) := (HO_1.out.cell 0 rfl 1 rfl)) | ((with_reducible refine gate_dst (N := 9) rfl ?_); refine Sep.own_make Kd.bool HO_1.out 4 rfl (N := 9) rfl 131 _ _ rfl (l0_1.length : Int) rfl rfl Try.underlying131 (.bool false) 1 info4 rfl (by decide) (by omega) false rfl (by omega) (by have := HL.out; omega) ?_; intro x_9 w_2 ho _; rw [Int.toNat_natCast] at ho; obtain ⟨As, ms, cs, hms, rfl⟩ := ho.row_seal 0 rfl; rw [List.length_replicate] at hms; subst hms; have HO_2 := aM ho; clear ho) | ((with_reducible refine gate_dst (N := 3) rfl ?_); refine box_event ?hg (N := 3) ?hd (cs := #[.slice none 0 0]) (t := 131) ?hr ?_; (case hd => rfl); (case hg => rfl); (case hr => exact zb_); intro gs hg w_3 hbox hb; have HO_3 := aM (HO_2.out.add_box (T := 131) (cs := #[.slice none 0 0]) hg hbox hb); clear hg hbox hb) | ((with_reducible refine gate_store (t := 131) (p := 3) (v := .tmp 9) rfl ?_); refine Sep.own_store HO_3.out 0 gs 131 _ #[.slice As l0_1.length cs] rfl rfl rfl 131 (.tmp 3) (.tmp 9) rfl rfl (.slice As l0_1.length cs) rfl rfl rfl (by kernel_rfl) (by simp [Value.oneCell']) ?_; intro w_4 ho; have HO_4 := aM ho; clear ho) | ((with_reducible refine gate_dst (N := 10) rfl ?_); refine Sep.own_lit0 (Kd.int .i64) HO_4.out 3 ?hg (N := 10) ?hd ?hr ?_; (case hd => rfl); (case hg => rfl); (case hr => exact zb_); intro x_10 w_5 ho _; obtain ⟨A_10, n_10, c_10, hn_, rfl⟩ := ho.row_seal 0 rfl; have HN_10 := aM hn_; clear hn_; have HO_5 := aM ho; clear ho) | ((with_reducible refine gate_dst (N := 4) rfl ?_); refine box_event ?hg (N := 4) ?hd (cs := #[.slice none 0 0]) (t := 39) ?hr ?_; (case hd => rfl); (case hg => rfl); (case hr => exact zb_); intro go hg w_6 hbox hb; have HO_6 := aM (HO_5.out.add_box (T := 39) (cs := #[.slice none 0 0]) hg hbox hb); clear hg hbox hb) | ((with_reducible refine gate_store (t := 39) (p := 4) (v := .tmp 10) rfl ?_); refine Sep.own_store HO_6.out 0 go 39 _ #[.slice A_10 n_10 c_10] rfl rfl rfl 39 (.tmp 4) (.tmp 10) rfl rfl (.slice A_10 n_10 c_10) rfl rfl rfl (by kernel_rfl) (by simp [Value.oneCell']) ?_; intro w_7 ho; have HO_7 := aM ho; clear ho) | ((with_reducible refine gate_dst (N := 5) rfl ?_); refine box_event ?hg (N := 5) ?hd (cs := #[.nilFunc]) (t := 132) ?hr ?_; (case hd => rfl); (case hg => rfl); (case hr => exact zb_); intro gv hg w_8 hbox hb; have HO_8 := aM (HO_7.out.add_box (T := 132) (cs := #[.nilFunc]) hg hbox hb); clear hg hbox hb) | ((with_reducible refine gate_store (t := 132) (p := 5) (v := .tmp 11) rfl ?_); refine Sep.own_store HO_8.out 0 gv 132 _ #[.func (.func 116) #[] #[.pointer (some ⟨gs, 0, none⟩), .pointer (some ⟨gd, 0, none⟩), .pointer (some ⟨gv, 0, none⟩), .pointer (some ⟨go, 0, none⟩)]] rfl rfl rfl 132 (.tmp 5) (.tmp 11) rfl rfl (.func (.func 116) #[] #[.pointer (some ⟨gs, 0, none⟩), .pointer (some ⟨gd, 0, none⟩), .pointer (some ⟨gv, 0, none⟩), .pointer (some ⟨go, 0, none⟩)]) rfl rfl rfl (by kernel_rfl) (by simp [Value.oneCell']) ?_; intro w_9 ho; have HO_9 := aM ho; clear ho; have z_2 : w_9.cell? ⟨gv, 0, none⟩ = some (.func (.func 116) #[] #[.pointer (some ⟨gs, 0, none⟩), .pointer (some ⟨gd, 0, none⟩), .pointer (some ⟨gv, 0, none⟩), .pointer (some ⟨go, 0, none⟩)]) := (HO_9.out.cell 0 rfl 0 rfl); have z_3 : w_9.cell? ⟨gd, 2, none⟩ = some (.int .i64 a0_2) := (HO_9.out.cell 5 rfl 2 rfl)) | ((with_reducible refine gate_dst (N := 15) rfl ?_); refine Sep.goesCL_ (some 15) rfl rfl (f := 116) (fn := Try.f116) Try.func116 (by kernel_rfl) rfl #[.int .i64 a0_2, .pointer (some ⟨gs, 0, none⟩), .pointer (some ⟨gd, 0, none⟩), .pointer (some ⟨gv, 0, none⟩), .pointer (some ⟨go, 0, none⟩)] rfl rfl zgc_ ?_; refine (impl_visitOrder.visit w a0_0 a0_2 _ _ _ _ l0_1 HC.out HD.out HL.out gs gd gv go l0_1.length HL.out a0_2 (List.replicate l0_1.length false) [] _ _ [] HR.out HR.out (List.length_replicate ..) (by rw [List.length_nil, Nat.zero_add]; exact Nat.le_trans (Nat.pow_le_pow_right (by decide) HL.out) (by decide)) ((((((HO_9.out.front 5 rfl).front 1 rfl).front 3 rfl).front 3 rfl).front 5 rfl).front 5 rfl)).mono ?_; rintro e w_10 ⟨rfl, vo1, ho⟩; refine ⟨_, rfl, ?_⟩; have HO_10 := aM ho; clear ho; have z_4 : w_10.cell? ⟨go, 0, none⟩ = some (vo1) := (HO_10.out.cell 2 rfl 0 rfl)))
  go_ret
  obtain ⟨P_, hP⟩ := HO_10.out.get 3 rfl
  exact ⟨_, rfl, Kd.R_mono hP (fun _ _ => trivial), HO_10.out.base⟩
 ·cases h
end Go.Proofs.Ytlnhpkjioppbiaa.QFnExactCombineDiagrams
