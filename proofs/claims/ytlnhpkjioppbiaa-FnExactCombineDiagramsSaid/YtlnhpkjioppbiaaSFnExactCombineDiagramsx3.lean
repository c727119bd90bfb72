/- Functions of FnExactCombineDiagrams, each as a Lean function, with the proof that the Go code comes to its answers. -/
import Derived.Test.YtlnhpkjioppbiaaSFnExactCombineDiagramsx0
import Derived.Test.YtlnhpkjioppbiaaSFnExactCombineDiagramsx1
import Derived.Test.YtlnhpkjioppbiaaSFnExactCombineDiagramsx9
namespace Go.Proofs.Ytlnhpkjioppbiaa.QFnExactCombineDiagrams
open Go.RowKit Go.Proofs.YtlnhpkjioppbiaaW.PrintWords Go.Proofs.YtlnhpkjioppbiaaW.PrintLast Go.Proofs.YtlnhpkjioppbiaaW.PrintMore
open Go.Proofs.YtlnhpkjioppbiaaW.PrintWords renaming pw_below_drewN → pN, below_drew1 → p1, below_alloc → pA
open Go.Proofs.YtlnhpkjioppbiaaW.PrintWords.Kd renaming R_alloc → kA, R_drewN → kN, R_drew → kD, C_alloc → cA, C_drewN → cN, C_drew → cD
open Go.Proofs.YtlnhpkjioppbiaaW.PrintWords.Aside0 renaming mk → aM
open List renaming setIfInBounds_toArray → sI, set_cons_zero → s0, set_cons_succ → sS, map_toArray → mT, length_take → lT, length_drop → lD, map_cons → mC, map_nil → mN
open Option renaming bind_eq_some_iff → oB
attribute [local go_sem] max2_int min2_int max_two min_two max_three min_three max_four min_four
set_option linter.unusedVariables false
set_option linter.unusedSimpArgs false
attribute [local go_sem high] eqA93
instance : DecidableEq S93 := fun a b => decidable_of_iff (a.f0 = b.f0 ∧ a.f1 = b.f1 ∧ a.f2 = b.f2) ⟨fun h => by cases a; cases b; simp_all, fun h => by subst h; exact ⟨rfl, rfl, rfl⟩⟩
def ndAt (x : S93) : List S93 → Nat
 | [] => 0
 | y :: r => if y = x then 0 else ndAt x r + 1
def ndNode (ns : List S93) (x : S93) : List S93 × Int :=
 if x.f1 = x.f2 then (ns, x.f1) else if ndAt x ns < ns.length then (ns, 2 + (ndAt x ns : Int)) else (ns ++ [x], 2 + (ns.length : Int))
def ndBuild (vs : List Int) (n : Nat) : Nat → Nat → List S93 → List S93 × Int
 | 0, idx, ns => (ns, rd vs (idx : Int))
 | d + 1, idx, ns => ndNode (ndBuild vs n d (idx + 2 ^ (n - (d + 1))) (ndBuild vs n d idx ns).1).1 ⟨((n - (d + 1) : Nat) : Int), (ndBuild vs n d idx ns).2, (ndBuild vs n d (idx + 2 ^ (n - (d + 1))) (ndBuild vs n d idx ns).1).2⟩
theorem ndNode_length (ns : List S93) (x : S93) : (ndNode ns x).1.length ≤ ns.length + 1 := by
 unfold ndNode
 split
 ·dsimp only; omega
 ·split
  ·dsimp only; omega
  ·simp
theorem ndBuild_length (vs : List Int) (n : Nat) : ∀ (d idx : Nat) (ns : List S93), (ndBuild vs n d idx ns).1.length + 1 ≤ ns.length + 2 ^ d := by
 intro d
 induction d with
 | zero => intro idx ns; rw [ndBuild]; simp
 | succ d ih =>
  intro idx ns
  rw [ndBuild, Nat.pow_succ]; have h1 := ih idx ns; have h2 := ih (idx + 2 ^ (n - (d + 1))) (ndBuild vs n d idx ns).1; have h3 := ndNode_length (ndBuild vs n d (idx + 2 ^ (n - (d + 1))) (ndBuild vs n d idx ns).1).1 ⟨((n - (d + 1) : Nat) : Int), (ndBuild vs n d idx ns).2, (ndBuild vs n d (idx + 2 ^ (n - (d + 1))) (ndBuild vs n d idx ns).1).2⟩
  omega
theorem nd_eqA (d : Nat) (w : World) (x0 y0 : Int) (x1 y1 : Int) (x2 y2 : Int) :
  (Op.equalIn (d + 2) 93 (.agg #[.int .i64 x0, .int .i64 x1, .int .i64 x2]) (.agg #[.int .i64 y0, .int .i64 y1, .int .i64 y2])).run Try.prog w = .ok (x0 == y0 && (x1 == y1 && (x2 == y2))) w := by
 refine eqA_of Try.underlying93 (by kernel_rfl) ?_
 refine eqf_cons (by rfl) (by go_simp; rfl) (by go_simp; rfl) (by go_simp) ?_
 refine eqf_cons (by rfl) (by go_simp; rfl) (by go_simp; rfl) (by go_simp) ?_
 exact eqf_last (by rfl) (by go_simp; rfl) (by go_simp; rfl) (by go_simp)
theorem ndAt_drop (x : S93) (ns : List S93) (j : Int) (h0 : 0 ≤ j) (h1 : j < (ns.length : Int)) : ndAt x (ns.drop j.toNat) = if rd_T93 ns j = x then 0 else ndAt x (ns.drop (j + 1).toNat) + 1 := by
 have hl : j.toNat < ns.length := by omega
 rw [List.drop_eq_getElem_cons hl, ndAt, show (j + 1).toNat = j.toNat + 1 by omega]
 unfold rd_T93
 rw [List.getD_eq_getElem?_getD, List.getElem?_eq_getElem hl]
 rfl
theorem nd_eqb (a b : S93) : (a.f0 == b.f0 && (a.f1 == b.f1 && (a.f2 == b.f2))) = decide (a = b) := by
 by_cases h : a = b
 ·subst h; simp
 ·rw [decide_eq_false h]
  cases a; cases b
  simp at h ⊢
  exact h
theorem nd_shl (n d idx : Nat) (hn : n ≤ 4) (hd : d + 1 ≤ n) (hi : idx < 2 ^ (n - (d + 1))) : shl .i64 1 ((n - (d + 1) : Nat) : Int) = ((2 ^ (n - (d + 1)) : Nat) : Int) ∧ wrap64 ((idx : Int) + ((2 ^ (n - (d + 1)) : Nat) : Int)) = ((idx + 2 ^ (n - (d + 1)) : Nat) : Int) ∧ idx + 2 ^ (n - (d + 1)) < 2 ^ (n - d) ∧ idx < 2 ^ (n - d) ∧ idx + 2 ^ (n - (d + 1)) ≤ 16 ∧ Go.bits .or .i64 (idx : Int) ((2 ^ (n - (d + 1)) : Nat) : Int) = ((idx + 2 ^ (n - (d + 1)) : Nat) : Int) := by
 have h1 : n - d = n - (d + 1) + 1 := by omega
 generalize hm : n - (d + 1) = m at *
 have hm3 : m ≤ 3 := by omega
 rw [h1, Nat.pow_succ]
 have hw : ∀ a b : Nat, a < 16 → b < 16 → wrap64 ((a : Int) + (b : Int)) = ((a + b : Nat) : Int) := fun a b _ _ => by unfold wrap64; omega
 match m, hm3 with
 | 0, _ => refine ⟨by rfl, hw idx _ (by simp at hi; omega) (by decide), by omega, by omega, by simp at hi ⊢; omega, ?_⟩; (obtain rfl : idx = 0 := by simpa using hi); rfl
 | 1, _ => refine ⟨by rfl, hw idx _ (by simp at hi; omega) (by decide), by omega, by omega, by simp at hi ⊢; omega, ?_⟩; match idx, hi with | 0, _ => rfl | 1, _ => rfl
 | 2, _ => refine ⟨by rfl, hw idx _ (by simp at hi; omega) (by decide), by omega, by omega, by simp at hi ⊢; omega, ?_⟩; match idx, hi with | 0, _ => rfl | 1, _ => rfl | 2, _ => rfl | 3, _ => rfl
 | 3, _ => refine ⟨by rfl, hw idx _ (by simp at hi; omega) (by decide), by omega, by omega, by simp at hi ⊢; omega, ?_⟩; match idx, hi with | 0, _ => rfl | 1, _ => rfl | 2, _ => rfl | 3, _ => rfl | 4, _ => rfl | 5, _ => rfl | 6, _ => rfl | 7, _ => rfl
section
attribute [local go_sem high] nd_eqA
open Go.Proofs.Ytlnhpkjioppbiaa.Sep in
set_option maxHeartbeats 16000000 in
set_option maxRecDepth 100000 in
theorem spec_ddBuild.node (w0 : World) (g : Nat) (x0 x1 x2 : Int) (ns : List (S93)) (hb : ns.length ≤ 1000) (w : World) (vn : Value) (F : List Sep.Item) (_h : Own w0 w (Sep.Item.box g 120 #[vn] :: Sep.Item.row k93 93 vn ns :: F)) :
  Calls Try.prog 126 #[.pointer (some ⟨g, 0, none⟩), .agg #[.int .i64 x0, .int .i64 x1, .int .i64 x2]] w fun e w' => e = .returned (.int .i64 (ndNode ns ⟨x0, x1, x2⟩).2) ∧ ∃ vn' : Value, Own w0 w' (Sep.Item.box g 120 #[vn'] :: Sep.Item.row k93 93 vn' (ndNode ns ⟨x0, x1, x2⟩).1 :: F) := by
 obtain ⟨An, cn, rfl⟩ := _h.row_slice 1 rfl
 have HO := aM _h
 have HB := aM hb
 clear _h hb
 by_cases c1 : x1 = x2
 ·have c1b : (x1 == x2) = true := beq_iff_eq.mpr c1
  rw [show ndNode ns (⟨x0, x1, x2⟩ : S93) = (ns, x1) from by unfold ndNode; rw [if_pos c1]]; clear c1
  go_enter Try.func126, Try.ntmps126
  go_wp2_with (first | ((with_reducible refine gate_dst (N := 3) rfl ?_); refine box_event ?hg (N := 3) ?hd (cs := #[.int .i64 x0, .int .i64 x1, .int .i64 x2]) (t := 93) ?hr ?_; (case hd => rfl); (case hg => rfl); (case hr => exact zb_); intro gx hg w_1 hbox hb; have HO_1 := aM (HO.out.add_box (T := 93) (cs := #[.int .i64 x0, .int .i64 x1, .int .i64 x2]) hg hbox hb); clear hg hbox hb; have z_1 : w_1.cell? ⟨gx, 1, none⟩ = some (.int .i64 x1) := (HO_1.out.cell 0 rfl 1 rfl); have z_2 : w_1.cell? ⟨gx, 2, none⟩ = some (.int .i64 x2) := (HO_1.out.cell 0 rfl 2 rfl); have z_3 : w_1.cell? ⟨gx, 1, none⟩ = some (.int .i64 x1) := (HO_1.out.cell 0 rfl 1 rfl)))
  go_ret
  exact ⟨rfl, _, (((HO_1.out.front 2 rfl).front 2 rfl).front 2 rfl).tail⟩
 ·have c1b : (x1 == x2) = false := beq_eq_false_iff_ne.mpr c1
  have HND := aM (show ndNode ns (⟨x0, x1, x2⟩ : S93) = if ndAt (⟨x0, x1, x2⟩ : S93) ns < ns.length then (ns, 2 + (ndAt (⟨x0, x1, x2⟩ : S93) ns : Int)) else (ns ++ [(⟨x0, x1, x2⟩ : S93)], 2 + (ns.length : Int)) from by unfold ndNode; rw [if_neg c1]); clear c1
  go_enter Try.func126, Try.ntmps126
  go_wp2_with (first | ((with_reducible refine gate_dst (N := 3) rfl ?_); refine box_event ?hg (N := 3) ?hd (cs := #[.int .i64 x0, .int .i64 x1, .int .i64 x2]) (t := 93) ?hr ?_; (case hd => rfl); (case hg => rfl); (case hr => exact zb_); intro gx hg w_1 hbox hb; have HO_1 := aM (HO.out.add_box (T := 93) (cs := #[.int .i64 x0, .int .i64 x1, .int .i64 x2]) hg hbox hb); clear hg hbox hb; have z_1 : w_1.cell? ⟨gx, 1, none⟩ = some (.int .i64 x1) := (HO_1.out.cell 0 rfl 1 rfl); have z_2 : w_1.cell? ⟨gx, 2, none⟩ = some (.int .i64 x2) := (HO_1.out.cell 0 rfl 2 rfl); have z_3 : w_1.cell? ⟨g, 0, none⟩ = some (.slice An ns.length cn) := (HO_1.out.cell 1 rfl 0 rfl)))
  (try simp only [Act.put, sI, s0, sS])
  go_loopw [19] (fun v19 wr => ∃ (j : Int), 0 ≤ j ∧ j ≤ (ns.length : Int) ∧ v19 = .int .i64 j ∧ Aside0 (ndAt (⟨x0, x1, x2⟩ : S93) (ns.drop j.toNat) + j.toNat = ndAt (⟨x0, x1, x2⟩ : S93) ns) ∧ Aside0 (Own w0 wr (Item.box gx 93 #[.int .i64 x0, .int .i64 x1, .int .i64 x2] :: Item.box g 120 #[.slice An ns.length cn] :: Item.row k93 93 (.slice An ns.length cn) (ns) :: F))) (fun v19 _ => ns.length - (intOf v19).toNat)
  case atStart => exact ⟨0, Int.le_refl _, by omega, rfl, ⟨rfl⟩, ⟨(((HO_1.out.front 2 rfl).front 2 rfl).front 2 rfl)⟩⟩
  case round =>
   clear HO HO_1; obtain ⟨j, hj0, hj1, rfl, HJ, HO⟩ := hrel
   by_cases c2 : j < (ns.length : Int)
   ·have c2b := decide_eq_true c2
    have hwj : wrap64 (j + 1) = j + 1 := by have := HB.out; unfold wrap64; omega
    obtain ⟨adn, er, hx_⟩ := at_T93 (HO.out.row_reads 2 rfl).2.2 j hj0 c2; clear hx_
    cases er
    have p1 : (0 ≤ j) = True := eq_true hj0; have q1 : (j < (ns.length : Int)) = True := eq_true c2; obtain ⟨y0, y1, y2, hnd⟩ : ∃ a0 a1 a2, rd_T93 ns j = ⟨a0, a1, a2⟩ := ⟨_, _, _, rfl⟩; have HN := aM hnd; have had := ndAt_drop (⟨x0, x1, x2⟩ : S93) ns j hj0 c2; rw [hnd] at had; have HA := aM had; clear had hnd; have HE := aM (nd_eqb (⟨x0, x1, x2⟩ : S93) ⟨y0, y1, y2⟩)
    by_cases c3 : (⟨x0, x1, x2⟩ : S93) = ⟨y0, y1, y2⟩
    ·have he := HE.out
     rw [decide_eq_true c3] at he
     dsimp only at he
     have ha := HA.out; rw [if_pos c3.symm] at ha; have hj_ := HJ.out; have HP := aM (show ndAt (⟨x0, x1, x2⟩ : S93) ns = j.toNat by omega); have hw2 : wrap64 (2 + j) = 2 + j := by have := HB.out; unfold wrap64; omega
     clear ha hj_ c3; have z_4 : wr.cell? (adn.add (j.toNat * 3)) = some (.int .i64 y0) := (by have e := (nd_at3 (HO.out.row_reads 2 rfl).2.2 j hj0 c2).1; rw [HN.out] at e; exact e); have z_5 : wr.cell? ⟨(adn.add (j.toNat * 3)).block, (adn.add (j.toNat * 3)).off + 1, none⟩ = some (.int .i64 y1) := (by have e := (nd_at3 (HO.out.row_reads 2 rfl).2.2 j hj0 c2).2.1; rw [HN.out] at e; exact e); have z_6 : wr.cell? ⟨(adn.add (j.toNat * 3)).block, (adn.add (j.toNat * 3)).off + 2, none⟩ = some (.int .i64 y2) := (by have e := (nd_at3 (HO.out.row_reads 2 rfl).2.2 j hj0 c2).2.2; rw [HN.out] at e; exact e)
     go_wp2_with (first | ((with_reducible refine gate_dst (N := 6) rfl ?_); refine box_event ?hg (N := 6) ?hd (cs := #[.int .i64 0, .int .i64 0, .int .i64 0]) (t := 93) ?hr ?_; (case hd => rfl); (case hg => rfl); (case hr => exact zb_); intro g6 hg w_1 hbox hb; have HO_1 := aM (HO.out.add_box (T := 93) (cs := #[.int .i64 0, .int .i64 0, .int .i64 0]) hg hbox hb); clear hg hbox hb) | ((with_reducible refine gate_store (t := 93) (p := 6) (v := .tmp 23) rfl ?_); refine Sep.own_store HO_1.out 0 g6 93 _ #[.int .i64 y0, .int .i64 y1, .int .i64 y2] rfl rfl rfl 93 (.tmp 6) (.tmp 23) rfl rfl _ rfl rfl rfl (by kernel_rfl) (by simp [Value.oneCell']) ?_; intro w_2 ho; have HO_2 := aM ho; clear ho; have z_7 : w_2.cell? ⟨gx, 0, none⟩ = some (.int .i64 x0) := (HO_2.out.cell 1 rfl 0 rfl); have z_8 : w_2.cell? ⟨gx, 1, none⟩ = some (.int .i64 x1) := (HO_2.out.cell 1 rfl 1 rfl); have z_9 : w_2.cell? ⟨gx, 2, none⟩ = some (.int .i64 x2) := (HO_2.out.cell 1 rfl 2 rfl); have z_10 : w_2.cell? ⟨g6, 0, none⟩ = some (.int .i64 y0) := (HO_2.out.cell 0 rfl 0 rfl); have z_11 : w_2.cell? ⟨g6, 1, none⟩ = some (.int .i64 y1) := (HO_2.out.cell 0 rfl 1 rfl); have z_12 : w_2.cell? ⟨g6, 2, none⟩ = some (.int .i64 y2) := (HO_2.out.cell 0 rfl 2 rfl)))
     have hnn := HND.out; rw [HP.out, if_pos (by omega), Int.toNat_of_nonneg hj0] at hnn; rw [hnn]; clear hnn
     go_ret
     exact ⟨by first | rfl | rw [hw2], _, ((((HO_2.out.front 3 rfl).front 3 rfl).front 3 rfl).front 3 rfl).tail.tail⟩
    ·have he := HE.out
     rw [decide_eq_false c3] at he
     dsimp only at he
     have ha := HA.out; rw [if_neg (fun e => c3 e.symm)] at ha; have HJ2 := aM (show ndAt (⟨x0, x1, x2⟩ : S93) (ns.drop (j + 1).toNat) + (j + 1).toNat = ndAt (⟨x0, x1, x2⟩ : S93) ns by have := HJ.out; omega); clear ha c3; have z_4 : wr.cell? (adn.add (j.toNat * 3)) = some (.int .i64 y0) := (by have e := (nd_at3 (HO.out.row_reads 2 rfl).2.2 j hj0 c2).1; rw [HN.out] at e; exact e); have z_5 : wr.cell? ⟨(adn.add (j.toNat * 3)).block, (adn.add (j.toNat * 3)).off + 1, none⟩ = some (.int .i64 y1) := (by have e := (nd_at3 (HO.out.row_reads 2 rfl).2.2 j hj0 c2).2.1; rw [HN.out] at e; exact e); have z_6 : wr.cell? ⟨(adn.add (j.toNat * 3)).block, (adn.add (j.toNat * 3)).off + 2, none⟩ = some (.int .i64 y2) := (by have e := (nd_at3 (HO.out.row_reads 2 rfl).2.2 j hj0 c2).2.2; rw [HN.out] at e; exact e)
     go_wp2_with (first | ((with_reducible refine gate_dst (N := 6) rfl ?_); refine box_event ?hg (N := 6) ?hd (cs := #[.int .i64 0, .int .i64 0, .int .i64 0]) (t := 93) ?hr ?_; (case hd => rfl); (case hg => rfl); (case hr => exact zb_); intro g6 hg w_1 hbox hb; have HO_1 := aM (HO.out.add_box (T := 93) (cs := #[.int .i64 0, .int .i64 0, .int .i64 0]) hg hbox hb); clear hg hbox hb) | ((with_reducible refine gate_store (t := 93) (p := 6) (v := .tmp 23) rfl ?_); refine Sep.own_store HO_1.out 0 g6 93 _ #[.int .i64 y0, .int .i64 y1, .int .i64 y2] rfl rfl rfl 93 (.tmp 6) (.tmp 23) rfl rfl _ rfl rfl rfl (by kernel_rfl) (by simp [Value.oneCell']) ?_; intro w_2 ho; have HO_2 := aM ho; clear ho; have z_7 : w_2.cell? ⟨gx, 0, none⟩ = some (.int .i64 x0) := (HO_2.out.cell 1 rfl 0 rfl); have z_8 : w_2.cell? ⟨gx, 1, none⟩ = some (.int .i64 x1) := (HO_2.out.cell 1 rfl 1 rfl); have z_9 : w_2.cell? ⟨gx, 2, none⟩ = some (.int .i64 x2) := (HO_2.out.cell 1 rfl 2 rfl); have z_10 : w_2.cell? ⟨g6, 0, none⟩ = some (.int .i64 y0) := (HO_2.out.cell 0 rfl 0 rfl); have z_11 : w_2.cell? ⟨g6, 1, none⟩ = some (.int .i64 y1) := (HO_2.out.cell 0 rfl 1 rfl); have z_12 : w_2.cell? ⟨g6, 2, none⟩ = some (.int .i64 y2) := (HO_2.out.cell 0 rfl 2 rfl)))
     go_roundw
     case measure => simp only [intOf, hwj]; omega
     case rel => exact ⟨j + 1, by omega, by omega, by first | rfl | rw [hwj], HJ2, ⟨((((HO_2.out.front 3 rfl).front 3 rfl).front 3 rfl).front 3 rfl).tail⟩⟩
   ·have c2b := decide_eq_false c2
    obtain rfl : j = (ns.length : Int) := by omega
    have hj_ := HJ.out; rw [Int.toNat_natCast, List.drop_length, ndAt, Nat.zero_add] at hj_; have hnn := HND.out; rw [← hj_, if_neg (Nat.lt_irrefl _)] at hnn; have HNN := aM hnn; clear hnn hj_ HJ HND; have hwl : wrap64 (1 + ((ns.length + 1 : Nat) : Int)) = 2 + (ns.length : Int) := by have := HB.out; unfold wrap64; omega
    go_wp2
    have HD_9_3 := aM (HO.out.drew)
    refine start_ (n := 11) (S := fun w' => w'.cell? ⟨g, 0, none⟩ = some (.slice An ns.length cn) ∧ w'.cell? ⟨gx, 0, none⟩ = some (.int .i64 x0) ∧ w'.cell? ⟨gx, 1, none⟩ = some (.int .i64 x1) ∧ w'.cell? ⟨gx, 2, none⟩ = some (.int .i64 x2)) (ds := [10]) #[fi,fi,fi,fi,fi,fi,fi,fi,fi,fi,fi] (by kernel_rfl) rfl rfl ⟨(HD_9_3.out.cell 1 rfl 0 rfl), (HD_9_3.out.cell 0 rfl 0 rfl), (HD_9_3.out.cell 0 rfl 1 rfl), (HD_9_3.out.cell 0 rfl 2 rfl)⟩ (fun hHeld => ?_)
    generalize wr.drew = wd_9_4 at HD_9_3 hHeld ⊢
    refine pure_ (i := 0) (N := some 30) (v := ?_) (a' := ?_) #[ti,fi,fi,fi,fi,fi,fi,fi,fi,fi,fi] rfl rfl (by kernel_rfl) (fun _ _ _ h => h) (Or.inl ⟨by rfl, ?_⟩) ?_ ?_; rotate_left; (· (intro w'; go_simp; with_reducible rfl)); rotate_left; (· (simp only [Act.put, sI, s0, sS, i64_w, i32_w]; rfl))
    refine pure_ (i := 1) (N := some 31) (v := ?_) (a' := ?_) #[ti,ti,fi,fi,fi,fi,fi,fi,fi,fi,fi] rfl rfl (by kernel_rfl) (fun _ _ _ h => h) (Or.inl ⟨by rfl, ?_⟩) ?_ ?_; rotate_left; (· (intro w'; go_simp; with_reducible rfl)); rotate_left; (· (simp only [Act.put, sI, s0, sS, i64_w, i32_w]; rfl))
    refine pure_ (i := 2) (N := some 32) (v := ?_) (a' := ?_) #[ti,ti,ti,fi,fi,fi,fi,fi,fi,fi,fi] rfl rfl (by kernel_rfl) (fun _ _ _ h => h) (Or.inl ⟨by rfl, ?_⟩) ?_ ?_; rotate_left; (· (intro w'; go_simp; with_reducible rfl)); rotate_left; (· (simp only [Act.put, sI, s0, sS, i64_w, i32_w]; rfl))
    refine pure_ (i := 3) (N := some 33) (v := ?_) (a' := ?_) #[ti,ti,ti,ti,fi,fi,fi,fi,fi,fi,fi] rfl rfl (by kernel_rfl) (fun _ _ _ h => h) (Or.inl ⟨by rfl, ?_⟩) ?_ ?_; rotate_left; (· (intro w'; go_simp; with_reducible rfl)); rotate_left; (· (simp only [Act.put, sI, s0, sS, i64_w, i32_w]; rfl))
    refine take_ (i := 4) (N := some 34) (v := ?_) (a' := ?_) #[ti,ti,ti,ti,ti,fi,fi,fi,fi,fi,fi] rfl rfl (by kernel_rfl) (fun _ _ _ h => h) (Or.inl ⟨by rfl, ?_⟩) hHeld ?_ ?_
    rotate_left
    ·rintro w' ⟨s0, s1, s2, s3⟩
     go_simp
     with_reducible rfl
    rotate_left
    ·simp only [Act.put, sI, s0, sS, i64_w, i32_w]
     rfl
    refine take_ (i := 5) (N := some 35) (v := ?_) (a' := ?_) #[ti,ti,ti,ti,ti,ti,fi,fi,fi,fi,fi] rfl rfl (by kernel_rfl) (fun _ _ _ h => h) (Or.inl ⟨by rfl, ?_⟩) hHeld ?_ ?_
    rotate_left
    ·rintro w' ⟨s0, s1, s2, s3⟩
     go_simp
     with_reducible rfl
    rotate_left
    ·simp only [Act.put, sI, s0, sS, i64_w, i32_w]
     rfl
    refine one_ (i := 6) (N := some 36) #[ti,ti,ti,ti,ti,ti,ti,fi,fi,fi,fi] rfl rfl (by kernel_rfl) (by decide) (fun K hK => ?_)
    refine value_ (w1 := ?_) (v := ?_) (by rfl) rfl ?_ ?_
    rotate_left 2
    ·go_simp
     constructor
     ·rfl
     ·rfl
    have HOb36 := aM (HD_9_3.out.below (pA (Below.refl _ _) (.cells #[.int .i64 x0, .int .i64 x1, .int .i64 x2] 93)))
    refine hK.out _ _ ⟨(HOb36.out.cell 1 rfl 0 rfl), (HOb36.out.cell 0 rfl 0 rfl), (HOb36.out.cell 0 rfl 1 rfl), (HOb36.out.cell 0 rfl 2 rfl)⟩ (fun hHeld => ?_)
    clear hK K
    refine norm_ (a' := ?_) ?_ ?_
    rotate_left
    ·show Act.put _ (some 36) _ = _
     simp only [Act.put, sI, s0, sS, i64_w, i32_w]
     rfl
    refine one_ (i := 7) (N := some 37) #[ti,ti,ti,ti,ti,ti,ti,ti,fi,fi,fi] rfl rfl (by kernel_rfl) (by decide) (fun K hK => ?_)
    refine Sep.own_append_step k93 HD_9_3.out 2 _ (ns) 93 rfl (by rfl) (.tmp 34) (.tmp 36) 26 (.agg #[.int .i64 0, .int .i64 0, .int .i64 0]) 24 rfl Try.underlying26 info93 rfl (by decide) (by omega) ((⟨x0, x1, x2⟩ : S93)) [.int .i64 x0, .int .i64 x1, .int .i64 x2] rfl rfl (k93_mkM _ _ _ _) (by have := HB.out; omega) ?_
    intro x_37 w_2 ho
    obtain ⟨A_37, n_37, c_37, hn_, rfl⟩ := ho.row_seal 2 rfl; have HN_37 := aM hn_; clear hn_; have HO_2 := aM ho; clear ho
    refine hK.out _ _ ⟨(HO_2.out.cell 1 rfl 0 rfl), (HO_2.out.cell 0 rfl 0 rfl), (HO_2.out.cell 0 rfl 1 rfl), (HO_2.out.cell 0 rfl 2 rfl)⟩ (fun hHeld => ?_)
    clear hK K
    refine norm_ (a' := ?_) ?_ ?_
    rotate_left
    ·show Act.put _ (some 37) _ = _
     simp only [Act.put, sI, s0, sS, i64_w, i32_w]
     rfl
    refine pure_ (i := 8) (N := some 38) (v := ?_) (a' := ?_) #[ti,ti,ti,ti,ti,ti,ti,ti,ti,fi,fi] rfl rfl (by kernel_rfl) (fun _ _ _ h => h) (Or.inl ⟨by rfl, ?_⟩) ?_ ?_; rotate_left; (· (intro w'; go_simp; with_reducible rfl)); rotate_left; (· (simp only [Act.put, sI, s0, sS, i64_w, i32_w]; rfl))
    refine pure_ (i := 9) (N := some 39) (v := ?_) (a' := ?_) #[ti,ti,ti,ti,ti,ti,ti,ti,ti,ti,fi] rfl rfl (by kernel_rfl) (fun _ _ _ h => h) (Or.inl ⟨by rfl, ?_⟩) ?_ ?_; rotate_left; (· (intro w'; go_simp; with_reducible rfl)); rotate_left; (· (simp only [Act.put, sI, s0, sS, i64_w, i32_w]; rfl))
    refine last_ (i := 10) (N := none) #[ti,ti,ti,ti,ti,ti,ti,ti,ti,ti,ti] rfl rfl (by kernel_rfl) (by decide) (fun K hK => ?_)
    have hbs := HO_2.out.cell 1 rfl 0 rfl; have hbf := HO_2.out.free 1 rfl 0
    refine skip_ (w1 := ?_) (by rfl) rfl ?_ ?_
    rotate_left
    ·go_simp
     rfl
    have HO_3 := aM (HO_2.out.put1 1 rfl 0 (.slice A_37 n_37 c_37)); clear hbs hbf; generalize hgs_ : World.setCell w_2 ⟨g, 0, none⟩ (.slice A_37 n_37 c_37) = w_3 at HO_3 ⊢; clear hgs_
    refine hK.out _ _ ?_
    clear hK K
    refine done_ (by kernel_rfl) ?_
    have z_5 : w_3.cell? ⟨g, 0, none⟩ = some (.slice A_37 n_37 c_37) := (HO_3.out.cell 1 rfl 0 rfl)
    go_wp2
    have hwl2 : ∀ m : Nat, m = (ns ++ [(⟨x0, x1, x2⟩ : S93)]).length → wrap64 (1 + (m : Int)) = 2 + (ns.length : Int) := by intro m hm; rw [hm, List.length_append, List.length_singleton]; exact hwl
    go_ret
    rw [HNN.out]
    exact ⟨by have hq := hwl2 _ HN_37.out; first | (rw [hq]; done) | (rw [hq]; rfl), _, (((HO_3.out.front 2 rfl).front 2 rfl).front 2 rfl).tail⟩
end
open Go.Proofs.Ytlnhpkjioppbiaa.Sep in
set_option maxHeartbeats 16000000 in
set_option maxRecDepth 100000 in
theorem spec_ddBuild.build (w0 : World) (g n : Nat) (hn : n ≤ 4) (vs : List Int) (hv : vs.length = 2 ^ n) (At : Option Addr) (ct : Nat) (hr : Kd.C (Kd.int .i64) w0 At vs.length vs) : ∀ (d idx : Nat) (ns : List (S93)) (i xx : Int) (w : World) (vn : Value) (F : List Sep.Item) (_hd : d ≤ n) (_hi : idx < 2 ^ (n - d)) (_he : i = ((n - d : Nat) : Int)) (_hx : xx = (idx : Int)) (_hb : ns.length + 2 ^ d ≤ 1000) (_h : Own w0 w (Sep.Item.box g 120 #[vn] :: Sep.Item.row k93 93 vn ns :: F)),
  Calls Try.prog 105 #[.pointer (some ⟨g, 0, none⟩), .agg #[.int .i64 (n : Int), .slice At vs.length ct], .int .i64 i, .int .i64 xx] w fun e w' => e = .returned (.int .i64 (ndBuild vs n d idx ns).2) ∧ ∃ vn' : Value, Own w0 w' (Sep.Item.box g 120 #[vn'] :: Sep.Item.row k93 93 vn' (ndBuild vs n d idx ns).1 :: F) := by
 have HVL := aM hv
 clear hv
 intro d
 induction d with
 | zero =>
  intro idx ns i xx w vn F hd hi he hx hb h
  obtain ⟨An, cn, rfl⟩ := h.row_slice 1 rfl; have HO := aM h; have HB := aM hb; have HI := aM he; have HX := aM hx; have HR := aM hr; clear h hb hr; have c1b : (i == (n : Int)) = true := beq_iff_eq.mpr (by omega); have hx0 : 0 ≤ xx := by omega
  have hx1 : xx < (vs.length : Int) := by rw [HVL.out, hx]; simp only [Nat.sub_zero] at hi; omega
  obtain ⟨ad, ead, hc⟩ := Kd.at_int HR.out xx hx0 hx1
  cases ead
  have p1 : (0 ≤ xx) = True := eq_true hx0; have q1 : (xx < (vs.length : Int)) = True := eq_true hx1; obtain ⟨v, hv_⟩ : ∃ v, rd vs xx = v := ⟨_, rfl⟩; rw [hv_] at hc; have HC := aM hc; have HV := aM hv_; clear hc hv_ hi he hx
  go_enter Try.func105, Try.ntmps105
  go_wp2_with (first | ((with_reducible refine gate_dst (N := 5) rfl ?_); refine box_event ?hg (N := 5) ?hd (cs := #[.int .i64 ((n : Int)), .slice ((some ad)) vs.length ct]) (t := 41) ?hr ?_; (case hd => rfl); (case hg => rfl); (case hr => exact zb_); intro gt hg w_1 hbox hb; have HO_1 := aM (HO.out.add_box (T := 41) (cs := #[.int .i64 ((n : Int)), .slice ((some ad)) vs.length ct]) hg hbox hb); clear hg hbox hb; have z_1 : w_1.cell? ⟨gt, 0, none⟩ = some (.int .i64 ((n : Int))) := (HO_1.out.cell 0 rfl 0 rfl); have z_2 : w_1.cell? ⟨gt, 1, none⟩ = some (.slice ((some ad)) vs.length ct) := (HO_1.out.cell 0 rfl 1 rfl); have z_3 : w_1.cell? (ad.add xx.toNat) = some (.int .i64 v) := (by obtain ⟨_, e, h_⟩ := Kd.at_int (Kd.C_below HR.out HO_1.out.base) xx hx0 hx1; cases e; rw [HV.out] at h_; exact h_)))
  go_ret
  rw [ndBuild]
  exact ⟨by rw [← HX.out]; show _ = Ending.returned (.int .i64 (rd vs xx)); rw [HV.out]; rfl, _, (((HO_1.out.front 2 rfl).front 2 rfl).front 2 rfl).tail⟩
 | succ d ih =>
  intro idx ns i xx w vn F hd hi he hx hb h
  obtain ⟨An, cn, rfl⟩ := h.row_slice 1 rfl; have HO := aM h; have HB := aM hb; have HI := aM he; have HX := aM hx; have HR := aM hr; clear h hb hr; obtain ⟨hs1, hs2, hs3, hs4, hs5, hs6⟩ := nd_shl n d idx hn hd hi; rw [← he] at hs1; rw [← hx] at hs2; have c1b : (i == (n : Int)) = false := beq_eq_false_iff_ne.mpr (by omega); have hi1 : wrap64 (i + 1) = ((n - d : Nat) : Int) := by unfold wrap64; omega
  obtain ⟨pp, hpp⟩ : ∃ p : Nat, p = 2 ^ (n - (d + 1)) := ⟨_, rfl⟩; rw [← hpp] at hs1 hs2 hs3 hs5; obtain ⟨x1, hx1⟩ : ∃ x1 : Int, x1 = ((idx + pp : Nat) : Int) := ⟨_, rfl⟩; rw [← hx1] at hs2; have hi0 : 0 ≤ i := by omega
  have hi4 : i ≤ 3 := by omega
  have hul : IntKind.u64.wrap i = i := by rw [IntKind.wrap_u64]; omega
  have p0 : (0 ≤ i) = True := eq_true hi0; have hb2 := HB.out; rw [Nat.pow_succ] at hb2; have hsh : wrap64 (2 ^ min i.toNat 64) = (pp : Int) := by rw [← hs1]; unfold shl; rw [Int.one_mul, IntKind.wrap_i64, show IntKind.i64.bits = 64 from rfl]; unfold wrap64; omega
  generalize hA : ndBuild vs n d idx ns = ra; obtain ⟨n1, lo⟩ := ra; have hla := ndBuild_length vs n d idx ns; rw [hA] at hla; generalize hB2 : ndBuild vs n d (idx + pp) n1 = rb; obtain ⟨n2, hh⟩ := rb; have hlb := ndBuild_length vs n d (idx + pp) n1; rw [hB2] at hlb
  dsimp only at hla hlb
  have hfin : ndBuild vs n (d + 1) idx ns = ndNode n2 ⟨i, lo, hh⟩ := by rw [ndBuild, hA, ← hpp]; dsimp only; rw [hB2, he]
  have HA := aM hA; have HB2 := aM hB2; have HFIN := aM hfin; have HN1 := aM (show n1.length + 2 ^ d ≤ 1000 by omega); have HN2 := aM (show n2.length ≤ 1000 by omega); have HN0 := aM (show ns.length + 2 ^ d ≤ 1000 by omega); have IH := aM ih; have HS3 := aM hs3; have HS4 := aM hs4; have HX1 := aM hx1; have HI1 := aM hi1; have HD := aM (show d ≤ n by omega); clear hi0 hi4 ih hla hlb hA hB2 hfin hs1 hs3 hs4 hs5 hs6 hi he hx hi1 hx1 hb2 hd hpp
  go_enter Try.func105, Try.ntmps105
  go_wp2_with (first | ((with_reducible refine gate_dst (N := 5) rfl ?_); refine box_event ?hg (N := 5) ?hd (cs := #[.int .i64 ((n : Int)), .slice At vs.length ct]) (t := 41) ?hr ?_; (case hd => rfl); (case hg => rfl); (case hr => exact zb_); intro gt hg w_1 hbox hb; have HO_1 := aM (HO.out.add_box (T := 41) (cs := #[.int .i64 ((n : Int)), .slice At vs.length ct]) hg hbox hb); clear hg hbox hb; have z_1 : w_1.cell? ⟨gt, 0, none⟩ = some (.int .i64 ((n : Int))) := (HO_1.out.cell 0 rfl 0 rfl); have z_2 : w_1.cell? ⟨gt, 0, none⟩ = some (.int .i64 ((n : Int))) := (HO_1.out.cell 0 rfl 0 rfl); have z_3 : w_1.cell? ⟨gt, 1, none⟩ = some (.slice At vs.length ct) := (HO_1.out.cell 0 rfl 1 rfl)) | ((with_reducible refine gate_callee (f := 105) rfl ?_); refine goesL_ (some 25) rfl rfl Try.func105 (by kernel_rfl) rfl #[.pointer (some ⟨g, 0, none⟩), .agg #[.int .i64 ((n : Int)), .slice At vs.length ct], .int .i64 (wrap64 (i + 1)), .int .i64 xx] rfl zbaf_ ?_; refine (IH.out idx (ns) (wrap64 (i + 1)) xx _ _ (Item.box gt 41 #[.int .i64 ((n : Int)), .slice At vs.length ct] :: F) HD.out HS4.out HI1.out HX.out HN0.out ((HO_1.out.front 2 rfl).front 2 rfl)).mono ?_; rw [HA.out]; rintro e w_2 ⟨rfl, vo, ho⟩; refine ⟨_, rfl, ?_⟩; obtain ⟨A_b25, c_b25, rfl⟩ := ho.row_slice 1 rfl; have HO_2 := aM ho; clear ho; have z_4 : w_2.cell? ⟨gt, 0, none⟩ = some (.int .i64 ((n : Int))) := (HO_2.out.cell 2 rfl 0 rfl); have z_5 : w_2.cell? ⟨gt, 1, none⟩ = some (.slice At vs.length ct) := (HO_2.out.cell 2 rfl 1 rfl)) | ((with_reducible refine gate_callee (f := 105) rfl ?_); refine goesL_ (some 35) rfl rfl Try.func105 (by kernel_rfl) rfl #[.pointer (some ⟨g, 0, none⟩), .agg #[.int .i64 ((n : Int)), .slice At vs.length ct], .int .i64 (wrap64 (i + 1)), .int .i64 x1] rfl zbaf_ ?_; refine (IH.out (idx + pp) (n1) (wrap64 (i + 1)) x1 _ _ (Item.box gt 41 #[.int .i64 ((n : Int)), .slice At vs.length ct] :: F) HD.out HS3.out HI1.out HX1.out HN1.out ((HO_2.out.front 1 rfl).front 1 rfl)).mono ?_; rw [HB2.out]; rintro e w_3 ⟨rfl, vo, ho⟩; refine ⟨_, rfl, ?_⟩; obtain ⟨A_b35, c_b35, rfl⟩ := ho.row_slice 1 rfl; have HO_3 := aM ho; clear ho) | ((with_reducible refine gate_callee (f := 126) rfl ?_); refine goesL_ (some 41) rfl rfl Try.func126 (by kernel_rfl) rfl #[.pointer (some ⟨g, 0, none⟩), .agg #[.int .i64 i, .int .i64 lo, .int .i64 hh]] rfl zbaf_ ?_; refine (spec_ddBuild.node w0 g i lo hh n2 HN2.out _ _ (Item.box gt 41 #[.int .i64 ((n : Int)), .slice At vs.length ct] :: F) ((HO_3.out.front 1 rfl).front 1 rfl)).mono ?_; rintro e w_4 ⟨rfl, vf, ho⟩; refine ⟨_, rfl, ?_⟩; have HO_4 := aM ho; clear ho))
  go_ret
  rw [HFIN.out]
  exact ⟨rfl, _, (((HO_4.out.front 1 rfl).front 1 rfl).front 2 rfl).tail⟩
def spec_ddMake.f (k : Nat) (a0_0 : Int) (l0_1 : List Int) : Option (Int × List (S93) × Int) := if 0 ≤ a0_0 ∧ a0_0 ≤ 4 ∧ l0_1.length = 2 ^ a0_0.toNat then some (a0_0, (ndBuild l0_1 a0_0.toNat a0_0.toNat 0 []).1, (ndBuild l0_1 a0_0.toNat a0_0.toNat 0 []).2) else none
theorem spec_ddMake.mono : ∀ a0 a1 k, LeO (spec_ddMake.f k a0 a1) (spec_ddMake.f (k + 1) a0 a1) := fun _ _ _ => LeO.refl _
open Go.Proofs.Ytlnhpkjioppbiaa.Sep in
set_option maxHeartbeats 16000000 in
set_option maxRecDepth 100000 in
theorem spec_ddMake.calls (k : Nat) (a0_0 : Int) (A0_1 : Option Addr) (c0_1 : Nat) (l0_1 : List Int) (r1 : Int) (r2 : List (S93)) (r3 : Int) (w : World) (hr0_1 : Kd.C (Kd.int .i64) w A0_1 l0_1.length l0_1) (hc0_1 : l0_1.length ≤ c0_1) (h : spec_ddMake.f k a0_0 l0_1 = some (r1, r2, r3)) :
  Calls Try.prog 54 #[.agg #[.int .i64 a0_0, .slice A0_1 l0_1.length c0_1]] w fun e w' => ∃ v1_ : Value, e = .returned (.agg #[.int .i64 r1, v1_, .int .i64 r3]) ∧ Kd.R k93 93 w' w.heap.size (fun _ => True) v1_ r2 ∧ Below w.heap.size w w' := by
 unfold spec_ddMake.f at h
 split at h
 ·rename_i hcc
  obtain ⟨hn0, hn4, hl⟩ := hcc; obtain ⟨n, rfl⟩ := Int.eq_ofNat_of_zero_le hn0; rw [Int.toNat_natCast] at h hl; have h2 := Option.some.inj h; clear h; have HN4 := aM (show n ≤ 4 by omega); have HVL := aM hl; have HC := aM hr0_1; clear hr0_1 hc0_1 hl hn0 hn4; have hbl := ndBuild_length l0_1 n n 0 []; generalize hB : ndBuild l0_1 n n 0 [] = rb at h2 hbl; obtain ⟨n2, rr⟩ := rb
  injection h2 with e1 e2
  injection e2 with e2 e3
  dsimp only at e1 e2 e3 hbl
  subst e1; subst e2; subst e3; have HB := aM hB; clear hB hbl
  go_enter Try.func54, Try.ntmps54
  go_wp2_with (first | ((with_reducible refine gate_dst (N := 1) rfl ?_); refine box_event ?hg (N := 1) ?hd (cs := #[.int .i64 ((n : Int)), .slice A0_1 l0_1.length c0_1]) (t := 41) ?hr ?_; (case hd => rfl); (case hg => rfl); (case hr => exact zb_); intro gt hg w_1 hbox hb; have HO_1 := aM ((Sep.Own.nil w).add_box (T := 41) (cs := #[.int .i64 ((n : Int)), .slice A0_1 l0_1.length c0_1]) hg hbox hb); clear hg hbox hb) | ((with_reducible refine gate_dst (N := 2) rfl ?_); refine box_event ?hg (N := 2) ?hd (cs := #[.int .i64 0, .slice none 0 0, .int .i64 0]) (t := 28) ?hr ?_; (case hd => rfl); (case hg => rfl); (case hr => exact zb_); intro gr hg w_2 hbox hb; have HO_2 := aM (HO_1.out.add_box (T := 28) (cs := #[.int .i64 0, .slice none 0 0, .int .i64 0]) hg hbox hb); clear hg hbox hb) | ((with_reducible refine gate_dst (N := 6) rfl ?_); refine box_event ?hg (N := 6) ?hd (cs := #[.slice none 0 0]) (t := 120) ?hr ?_; (case hd => rfl); (case hg => rfl); (case hr => exact zb_); intro g hg w_3 hbox hb; have HO_3 := aM (HO_2.out.add_box (T := 120) (cs := #[.slice none 0 0]) hg hbox hb); clear hg hbox hb; have z_1 : w_3.cell? ⟨gt, 0, none⟩ = some (.int .i64 ((n : Int))) := (HO_3.out.cell 2 rfl 0 rfl); have z_2 : w_3.cell? ⟨gt, 1, none⟩ = some (.slice A0_1 l0_1.length c0_1) := (HO_3.out.cell 2 rfl 1 rfl)) | ((with_reducible refine gate_callee (f := 105) rfl ?_); refine goesL_ (some 9) rfl rfl Try.func105 (by kernel_rfl) rfl #[.pointer (some ⟨g, 0, none⟩), .agg #[.int .i64 ((n : Int)), .slice A0_1 l0_1.length c0_1], .int .i64 0, .int .i64 0] rfl zgc_ ?_; refine (spec_ddBuild.build w g n HN4.out l0_1 HVL.out _ _ HC.out n 0 [] 0 0 _ _ [Item.box gr 28 #[.int .i64 0, .slice none 0 0, .int .i64 0], Item.box gt 41 #[.int .i64 ((n : Int)), .slice A0_1 l0_1.length c0_1]] (Nat.le_refl _) (by simp) (by simp) rfl (by rw [List.length_nil, Nat.zero_add]; exact Nat.le_trans (Nat.pow_le_pow_right (by decide) HN4.out) (by decide)) (((HO_3.out.nilrow k93 93).front 0 rfl).front 1 rfl)).mono ?_; rw [HB.out]; rintro e w_4 ⟨rfl, vo, ho⟩; refine ⟨_, rfl, ?_⟩; obtain ⟨A_b, c_b, rfl⟩ := ho.row_slice 1 rfl; have HO_4 := aM ho; clear ho))
  have HD_3_2 := aM (HO_4.out.drew)
  refine start_ (n := 9) (S := fun w' => w'.cell? ⟨gt, 0, none⟩ = some (.int .i64 ((n : Int))) ∧ w'.cell? ⟨g, 0, none⟩ = some (.slice A_b n2.length c_b)) (ds := [8]) #[fi,fi,fi,fi,fi,fi,fi,fi,fi] (by kernel_rfl) rfl rfl ⟨(HD_3_2.out.cell 3 rfl 0 rfl), (HD_3_2.out.cell 0 rfl 0 rfl)⟩ (fun hHeld => ?_)
  generalize w_4.drew = wd_3_3 at HD_3_2 hHeld ⊢
  refine pure_ (i := 0) (N := some 10) (v := ?_) (a' := ?_) #[ti,fi,fi,fi,fi,fi,fi,fi,fi] rfl rfl (by kernel_rfl) (fun _ _ _ h => h) (Or.inl ⟨by rfl, ?_⟩) ?_ ?_; rotate_left; (· (intro w'; go_simp; with_reducible rfl)); rotate_left; (· (simp only [Act.put, sI, s0, sS, i64_w, i32_w]; rfl))
  refine pure_ (i := 2) (N := some 12) (v := ?_) (a' := ?_) #[ti,fi,ti,fi,fi,fi,fi,fi,fi] rfl rfl (by kernel_rfl) (fun _ _ _ h => h) (Or.inl ⟨by rfl, ?_⟩) ?_ ?_; rotate_left; (· (intro w'; go_simp; with_reducible rfl)); rotate_left; (· (simp only [Act.put, sI, s0, sS, i64_w, i32_w]; rfl))
  refine pure_ (i := 3) (N := some 13) (v := ?_) (a' := ?_) #[ti,fi,ti,ti,fi,fi,fi,fi,fi] rfl rfl (by kernel_rfl) (fun _ _ _ h => h) (Or.inl ⟨by rfl, ?_⟩) ?_ ?_; rotate_left; (· (intro w'; go_simp; with_reducible rfl)); rotate_left; (· (simp only [Act.put, sI, s0, sS, i64_w, i32_w]; rfl))
  refine pure_ (i := 4) (N := some 14) (v := ?_) (a' := ?_) #[ti,fi,ti,ti,ti,fi,fi,fi,fi] rfl rfl (by kernel_rfl) (fun _ _ _ h => h) (Or.inl ⟨by rfl, ?_⟩) ?_ ?_; rotate_left; (· (intro w'; go_simp; with_reducible rfl)); rotate_left; (· (simp only [Act.put, sI, s0, sS, i64_w, i32_w]; rfl))
  refine pure_ (i := 6) (N := some 16) (v := ?_) (a' := ?_) #[ti,fi,ti,ti,ti,fi,ti,fi,fi] rfl rfl (by kernel_rfl) (fun _ _ _ h => h) (Or.inl ⟨by rfl, ?_⟩) ?_ ?_; rotate_left; (· (intro w'; go_simp; with_reducible rfl)); rotate_left; (· (simp only [Act.put, sI, s0, sS, i64_w, i32_w]; rfl))
  refine take_ (i := 1) (N := some 11) (v := ?_) (a' := ?_) #[ti,ti,ti,ti,ti,fi,ti,fi,fi] rfl rfl (by kernel_rfl) (fun _ _ _ h => h) (Or.inl ⟨by rfl, ?_⟩) hHeld ?_ ?_
  rotate_left
  ·rintro w' ⟨s0, s1⟩
   go_simp
   with_reducible rfl
  rotate_left
  ·simp only [Act.put, sI, s0, sS, i64_w, i32_w]
   rfl
  refine take_ (i := 5) (N := some 15) (v := ?_) (a' := ?_) #[ti,ti,ti,ti,ti,ti,ti,fi,fi] rfl rfl (by kernel_rfl) (fun _ _ _ h => h) (Or.inl ⟨by rfl, ?_⟩) hHeld ?_ ?_
  rotate_left
  ·rintro w' ⟨s0, s1⟩
   go_simp
   with_reducible rfl
  rotate_left
  ·simp only [Act.put, sI, s0, sS, i64_w, i32_w]
   rfl
  refine pure_ (i := 7) (N := some 17) (v := ?_) (a' := ?_) #[ti,ti,ti,ti,ti,ti,ti,ti,fi] rfl rfl (by kernel_rfl) (fun _ _ _ h => h) (Or.inl ⟨by rfl, ?_⟩) ?_ ?_; rotate_left; (· (intro w'; go_simp; with_reducible rfl)); rotate_left; (· (simp only [Act.put, sI, s0, sS, i64_w, i32_w]; rfl))
  refine last_ (i := 8) (N := none) #[ti,ti,ti,ti,ti,ti,ti,ti,ti] rfl rfl (by kernel_rfl) (by decide) (fun K hK => ?_)
  refine Sep.own_store_step HD_3_2.out 2 gr 28 _ #[.int .i64 ((n : Int)), .slice A_b n2.length c_b, .int .i64 rr] rfl (by rfl) rfl 28 (.tmp 2) (.tmp 17) rfl rfl _ rfl rfl rfl (by kernel_rfl) (by simp [Value.oneCell']) ?_
  intro w_5 ho
  have HO_5 := aM ho; clear ho
  refine hK.out _ _ ?_
  clear hK K
  refine done_ (by kernel_rfl) ?_
  go_wp2
  (try simp only [Exit.inBlock, Exit.then])
  refine bodyPost_ret (results_cell_row rfl _ _ gr 28 #[.int .i64 ((n : Int)), .slice A_b n2.length c_b, .int .i64 rr] (0, 0) _ rfl (HO_5.out.blk 2 rfl) Try.underlying28 rfl (by kernel_rfl)) rfl ?_
  obtain ⟨P_, hP⟩ := HO_5.out.get 1 rfl
  exact ⟨_, rfl, Kd.R_mono hP (fun _ _ => trivial), HO_5.out.base⟩
 ·cases h
def spec_l1In.f (a0 : Int) (a1 : Int) (a2 : Int) : Option (Bool) := if a0 ≥ a1 then (some (decide (a0 ≤ a2))) else (some false)
set_option maxHeartbeats 8000000 in
set_option maxRecDepth 100000 in
theorem spec_l1In.calls (a0 : Int) (a1 : Int) (a2 : Int) (r : Bool) (w : World) (h : spec_l1In.f a0 a1 a2 = some r) :
  Calls Try.prog 101 #[.int .i64 a0, .int .i64 a1, .int .i64 a2] w fun e w' => e = .returned (.bool r) ∧ Drawn0 w w' := by
 have H : (if a0 ≥ a1 then (some (decide (a0 ≤ a2))) else (some false)) = some r := h
 clear h
 by_cases c4 : a0 ≥ a1
 ·rw [if_pos c4] at H
  have c4b0 : decide (a1 ≤ a0) = true := decide_eq_true c4; clear c4; obtain rfl := Option.some.inj H
  go_enter Try.func101, Try.ntmps101
  go_wp2
  go_ret
  exact ⟨ze_, zbf_⟩
 ·rw [if_neg c4] at H
  have c4b0 : decide (a1 ≤ a0) = false := decide_eq_false c4; clear c4; obtain rfl := Option.some.inj H
  go_enter Try.func101, Try.ntmps101
  go_wp2
  go_ret
  exact ⟨ze_, zbf_⟩
def spec_ttInputs.f (a0 : Int) : Option (Bool) := (spec_l1In.f a0 0 4).bind fun t114 => (some t114)
set_option maxHeartbeats 8000000 in
set_option maxRecDepth 100000 in
theorem spec_ttInputs.calls (a0 : Int) (r : Bool) (w : World) (h : spec_ttInputs.f a0 = some r) :
  Calls Try.prog 100 #[.int .i64 a0] w fun e w' => e = .returned (.bool r) ∧ Drawn0 w w' := by
 have H : ((spec_l1In.f a0 0 4).bind fun t114 => (some t114)) = some r := h
 clear h
 replace H := oB.mp H
 obtain ⟨t114, A20, H⟩ := H
 replace H : (some t114) = some r := H
 have A2 := aM A20
 clear A20
 obtain rfl := Option.some.inj H
 go_enter Try.func100, Try.ntmps100
 go_wp2_with (first | ((with_reducible refine gate_callee (f := 101) rfl ?_); refine goesL_ (some 4) rfl rfl Try.func101 (by kernel_rfl) rfl #[.int .i64 a0, .int .i64 0, .int .i64 4] rfl zd_ ?_; (with_reducible refine (spec_l1In.calls a0 0 4 t114 _ A2.out).mono ?_); rintro e w' ⟨rfl, ⟨nd, rfl⟩⟩; refine ⟨_, rfl, ?_⟩))
 go_ret
 exact ⟨ze_, zbf_⟩
mutual
def spec_ddSame.j0 : Nat → Bool → Int → List (S93) → Int → Int → List (S93) → Int → Option (Bool)
 | 0, _, _, _, _, _, _, _ => none
 | k + 1, x27, x116000, x116001, x116002, x117000, x117001, x117002 => if x27 = true then (some false) else (spec_ddSame.l0 k x116001 (x116001.length : Int) 0 x117000 x117001 x117002)
def spec_ddSame.l0 : Nat → List (S93) → Int → Int → Int → List (S93) → Int → Option (Bool)
 | 0, _, _, _, _, _, _ => none
 | k + 1, x29, x30, x31, x117000, x117001, x117002 => if x31 < x30 then (if 0 ≤ x31 then (if x31 < (x29.length : Int) then (if x31 < (x117001.length : Int) then (if (!(((rd_T93 x29 x31).f0) == ((rd_T93 x117001 x31).f0)) || (!(((rd_T93 x29 x31).f1) == ((rd_T93 x117001 x31).f1)) || (!(((rd_T93 x29 x31).f2) == ((rd_T93 x117001 x31).f2))))) = true then (some false) else (spec_ddSame.l0 k x29 x30 (wrap64 (x31 + 1)) x117000 x117001 x117002)) else (none)) else (none)) else (none)) else (some true)
end
def spec_ddSame.f (k : Nat) (a0_0 : Int) (l0_1 : List (S93)) (a0_2 : Int) (a1_0 : Int) (l1_1 : List (S93)) (a1_2 : Int) : Option (Bool) := if a0_0 = a1_0 then (if a0_2 = a1_2 then (spec_ddSame.j0 k ((l0_1.length : Int) != (l1_1.length : Int)) a0_0 l0_1 a0_2 a1_0 l1_1 a1_2) else (spec_ddSame.j0 k true a0_0 l0_1 a0_2 a1_0 l1_1 a1_2)) else (spec_ddSame.j0 k true a0_0 l0_1 a0_2 a1_0 l1_1 a1_2)
theorem spec_ddSame.mono_l : ∀ k, (∀ y0 y1 y2 y3 y4 y5 y6, LeO (spec_ddSame.j0 k y0 y1 y2 y3 y4 y5 y6) (spec_ddSame.j0 (k + 1) y0 y1 y2 y3 y4 y5 y6)) ∧ (∀ y0 y1 y2 y3 y4 y5, LeO (spec_ddSame.l0 k y0 y1 y2 y3 y4 y5) (spec_ddSame.l0 (k + 1) y0 y1 y2 y3 y4 y5))
 | 0 => ⟨fun _ _ _ _ _ _ _ r h => by simp [spec_ddSame.j0] at h, fun _ _ _ _ _ _ r h => by simp [spec_ddSame.l0] at h⟩
 | k + 1 => by
  obtain ⟨ih0, ih1⟩ := spec_ddSame.mono_l k
  refine ⟨?_, ?_⟩
  ·intro y0 y1 y2 y3 y4 y5 y6
   unfold spec_ddSame.j0
   repeat' first
   | (with_reducible exact ih0 _ _ _ _ _ _ _)
   | (with_reducible exact ih1 _ _ _ _ _ _)
   | (with_reducible exact LeO.refl _)
   | (with_reducible exact LeO.none _)
   | (with_reducible refine LeO.ite ?_ ?_)
   | (with_reducible refine LeO.bind ?_ (fun _ => ?_))
   | exact ih0 _ _ _ _ _ _ _
   | exact ih1 _ _ _ _ _ _
   | exact LeO.none _
   | refine LeO.ite ?_ ?_
   | refine LeO.bind ?_ (fun _ => ?_)
  ·intro y0 y1 y2 y3 y4 y5
   unfold spec_ddSame.l0
   repeat' first
   | (with_reducible exact ih0 _ _ _ _ _ _ _)
   | (with_reducible exact ih1 _ _ _ _ _ _)
   | (with_reducible exact LeO.refl _)
   | (with_reducible exact LeO.none _)
   | (with_reducible refine LeO.ite ?_ ?_)
   | (with_reducible refine LeO.bind ?_ (fun _ => ?_))
   | exact ih0 _ _ _ _ _ _ _
   | exact ih1 _ _ _ _ _ _
   | exact LeO.none _
   | refine LeO.ite ?_ ?_
   | refine LeO.bind ?_ (fun _ => ?_)
theorem spec_ddSame.mono : ∀ a0 a1 a2 a3 a4 a5 k, LeO (spec_ddSame.f k a0 a1 a2 a3 a4 a5) (spec_ddSame.f (k + 1) a0 a1 a2 a3 a4 a5) := by
 intro a0 a1 a2 a3 a4 a5 k
 obtain ⟨ih0, ih1⟩ := spec_ddSame.mono_l k
 unfold spec_ddSame.f
 repeat' first
   | (with_reducible exact ih0 _ _ _ _ _ _ _)
   | (with_reducible exact ih1 _ _ _ _ _ _)
   | (with_reducible exact LeO.refl _)
   | (with_reducible exact LeO.none _)
   | (with_reducible refine LeO.ite ?_ ?_)
   | (with_reducible refine LeO.bind ?_ (fun _ => ?_))
   | exact ih0 _ _ _ _ _ _ _
   | exact ih1 _ _ _ _ _ _
   | exact LeO.none _
   | refine LeO.ite ?_ ?_
   | refine LeO.bind ?_ (fun _ => ?_)
set_option maxHeartbeats 8000000 in
set_option maxRecDepth 100000 in
theorem spec_ddSame.calls (k : Nat) (a0_0 : Int) (A0_1 : Option Addr) (c0_1 : Nat) (l0_1 : List (S93)) (a0_2 : Int) (a1_0 : Int) (A1_1 : Option Addr) (c1_1 : Nat) (l1_1 : List (S93)) (a1_2 : Int) (r : Bool) (w : World) (hr0_1 : Kd.C k93 w A0_1 l0_1.length l0_1) (hc0_1 : l0_1.length ≤ c0_1) (hr1_1 : Kd.C k93 w A1_1 l1_1.length l1_1) (hc1_1 : l1_1.length ≤ c1_1) (h : spec_ddSame.f k a0_0 l0_1 a0_2 a1_0 l1_1 a1_2 = some r) :
  Calls Try.prog 102 #[.agg #[.int .i64 a0_0, .slice A0_1 l0_1.length c0_1, .int .i64 a0_2], .agg #[.int .i64 a1_0, .slice A1_1 l1_1.length c1_1, .int .i64 a1_2]] w fun e w' => e = .returned (.bool r) ∧ Below w.heap.size w w' := by
 have hu28 := Try.underlying28
 have hu93 := Try.underlying93
 have HR0_1 := aM hr0_1
 have HC0_1 := aM hc0_1
 clear hr0_1 hc0_1
 have HR1_1 := aM hr1_1
 have HC1_1 := aM hc1_1
 clear hr1_1 hc1_1
 have HB := aM (Below.refl w.heap.size w)
 have H : (if a0_0 = a1_0 then (if a0_2 = a1_2 then (spec_ddSame.j0 k ((l0_1.length : Int) != (l1_1.length : Int)) a0_0 l0_1 a0_2 a1_0 l1_1 a1_2) else (spec_ddSame.j0 k true a0_0 l0_1 a0_2 a1_0 l1_1 a1_2)) else (spec_ddSame.j0 k true a0_0 l0_1 a0_2 a1_0 l1_1 a1_2)) = some r := h
 clear h
 have HC3 := aM H
 clear H
 go_enter Try.func102, Try.ntmps102
 go_upto_region 1 with (first | ((with_reducible refine gate_dst (N := 2) rfl ?_); (try (refine gate_guard (by rfl) ?_; dsimp only)); refine box_event ?hg (N := 2) ?hd (cs := #[.int .i64 a0_0, .slice A0_1 l0_1.length c0_1, .int .i64 a0_2]) (t := 28) ?hr ?_; (case hd => rfl); (case hg => rfl); (case hr => exact zb_); intro gb115 hg w4 hbox hb; have n_ := z (below_step za_ hb) <| z (hbox) <| z ((by rw [hg]; exact (below_size za_) : w.heap.size ≤ gb115)) <| z1 ((by rw [hg]; exact (below_size za_) : w.heap.size ≤ gb115)); clear HB; obtain ⟨HB, BK115, GW115, GE115⟩ := n_; clear hb hbox hg) | ((with_reducible refine gate_dst (N := 3) rfl ?_); (try (refine gate_guard (by rfl) ?_; dsimp only)); refine box_event ?hg (N := 3) ?hd (cs := #[.int .i64 a1_0, .slice A1_1 l1_1.length c1_1, .int .i64 a1_2]) (t := 28) ?hr ?_; (case hd => rfl); (case hg => rfl); (case hr => exact zb_); intro gb116 hg w5 hbox hb; have n_ := z (blk_below (zb BK115.out) hb) <| z (below_step zdh_ hb) <| z (hbox) <| z ((by rw [hg]; exact (below_size zdh_) : w.heap.size ≤ gb116)) <| z ((by rw [hg]; exact (below_size zdh_) : w.heap.size ≤ gb116)) <| z ((by rw [hg]; exact Nat.ne_of_lt (blk_lt (zb BK115.out)) : gb115 ≠ gb116)) <| z1 ((by rw [hg]; exact Nat.ne_of_gt (blk_lt (zb BK115.out)) : gb116 ≠ gb115)); clear BK115 HB; obtain ⟨BK115, HB, BK116, GW116, GE116, NB115_116, NB116_115⟩ := n_; clear hb hbox hg))
 repeat (go_quiet (first | ((with_reducible refine gate_dst (N := 2) rfl ?_); (try (refine gate_guard (by rfl) ?_; dsimp only)); refine box_event ?hg (N := 2) ?hd (cs := #[.int .i64 a0_0, .slice A0_1 l0_1.length c0_1, .int .i64 a0_2]) (t := 28) ?hr ?_; (case hd => rfl); (case hg => rfl); (case hr => exact zb_); intro gb115 hg w4 hbox hb; have n_ := z (below_step za_ hb) <| z (hbox) <| z ((by rw [hg]; exact (below_size za_) : w.heap.size ≤ gb115)) <| z1 ((by rw [hg]; exact (below_size za_) : w.heap.size ≤ gb115)); clear HB; obtain ⟨HB, BK115, GW115, GE115⟩ := n_; clear hb hbox hg) | ((with_reducible refine gate_dst (N := 3) rfl ?_); (try (refine gate_guard (by rfl) ?_; dsimp only)); refine box_event ?hg (N := 3) ?hd (cs := #[.int .i64 a1_0, .slice A1_1 l1_1.length c1_1, .int .i64 a1_2]) (t := 28) ?hr ?_; (case hd => rfl); (case hg => rfl); (case hr => exact zb_); intro gb116 hg w5 hbox hb; have n_ := z (blk_below (zb BK115.out) hb) <| z (below_step zdh_ hb) <| z (hbox) <| z ((by rw [hg]; exact (below_size zdh_) : w.heap.size ≤ gb116)) <| z ((by rw [hg]; exact (below_size zdh_) : w.heap.size ≤ gb116)) <| z ((by rw [hg]; exact Nat.ne_of_lt (blk_lt (zb BK115.out)) : gb115 ≠ gb116)) <| z1 ((by rw [hg]; exact Nat.ne_of_gt (blk_lt (zb BK115.out)) : gb116 ≠ gb115)); clear BK115 HB; obtain ⟨BK115, HB, BK116, GW116, GE116, NB115_116, NB116_115⟩ := n_; clear hb hbox hg)); go_upto_region 1 with (first | ((with_reducible refine gate_dst (N := 2) rfl ?_); (try (refine gate_guard (by rfl) ?_; dsimp only)); refine box_event ?hg (N := 2) ?hd (cs := #[.int .i64 a0_0, .slice A0_1 l0_1.length c0_1, .int .i64 a0_2]) (t := 28) ?hr ?_; (case hd => rfl); (case hg => rfl); (case hr => exact zb_); intro gb115 hg w4 hbox hb; have n_ := z (below_step za_ hb) <| z (hbox) <| z ((by rw [hg]; exact (below_size za_) : w.heap.size ≤ gb115)) <| z1 ((by rw [hg]; exact (below_size za_) : w.heap.size ≤ gb115)); clear HB; obtain ⟨HB, BK115, GW115, GE115⟩ := n_; clear hb hbox hg) | ((with_reducible refine gate_dst (N := 3) rfl ?_); (try (refine gate_guard (by rfl) ?_; dsimp only)); refine box_event ?hg (N := 3) ?hd (cs := #[.int .i64 a1_0, .slice A1_1 l1_1.length c1_1, .int .i64 a1_2]) (t := 28) ?hr ?_; (case hd => rfl); (case hg => rfl); (case hr => exact zb_); intro gb116 hg w5 hbox hb; have n_ := z (blk_below (zb BK115.out) hb) <| z (below_step zdh_ hb) <| z (hbox) <| z ((by rw [hg]; exact (below_size zdh_) : w.heap.size ≤ gb116)) <| z ((by rw [hg]; exact (below_size zdh_) : w.heap.size ≤ gb116)) <| z ((by rw [hg]; exact Nat.ne_of_lt (blk_lt (zb BK115.out)) : gb115 ≠ gb116)) <| z1 ((by rw [hg]; exact Nat.ne_of_gt (blk_lt (zb BK115.out)) : gb116 ≠ gb115)); clear BK115 HB; obtain ⟨BK115, HB, BK116, GW116, GE116, NB115_116, NB116_115⟩ := n_; clear hb hbox hg)))
 (try simp only [Act.put, sI, s0, sS])
 go_cut [27] (fun v27 wc => ∃ (kq : Nat) (x27_2 : Bool), v27 = .bool x27_2 ∧ Aside0 (spec_ddSame.j0 kq x27_2 a0_0 l0_1 a0_2 a1_0 l1_1 a1_2 = some r) ∧ Aside0 (kq ≤ k) ∧ Aside0 (wc.heap[gb115]? = some (.cells #[.int .i64 a0_0, (.slice A0_1 l0_1.length c0_1), .int .i64 a0_2] 28 (0, 0))) ∧ Aside0 (wc.heap[gb116]? = some (.cells #[.int .i64 a1_0, (.slice A1_1 l1_1.length c1_1), .int .i64 a1_2] 28 (0, 0))) ∧ Aside0 (Below w.heap.size w wc))
 case first =>
  have H := HC3.out; clear HC3
  by_cases c6 : a0_0 = a1_0
  ·rw [if_pos c6] at H
   have c6b0 := beq_iff_eq.mpr c6; have c6b1 := bne_eq_false_iff_eq.mpr c6; clear c6; (first | rw [c6b0] | (simp only [i64_w, i32_w]; rw [c6b0]) | skip)
   by_cases c7 : a0_2 = a1_2
   ·rw [if_pos c7] at H
    have c7b0 := beq_iff_eq.mpr c7; have c7b1 := bne_eq_false_iff_eq.mpr c7; clear c7; have H' := aM H; clear H; have hnb8 := NB115_116.out; have hnc8 := NB116_115.out; have hcz9_0 : w5.cell? ⟨gb115, 0, none⟩ = some (.int .i64 a0_0) := (blk_cell BK115.out 0).trans rfl; have hcz9_1 : w5.cell? ⟨gb115, 1, none⟩ = some (.slice A0_1 l0_1.length c0_1) := (blk_cell BK115.out 1).trans rfl; have hcz9_2 : w5.cell? ⟨gb115, 2, none⟩ = some (.int .i64 a0_2) := (blk_cell BK115.out 2).trans rfl; have hfz9_0 := blk_frozen BK115.out 0; have hfz9_1 := blk_frozen BK115.out 1; have hfz9_2 := blk_frozen BK115.out 2; have hcz10_0 : w5.cell? ⟨gb116, 0, none⟩ = some (.int .i64 a1_0) := (blk_cell BK116.out 0).trans rfl; have hcz10_1 : w5.cell? ⟨gb116, 1, none⟩ = some (.slice A1_1 l1_1.length c1_1) := (blk_cell BK116.out 1).trans rfl; have hcz10_2 : w5.cell? ⟨gb116, 2, none⟩ = some (.int .i64 a1_2) := (blk_cell BK116.out 2).trans rfl; have hfz10_0 := blk_frozen BK116.out 0; have hfz10_1 := blk_frozen BK116.out 1; have hfz10_2 := blk_frozen BK116.out 2
    go_wp2
    repeat (go_quiet (fail); try go_wp2)
    go_meet
    case rel => exact ⟨_, (((l0_1.length : Int) != (l1_1.length : Int))), ze_, H', ⟨zbh_⟩, ⟨zb BK115.out⟩, ⟨zb BK116.out⟩, ⟨zbi_⟩⟩
   ·rw [if_neg c7] at H
    have c7b0 := beq_eq_false_iff_ne.mpr c7; have c7b1 := bne_iff_ne.mpr c7; have H' := aM H; clear H; have hnb11 := NB115_116.out; have hnc11 := NB116_115.out; have hcz12_0 : w5.cell? ⟨gb115, 0, none⟩ = some (.int .i64 a0_0) := (blk_cell BK115.out 0).trans rfl; have hcz12_1 : w5.cell? ⟨gb115, 1, none⟩ = some (.slice A0_1 l0_1.length c0_1) := (blk_cell BK115.out 1).trans rfl; have hcz12_2 : w5.cell? ⟨gb115, 2, none⟩ = some (.int .i64 a0_2) := (blk_cell BK115.out 2).trans rfl; have hfz12_0 := blk_frozen BK115.out 0; have hfz12_1 := blk_frozen BK115.out 1; have hfz12_2 := blk_frozen BK115.out 2; have hcz13_0 : w5.cell? ⟨gb116, 0, none⟩ = some (.int .i64 a1_0) := (blk_cell BK116.out 0).trans rfl; have hcz13_1 : w5.cell? ⟨gb116, 1, none⟩ = some (.slice A1_1 l1_1.length c1_1) := (blk_cell BK116.out 1).trans rfl; have hcz13_2 : w5.cell? ⟨gb116, 2, none⟩ = some (.int .i64 a1_2) := (blk_cell BK116.out 2).trans rfl; have hfz13_0 := blk_frozen BK116.out 0; have hfz13_1 := blk_frozen BK116.out 1; have hfz13_2 := blk_frozen BK116.out 2
    go_wp2
    repeat (go_quiet (fail); try go_wp2)
    go_meet
    case rel => exact ⟨_, (true), ze_, H', ⟨zbh_⟩, ⟨zb BK115.out⟩, ⟨zb BK116.out⟩, ⟨zbi_⟩⟩
  ·rw [if_neg c6] at H
   have c6b0 := beq_eq_false_iff_ne.mpr c6; have c6b1 := bne_iff_ne.mpr c6; (first | rw [c6b0] | (simp only [i64_w, i32_w]; rw [c6b0]) | skip); have H' := aM H; clear H; have hnb14 := NB115_116.out; have hnc14 := NB116_115.out; have hcz15_0 : w5.cell? ⟨gb115, 0, none⟩ = some (.int .i64 a0_0) := (blk_cell BK115.out 0).trans rfl; have hcz15_1 : w5.cell? ⟨gb115, 1, none⟩ = some (.slice A0_1 l0_1.length c0_1) := (blk_cell BK115.out 1).trans rfl; have hcz15_2 : w5.cell? ⟨gb115, 2, none⟩ = some (.int .i64 a0_2) := (blk_cell BK115.out 2).trans rfl; have hfz15_0 := blk_frozen BK115.out 0; have hfz15_1 := blk_frozen BK115.out 1; have hfz15_2 := blk_frozen BK115.out 2; have hcz16_0 : w5.cell? ⟨gb116, 0, none⟩ = some (.int .i64 a1_0) := (blk_cell BK116.out 0).trans rfl; have hcz16_1 : w5.cell? ⟨gb116, 1, none⟩ = some (.slice A1_1 l1_1.length c1_1) := (blk_cell BK116.out 1).trans rfl; have hcz16_2 : w5.cell? ⟨gb116, 2, none⟩ = some (.int .i64 a1_2) := (blk_cell BK116.out 2).trans rfl; have hfz16_0 := blk_frozen BK116.out 0; have hfz16_1 := blk_frozen BK116.out 1; have hfz16_2 := blk_frozen BK116.out 2
   go_wp2
   repeat (go_quiet (fail); try go_wp2)
   go_meet
   case rel => exact ⟨_, (true), ze_, H', ⟨zbh_⟩, ⟨zb BK115.out⟩, ⟨zb BK116.out⟩, ⟨zbi_⟩⟩
 case rest =>
  clear HC3; obtain ⟨kq, x27_2, rfl, HA, HJ2, BK115, BK116, HB⟩ := hcut
  cases kq with
  | zero => exact absurd HA.out (by simp [spec_ddSame.j0])
  | succ kj2 =>
   have H := HA.out; clear HA
   simp only [spec_ddSame.j0] at H
   by_cases c17 : x27_2 = true
   ·subst c17
    have H1 : (some false) = some r := by rw [if_pos rfl] at H; exact H
    clear H; have H := H1; clear H1; obtain rfl := Option.some.inj H
    go_wp2
    repeat (go_quiet (fail); try go_wp2)
    go_ret
    exact ⟨zf_, zbi_⟩
   ·replace c17 := Bool.eq_false_iff.mpr c17
    subst c17; have H1 : (spec_ddSame.l0 kj2 l0_1 (l0_1.length : Int) 0 a1_0 l1_1 a1_2) = some r := by rw [if_neg (show ¬ (false = true) by decide)] at H; exact H
    clear H; have H := H1; clear H1; have H' := aM H; clear H; have hnb18 := NB115_116.out; have hnc18 := NB116_115.out; have hcz19_0 : wc.cell? ⟨gb115, 0, none⟩ = some (.int .i64 a0_0) := (blk_cell BK115.out 0).trans rfl; have hcz19_1 : wc.cell? ⟨gb115, 1, none⟩ = some (.slice A0_1 l0_1.length c0_1) := (blk_cell BK115.out 1).trans rfl; have hcz19_2 : wc.cell? ⟨gb115, 2, none⟩ = some (.int .i64 a0_2) := (blk_cell BK115.out 2).trans rfl; have hfz19_0 := blk_frozen BK115.out 0; have hfz19_1 := blk_frozen BK115.out 1; have hfz19_2 := blk_frozen BK115.out 2
    go_wp2
    repeat (go_quiet (fail); try go_wp2)
    go_loopg [31] kj2 (fun kq v31 w' => ∃ (x31_2 : Int), v31 = .int .i64 x31_2 ∧ Aside0 (spec_ddSame.l0 kq l0_1 (l0_1.length : Int) x31_2 a1_0 l1_1 a1_2 = some r) ∧ Aside0 (kq ≤ kj2) ∧ Aside0 (w'.heap[gb115]? = some (.cells #[.int .i64 a0_0, (.slice A0_1 l0_1.length c0_1), .int .i64 a0_2] 28 (0, 0))) ∧ Aside0 (w'.heap[gb116]? = some (.cells #[.int .i64 a1_0, (.slice A1_1 l1_1.length c1_1), .int .i64 a1_2] 28 (0, 0))) ∧ Aside0 (Below w.heap.size w w'))
    case atStart => exact ⟨(0), ze_, H', ⟨Nat.le_refl _⟩, ⟨zb BK115.out⟩, ⟨zb BK116.out⟩, ⟨zbi_⟩⟩
    case round =>
     clear H'; (try clear hcz19_0); (try clear hcz19_1); (try clear hcz19_2); (try clear hfz19_0); (try clear hfz19_1); (try clear hfz19_2); obtain ⟨x31_2, rfl, HA, HK2, BK115, BK116, HB⟩ := hrel
     cases gk with
     | zero => exact absurd HA.out (by simp [spec_ddSame.l0])
     | succ k2 =>
      have H := HA.out; clear HA
      simp only [spec_ddSame.l0] at H
      by_cases c20 : x31_2 < (l0_1.length : Int)
      ·rw [if_pos c20] at H
       have c20b0 := decide_eq_true c20; clear c20
       by_cases c21 : 0 ≤ x31_2
       ·rw [if_pos c21] at H
        have c21b0 := decide_eq_true c21; clear c21
        by_cases c22 : x31_2 < (l0_1.length : Int)
        ·rw [if_pos c22] at H
         have c22b0 := decide_eq_true c22; clear c22
         by_cases c23 : x31_2 < (l1_1.length : Int)
         ·rw [if_pos c23] at H
          have c23b0 := decide_eq_true c23; clear c23
          by_cases c24 : (!(((rd_T93 l0_1 x31_2).f0) == ((rd_T93 l1_1 x31_2).f0)) || (!(((rd_T93 l0_1 x31_2).f1) == ((rd_T93 l1_1 x31_2).f1)) || (!(((rd_T93 l0_1 x31_2).f2) == ((rd_T93 l1_1 x31_2).f2))))) = true
          ·rw [if_pos c24] at H
           have c24b0 : (!(((rd_T93 l0_1 x31_2).f0) == ((rd_T93 l1_1 x31_2).f0)) || (!(((rd_T93 l0_1 x31_2).f1) == ((rd_T93 l1_1 x31_2).f1)) || (!(((rd_T93 l0_1 x31_2).f2) == ((rd_T93 l1_1 x31_2).f2))))) = true := c24; clear c24; obtain rfl := Option.some.inj H; have p117 : 0 ≤ (x31_2 : Int) := of_decide_eq_true zc_; have q117 : x31_2 < (l0_1.length : Int) := of_decide_eq_true zc_; obtain ⟨ad117, e117, hx117_0, hx117_1, hx117_2⟩ := at_T93 HR0_1.out x31_2 p117 q117
           cases e117
           (try (replace hx117_0 := (HB.out.cell (World.block_lt_of_cell? w _ hx117_0)).trans hx117_0)); (try (replace hx117_1 := (HB.out.cell (World.block_lt_of_cell? w _ hx117_1)).trans hx117_1)); (try (replace hx117_2 := (HB.out.cell (World.block_lt_of_cell? w _ hx117_2)).trans hx117_2)); replace p117 := eq_true p117; replace q117 := eq_true q117
           go_wp2_with (first | ((with_reducible refine gate_dst (N := 6) rfl ?_); (try (refine gate_guard (by rfl) ?_; dsimp only)); refine box_event ?hg (N := 6) ?hd (cs := #[.int .i64 0, .int .i64 0, .int .i64 0]) (t := 93) ?hr ?_; (case hd => rfl); (case hg => rfl); (case hr => exact zb_); intro gb118 hg w25 hbox hb; have n_ := z (blk_below (zb BK115.out) hb) <| z (blk_below (zb BK116.out) hb) <| z (below_step zbi_ hb) <| z (hbox) <| z ((by rw [hg]; exact (below_size zbi_) : w.heap.size ≤ gb118)) <| z ((by rw [hg]; exact (below_size zbi_) : w.heap.size ≤ gb118)) <| z ((by rw [hg]; exact Nat.ne_of_lt (blk_lt (zb BK115.out)) : gb115 ≠ gb118)) <| z ((by rw [hg]; exact Nat.ne_of_gt (blk_lt (zb BK115.out)) : gb118 ≠ gb115)) <| z ((by rw [hg]; exact Nat.ne_of_lt (blk_lt (zb BK116.out)) : gb116 ≠ gb118)) <| z1 ((by rw [hg]; exact Nat.ne_of_gt (blk_lt (zb BK116.out)) : gb118 ≠ gb116)); clear BK115 BK116 HB; obtain ⟨BK115, BK116, HB, BK118, GW118, GE118, NB115_118, NB118_115, NB116_118, NB118_116⟩ := n_; clear hb hbox hg; have hnb26 := NB118_115.out; have hnc26 := NB115_118.out; have hnb27 := NB118_116.out; have hnc27 := NB116_118.out; have hcz28_0 : w25.cell? ⟨gb118, 0, none⟩ = some (.int .i64 0) := (blk_cell BK118.out 0).trans rfl; have hcz28_1 : w25.cell? ⟨gb118, 1, none⟩ = some (.int .i64 0) := (blk_cell BK118.out 1).trans rfl; have hcz28_2 : w25.cell? ⟨gb118, 2, none⟩ = some (.int .i64 0) := (blk_cell BK118.out 2).trans rfl; have hfz28_0 := blk_frozen BK118.out 0; have hfz28_1 := blk_frozen BK118.out 1; have hfz28_2 := blk_frozen BK118.out 2; have hnb29 := NB116_115.out; have hnc29 := NB115_116.out; have hcz30_0 : w25.cell? ⟨gb116, 0, none⟩ = some (.int .i64 a1_0) := (blk_cell BK116.out 0).trans rfl; have hcz30_1 : w25.cell? ⟨gb116, 1, none⟩ = some (.slice A1_1 l1_1.length c1_1) := (blk_cell BK116.out 1).trans rfl; have hcz30_2 : w25.cell? ⟨gb116, 2, none⟩ = some (.int .i64 a1_2) := (blk_cell BK116.out 2).trans rfl; have hfz30_0 := blk_frozen BK116.out 0; have hfz30_1 := blk_frozen BK116.out 1; have hfz30_2 := blk_frozen BK116.out 2; have p119 : 0 ≤ (x31_2 : Int) := of_decide_eq_true zc_; have q119 : x31_2 < (l1_1.length : Int) := of_decide_eq_true zc_; obtain ⟨ad119, e119, hx119_0, hx119_1, hx119_2⟩ := at_T93 HR1_1.out x31_2 p119 q119; cases e119; have hn119_0 : ad119.block ≠ gb118 := Nat.ne_of_lt (Nat.lt_of_lt_of_le zce_ GW118.out); have hn119_1 : ad119.block ≠ gb118 := Nat.ne_of_lt (Nat.lt_of_lt_of_le zce_ GW118.out); have hn119_2 : ad119.block ≠ gb118 := Nat.ne_of_lt (Nat.lt_of_lt_of_le zce_ GW118.out); replace hx119_0 := (HB.out.cell (World.block_lt_of_cell? w _ hx119_0)).trans hx119_0; replace hx119_1 := (HB.out.cell (World.block_lt_of_cell? w _ hx119_1)).trans hx119_1; replace hx119_2 := (HB.out.cell (World.block_lt_of_cell? w _ hx119_2)).trans hx119_2; replace hx119_0 := (cell_far (p := ⟨gb118, 0, none⟩) zcf_ (.int .i64 ((rd_T93 l0_1 x31_2).f0))).trans hx119_0; replace hx119_1 := (cell_far (p := ⟨gb118, 0, none⟩) zcf_ (.int .i64 ((rd_T93 l0_1 x31_2).f0))).trans hx119_1; replace hx119_2 := (cell_far (p := ⟨gb118, 0, none⟩) zcf_ (.int .i64 ((rd_T93 l0_1 x31_2).f0))).trans hx119_2; replace hx119_0 := (cell_far (p := ⟨gb118, 1, none⟩) zcg_ (.int .i64 ((rd_T93 l0_1 x31_2).f1))).trans hx119_0; replace hx119_1 := (cell_far (p := ⟨gb118, 1, none⟩) zcg_ (.int .i64 ((rd_T93 l0_1 x31_2).f1))).trans hx119_1; replace hx119_2 := (cell_far (p := ⟨gb118, 1, none⟩) zcg_ (.int .i64 ((rd_T93 l0_1 x31_2).f1))).trans hx119_2; replace hx119_0 := (cell_far (p := ⟨gb118, 2, none⟩) zch_ (.int .i64 ((rd_T93 l0_1 x31_2).f2))).trans hx119_0; replace hx119_1 := (cell_far (p := ⟨gb118, 2, none⟩) zch_ (.int .i64 ((rd_T93 l0_1 x31_2).f2))).trans hx119_1; replace hx119_2 := (cell_far (p := ⟨gb118, 2, none⟩) zch_ (.int .i64 ((rd_T93 l0_1 x31_2).f2))).trans hx119_2; (try have hy119_0 := fun (n_ : Nat) => (show (((((w25.drewN n_).setCell ⟨gb118, 0, none⟩ (.int .i64 ((rd_T93 l0_1 x31_2).f0))).setCell ⟨gb118, 1, none⟩ (.int .i64 ((rd_T93 l0_1 x31_2).f1))).setCell ⟨gb118, 2, none⟩ (.int .i64 ((rd_T93 l0_1 x31_2).f2)))).cell? _ = some _ from hx119_0)); (try have hy119_1 := fun (n_ : Nat) => (show (((((w25.drewN n_).setCell ⟨gb118, 0, none⟩ (.int .i64 ((rd_T93 l0_1 x31_2).f0))).setCell ⟨gb118, 1, none⟩ (.int .i64 ((rd_T93 l0_1 x31_2).f1))).setCell ⟨gb118, 2, none⟩ (.int .i64 ((rd_T93 l0_1 x31_2).f2)))).cell? _ = some _ from hx119_1)); (try have hy119_2 := fun (n_ : Nat) => (show (((((w25.drewN n_).setCell ⟨gb118, 0, none⟩ (.int .i64 ((rd_T93 l0_1 x31_2).f0))).setCell ⟨gb118, 1, none⟩ (.int .i64 ((rd_T93 l0_1 x31_2).f1))).setCell ⟨gb118, 2, none⟩ (.int .i64 ((rd_T93 l0_1 x31_2).f2)))).cell? _ = some _ from hx119_2)); clear hn119_0 hn119_1 hn119_2; replace p119 := eq_true p119; replace q119 := eq_true q119))
           repeat (go_quiet (first | ((with_reducible refine gate_dst (N := 6) rfl ?_); (try (refine gate_guard (by rfl) ?_; dsimp only)); refine box_event ?hg (N := 6) ?hd (cs := #[.int .i64 0, .int .i64 0, .int .i64 0]) (t := 93) ?hr ?_; (case hd => rfl); (case hg => rfl); (case hr => exact zb_); intro gb118 hg w25 hbox hb; have n_ := z (blk_below (zb BK115.out) hb) <| z (blk_below (zb BK116.out) hb) <| z (below_step zbi_ hb) <| z (hbox) <| z ((by rw [hg]; exact (below_size zbi_) : w.heap.size ≤ gb118)) <| z ((by rw [hg]; exact (below_size zbi_) : w.heap.size ≤ gb118)) <| z ((by rw [hg]; exact Nat.ne_of_lt (blk_lt (zb BK115.out)) : gb115 ≠ gb118)) <| z ((by rw [hg]; exact Nat.ne_of_gt (blk_lt (zb BK115.out)) : gb118 ≠ gb115)) <| z ((by rw [hg]; exact Nat.ne_of_lt (blk_lt (zb BK116.out)) : gb116 ≠ gb118)) <| z1 ((by rw [hg]; exact Nat.ne_of_gt (blk_lt (zb BK116.out)) : gb118 ≠ gb116)); clear BK115 BK116 HB; obtain ⟨BK115, BK116, HB, BK118, GW118, GE118, NB115_118, NB118_115, NB116_118, NB118_116⟩ := n_; clear hb hbox hg; have hnb26 := NB118_115.out; have hnc26 := NB115_118.out; have hnb27 := NB118_116.out; have hnc27 := NB116_118.out; have hcz28_0 : w25.cell? ⟨gb118, 0, none⟩ = some (.int .i64 0) := (blk_cell BK118.out 0).trans rfl; have hcz28_1 : w25.cell? ⟨gb118, 1, none⟩ = some (.int .i64 0) := (blk_cell BK118.out 1).trans rfl; have hcz28_2 : w25.cell? ⟨gb118, 2, none⟩ = some (.int .i64 0) := (blk_cell BK118.out 2).trans rfl; have hfz28_0 := blk_frozen BK118.out 0; have hfz28_1 := blk_frozen BK118.out 1; have hfz28_2 := blk_frozen BK118.out 2; have hnb29 := NB116_115.out; have hnc29 := NB115_116.out; have hcz30_0 : w25.cell? ⟨gb116, 0, none⟩ = some (.int .i64 a1_0) := (blk_cell BK116.out 0).trans rfl; have hcz30_1 : w25.cell? ⟨gb116, 1, none⟩ = some (.slice A1_1 l1_1.length c1_1) := (blk_cell BK116.out 1).trans rfl; have hcz30_2 : w25.cell? ⟨gb116, 2, none⟩ = some (.int .i64 a1_2) := (blk_cell BK116.out 2).trans rfl; have hfz30_0 := blk_frozen BK116.out 0; have hfz30_1 := blk_frozen BK116.out 1; have hfz30_2 := blk_frozen BK116.out 2; have p119 : 0 ≤ (x31_2 : Int) := of_decide_eq_true zc_; have q119 : x31_2 < (l1_1.length : Int) := of_decide_eq_true zc_; obtain ⟨ad119, e119, hx119_0, hx119_1, hx119_2⟩ := at_T93 HR1_1.out x31_2 p119 q119; cases e119; have hn119_0 : ad119.block ≠ gb118 := Nat.ne_of_lt (Nat.lt_of_lt_of_le zce_ GW118.out); have hn119_1 : ad119.block ≠ gb118 := Nat.ne_of_lt (Nat.lt_of_lt_of_le zce_ GW118.out); have hn119_2 : ad119.block ≠ gb118 := Nat.ne_of_lt (Nat.lt_of_lt_of_le zce_ GW118.out); replace hx119_0 := (HB.out.cell (World.block_lt_of_cell? w _ hx119_0)).trans hx119_0; replace hx119_1 := (HB.out.cell (World.block_lt_of_cell? w _ hx119_1)).trans hx119_1; replace hx119_2 := (HB.out.cell (World.block_lt_of_cell? w _ hx119_2)).trans hx119_2; replace hx119_0 := (cell_far (p := ⟨gb118, 0, none⟩) zcf_ (.int .i64 ((rd_T93 l0_1 x31_2).f0))).trans hx119_0; replace hx119_1 := (cell_far (p := ⟨gb118, 0, none⟩) zcf_ (.int .i64 ((rd_T93 l0_1 x31_2).f0))).trans hx119_1; replace hx119_2 := (cell_far (p := ⟨gb118, 0, none⟩) zcf_ (.int .i64 ((rd_T93 l0_1 x31_2).f0))).trans hx119_2; replace hx119_0 := (cell_far (p := ⟨gb118, 1, none⟩) zcg_ (.int .i64 ((rd_T93 l0_1 x31_2).f1))).trans hx119_0; replace hx119_1 := (cell_far (p := ⟨gb118, 1, none⟩) zcg_ (.int .i64 ((rd_T93 l0_1 x31_2).f1))).trans hx119_1; replace hx119_2 := (cell_far (p := ⟨gb118, 1, none⟩) zcg_ (.int .i64 ((rd_T93 l0_1 x31_2).f1))).trans hx119_2; replace hx119_0 := (cell_far (p := ⟨gb118, 2, none⟩) zch_ (.int .i64 ((rd_T93 l0_1 x31_2).f2))).trans hx119_0; replace hx119_1 := (cell_far (p := ⟨gb118, 2, none⟩) zch_ (.int .i64 ((rd_T93 l0_1 x31_2).f2))).trans hx119_1; replace hx119_2 := (cell_far (p := ⟨gb118, 2, none⟩) zch_ (.int .i64 ((rd_T93 l0_1 x31_2).f2))).trans hx119_2; (try have hy119_0 := fun (n_ : Nat) => (show (((((w25.drewN n_).setCell ⟨gb118, 0, none⟩ (.int .i64 ((rd_T93 l0_1 x31_2).f0))).setCell ⟨gb118, 1, none⟩ (.int .i64 ((rd_T93 l0_1 x31_2).f1))).setCell ⟨gb118, 2, none⟩ (.int .i64 ((rd_T93 l0_1 x31_2).f2)))).cell? _ = some _ from hx119_0)); (try have hy119_1 := fun (n_ : Nat) => (show (((((w25.drewN n_).setCell ⟨gb118, 0, none⟩ (.int .i64 ((rd_T93 l0_1 x31_2).f0))).setCell ⟨gb118, 1, none⟩ (.int .i64 ((rd_T93 l0_1 x31_2).f1))).setCell ⟨gb118, 2, none⟩ (.int .i64 ((rd_T93 l0_1 x31_2).f2)))).cell? _ = some _ from hx119_1)); (try have hy119_2 := fun (n_ : Nat) => (show (((((w25.drewN n_).setCell ⟨gb118, 0, none⟩ (.int .i64 ((rd_T93 l0_1 x31_2).f0))).setCell ⟨gb118, 1, none⟩ (.int .i64 ((rd_T93 l0_1 x31_2).f1))).setCell ⟨gb118, 2, none⟩ (.int .i64 ((rd_T93 l0_1 x31_2).f2)))).cell? _ = some _ from hx119_2)); clear hn119_0 hn119_1 hn119_2; replace p119 := eq_true p119; replace q119 := eq_true q119)); try go_wp2_with (first | ((with_reducible refine gate_dst (N := 6) rfl ?_); (try (refine gate_guard (by rfl) ?_; dsimp only)); refine box_event ?hg (N := 6) ?hd (cs := #[.int .i64 0, .int .i64 0, .int .i64 0]) (t := 93) ?hr ?_; (case hd => rfl); (case hg => rfl); (case hr => exact zb_); intro gb118 hg w25 hbox hb; have n_ := z (blk_below (zb BK115.out) hb) <| z (blk_below (zb BK116.out) hb) <| z (below_step zbi_ hb) <| z (hbox) <| z ((by rw [hg]; exact (below_size zbi_) : w.heap.size ≤ gb118)) <| z ((by rw [hg]; exact (below_size zbi_) : w.heap.size ≤ gb118)) <| z ((by rw [hg]; exact Nat.ne_of_lt (blk_lt (zb BK115.out)) : gb115 ≠ gb118)) <| z ((by rw [hg]; exact Nat.ne_of_gt (blk_lt (zb BK115.out)) : gb118 ≠ gb115)) <| z ((by rw [hg]; exact Nat.ne_of_lt (blk_lt (zb BK116.out)) : gb116 ≠ gb118)) <| z1 ((by rw [hg]; exact Nat.ne_of_gt (blk_lt (zb BK116.out)) : gb118 ≠ gb116)); clear BK115 BK116 HB; obtain ⟨BK115, BK116, HB, BK118, GW118, GE118, NB115_118, NB118_115, NB116_118, NB118_116⟩ := n_; clear hb hbox hg; have hnb26 := NB118_115.out; have hnc26 := NB115_118.out; have hnb27 := NB118_116.out; have hnc27 := NB116_118.out; have hcz28_0 : w25.cell? ⟨gb118, 0, none⟩ = some (.int .i64 0) := (blk_cell BK118.out 0).trans rfl; have hcz28_1 : w25.cell? ⟨gb118, 1, none⟩ = some (.int .i64 0) := (blk_cell BK118.out 1).trans rfl; have hcz28_2 : w25.cell? ⟨gb118, 2, none⟩ = some (.int .i64 0) := (blk_cell BK118.out 2).trans rfl; have hfz28_0 := blk_frozen BK118.out 0; have hfz28_1 := blk_frozen BK118.out 1; have hfz28_2 := blk_frozen BK118.out 2; have hnb29 := NB116_115.out; have hnc29 := NB115_116.out; have hcz30_0 : w25.cell? ⟨gb116, 0, none⟩ = some (.int .i64 a1_0) := (blk_cell BK116.out 0).trans rfl; have hcz30_1 : w25.cell? ⟨gb116, 1, none⟩ = some (.slice A1_1 l1_1.length c1_1) := (blk_cell BK116.out 1).trans rfl; have hcz30_2 : w25.cell? ⟨gb116, 2, none⟩ = some (.int .i64 a1_2) := (blk_cell BK116.out 2).trans rfl; have hfz30_0 := blk_frozen BK116.out 0; have hfz30_1 := blk_frozen BK116.out 1; have hfz30_2 := blk_frozen BK116.out 2; have p119 : 0 ≤ (x31_2 : Int) := of_decide_eq_true zc_; have q119 : x31_2 < (l1_1.length : Int) := of_decide_eq_true zc_; obtain ⟨ad119, e119, hx119_0, hx119_1, hx119_2⟩ := at_T93 HR1_1.out x31_2 p119 q119; cases e119; have hn119_0 : ad119.block ≠ gb118 := Nat.ne_of_lt (Nat.lt_of_lt_of_le zce_ GW118.out); have hn119_1 : ad119.block ≠ gb118 := Nat.ne_of_lt (Nat.lt_of_lt_of_le zce_ GW118.out); have hn119_2 : ad119.block ≠ gb118 := Nat.ne_of_lt (Nat.lt_of_lt_of_le zce_ GW118.out); replace hx119_0 := (HB.out.cell (World.block_lt_of_cell? w _ hx119_0)).trans hx119_0; replace hx119_1 := (HB.out.cell (World.block_lt_of_cell? w _ hx119_1)).trans hx119_1; replace hx119_2 := (HB.out.cell (World.block_lt_of_cell? w _ hx119_2)).trans hx119_2; replace hx119_0 := (cell_far (p := ⟨gb118, 0, none⟩) zcf_ (.int .i64 ((rd_T93 l0_1 x31_2).f0))).trans hx119_0; replace hx119_1 := (cell_far (p := ⟨gb118, 0, none⟩) zcf_ (.int .i64 ((rd_T93 l0_1 x31_2).f0))).trans hx119_1; replace hx119_2 := (cell_far (p := ⟨gb118, 0, none⟩) zcf_ (.int .i64 ((rd_T93 l0_1 x31_2).f0))).trans hx119_2; replace hx119_0 := (cell_far (p := ⟨gb118, 1, none⟩) zcg_ (.int .i64 ((rd_T93 l0_1 x31_2).f1))).trans hx119_0; replace hx119_1 := (cell_far (p := ⟨gb118, 1, none⟩) zcg_ (.int .i64 ((rd_T93 l0_1 x31_2).f1))).trans hx119_1; replace hx119_2 := (cell_far (p := ⟨gb118, 1, none⟩) zcg_ (.int .i64 ((rd_T93 l0_1 x31_2).f1))).trans hx119_2; replace hx119_0 := (cell_far (p := ⟨gb118, 2, none⟩) zch_ (.int .i64 ((rd_T93 l0_1 x31_2).f2))).trans hx119_0; replace hx119_1 := (cell_far (p := ⟨gb118, 2, none⟩) zch_ (.int .i64 ((rd_T93 l0_1 x31_2).f2))).trans hx119_1; replace hx119_2 := (cell_far (p := ⟨gb118, 2, none⟩) zch_ (.int .i64 ((rd_T93 l0_1 x31_2).f2))).trans hx119_2; (try have hy119_0 := fun (n_ : Nat) => (show (((((w25.drewN n_).setCell ⟨gb118, 0, none⟩ (.int .i64 ((rd_T93 l0_1 x31_2).f0))).setCell ⟨gb118, 1, none⟩ (.int .i64 ((rd_T93 l0_1 x31_2).f1))).setCell ⟨gb118, 2, none⟩ (.int .i64 ((rd_T93 l0_1 x31_2).f2)))).cell? _ = some _ from hx119_0)); (try have hy119_1 := fun (n_ : Nat) => (show (((((w25.drewN n_).setCell ⟨gb118, 0, none⟩ (.int .i64 ((rd_T93 l0_1 x31_2).f0))).setCell ⟨gb118, 1, none⟩ (.int .i64 ((rd_T93 l0_1 x31_2).f1))).setCell ⟨gb118, 2, none⟩ (.int .i64 ((rd_T93 l0_1 x31_2).f2)))).cell? _ = some _ from hx119_1)); (try have hy119_2 := fun (n_ : Nat) => (show (((((w25.drewN n_).setCell ⟨gb118, 0, none⟩ (.int .i64 ((rd_T93 l0_1 x31_2).f0))).setCell ⟨gb118, 1, none⟩ (.int .i64 ((rd_T93 l0_1 x31_2).f1))).setCell ⟨gb118, 2, none⟩ (.int .i64 ((rd_T93 l0_1 x31_2).f2)))).cell? _ = some _ from hx119_2)); clear hn119_0 hn119_1 hn119_2; replace p119 := eq_true p119; replace q119 := eq_true q119)))
           go_ret
           exact ⟨zf_, by repeat (first | (with_reducible first | exact HB.out | apply pA | apply pN | apply p1 | refine below_set ?_ GE115.out | refine below_set ?_ GE116.out | refine below_set ?_ GE118.out) | exact HB.out)⟩
          ·rw [if_neg c24] at H
           have c24b0 : (!(((rd_T93 l0_1 x31_2).f0) == ((rd_T93 l1_1 x31_2).f0)) || (!(((rd_T93 l0_1 x31_2).f1) == ((rd_T93 l1_1 x31_2).f1)) || (!(((rd_T93 l0_1 x31_2).f2) == ((rd_T93 l1_1 x31_2).f2))))) = false := by simpa using c24
           clear c24; have H' := aM H; clear H; have p117 : 0 ≤ (x31_2 : Int) := of_decide_eq_true zc_; have q117 : x31_2 < (l0_1.length : Int) := of_decide_eq_true zc_; obtain ⟨ad117, e117, hx117_0, hx117_1, hx117_2⟩ := at_T93 HR0_1.out x31_2 p117 q117
           cases e117
           (try (replace hx117_0 := (HB.out.cell (World.block_lt_of_cell? w _ hx117_0)).trans hx117_0)); (try (replace hx117_1 := (HB.out.cell (World.block_lt_of_cell? w _ hx117_1)).trans hx117_1)); (try (replace hx117_2 := (HB.out.cell (World.block_lt_of_cell? w _ hx117_2)).trans hx117_2)); replace p117 := eq_true p117; replace q117 := eq_true q117
           go_wp2_with (first | ((with_reducible refine gate_dst (N := 6) rfl ?_); (try (refine gate_guard (by rfl) ?_; dsimp only)); refine box_event ?hg (N := 6) ?hd (cs := #[.int .i64 0, .int .i64 0, .int .i64 0]) (t := 93) ?hr ?_; (case hd => rfl); (case hg => rfl); (case hr => exact zb_); intro gb118 hg w31 hbox hb; have n_ := z (blk_below (zb BK115.out) hb) <| z (blk_below (zb BK116.out) hb) <| z (below_step zbi_ hb) <| z (hbox) <| z ((by rw [hg]; exact (below_size zbi_) : w.heap.size ≤ gb118)) <| z ((by rw [hg]; exact (below_size zbi_) : w.heap.size ≤ gb118)) <| z ((by rw [hg]; exact Nat.ne_of_lt (blk_lt (zb BK115.out)) : gb115 ≠ gb118)) <| z ((by rw [hg]; exact Nat.ne_of_gt (blk_lt (zb BK115.out)) : gb118 ≠ gb115)) <| z ((by rw [hg]; exact Nat.ne_of_lt (blk_lt (zb BK116.out)) : gb116 ≠ gb118)) <| z1 ((by rw [hg]; exact Nat.ne_of_gt (blk_lt (zb BK116.out)) : gb118 ≠ gb116)); clear BK115 BK116 HB; obtain ⟨BK115, BK116, HB, BK118, GW118, GE118, NB115_118, NB118_115, NB116_118, NB118_116⟩ := n_; clear hb hbox hg; have hnb32 := NB118_115.out; have hnc32 := NB115_118.out; have hnb33 := NB118_116.out; have hnc33 := NB116_118.out; have hcz34_0 : w31.cell? ⟨gb118, 0, none⟩ = some (.int .i64 0) := (blk_cell BK118.out 0).trans rfl; have hcz34_1 : w31.cell? ⟨gb118, 1, none⟩ = some (.int .i64 0) := (blk_cell BK118.out 1).trans rfl; have hcz34_2 : w31.cell? ⟨gb118, 2, none⟩ = some (.int .i64 0) := (blk_cell BK118.out 2).trans rfl; have hfz34_0 := blk_frozen BK118.out 0; have hfz34_1 := blk_frozen BK118.out 1; have hfz34_2 := blk_frozen BK118.out 2; have hnb35 := NB116_115.out; have hnc35 := NB115_116.out; have hcz36_0 : w31.cell? ⟨gb116, 0, none⟩ = some (.int .i64 a1_0) := (blk_cell BK116.out 0).trans rfl; have hcz36_1 : w31.cell? ⟨gb116, 1, none⟩ = some (.slice A1_1 l1_1.length c1_1) := (blk_cell BK116.out 1).trans rfl; have hcz36_2 : w31.cell? ⟨gb116, 2, none⟩ = some (.int .i64 a1_2) := (blk_cell BK116.out 2).trans rfl; have hfz36_0 := blk_frozen BK116.out 0; have hfz36_1 := blk_frozen BK116.out 1; have hfz36_2 := blk_frozen BK116.out 2; have p119 : 0 ≤ (x31_2 : Int) := of_decide_eq_true zc_; have q119 : x31_2 < (l1_1.length : Int) := of_decide_eq_true zc_; obtain ⟨ad119, e119, hx119_0, hx119_1, hx119_2⟩ := at_T93 HR1_1.out x31_2 p119 q119; cases e119; have hn119_0 : ad119.block ≠ gb118 := Nat.ne_of_lt (Nat.lt_of_lt_of_le zce_ GW118.out); have hn119_1 : ad119.block ≠ gb118 := Nat.ne_of_lt (Nat.lt_of_lt_of_le zce_ GW118.out); have hn119_2 : ad119.block ≠ gb118 := Nat.ne_of_lt (Nat.lt_of_lt_of_le zce_ GW118.out); replace hx119_0 := (HB.out.cell (World.block_lt_of_cell? w _ hx119_0)).trans hx119_0; replace hx119_1 := (HB.out.cell (World.block_lt_of_cell? w _ hx119_1)).trans hx119_1; replace hx119_2 := (HB.out.cell (World.block_lt_of_cell? w _ hx119_2)).trans hx119_2; replace hx119_0 := (cell_far (p := ⟨gb118, 0, none⟩) zcf_ (.int .i64 ((rd_T93 l0_1 x31_2).f0))).trans hx119_0; replace hx119_1 := (cell_far (p := ⟨gb118, 0, none⟩) zcf_ (.int .i64 ((rd_T93 l0_1 x31_2).f0))).trans hx119_1; replace hx119_2 := (cell_far (p := ⟨gb118, 0, none⟩) zcf_ (.int .i64 ((rd_T93 l0_1 x31_2).f0))).trans hx119_2; replace hx119_0 := (cell_far (p := ⟨gb118, 1, none⟩) zcg_ (.int .i64 ((rd_T93 l0_1 x31_2).f1))).trans hx119_0; replace hx119_1 := (cell_far (p := ⟨gb118, 1, none⟩) zcg_ (.int .i64 ((rd_T93 l0_1 x31_2).f1))).trans hx119_1; replace hx119_2 := (cell_far (p := ⟨gb118, 1, none⟩) zcg_ (.int .i64 ((rd_T93 l0_1 x31_2).f1))).trans hx119_2; replace hx119_0 := (cell_far (p := ⟨gb118, 2, none⟩) zch_ (.int .i64 ((rd_T93 l0_1 x31_2).f2))).trans hx119_0; replace hx119_1 := (cell_far (p := ⟨gb118, 2, none⟩) zch_ (.int .i64 ((rd_T93 l0_1 x31_2).f2))).trans hx119_1; replace hx119_2 := (cell_far (p := ⟨gb118, 2, none⟩) zch_ (.int .i64 ((rd_T93 l0_1 x31_2).f2))).trans hx119_2; (try have hy119_0 := fun (n_ : Nat) => (show (((((w31.drewN n_).setCell ⟨gb118, 0, none⟩ (.int .i64 ((rd_T93 l0_1 x31_2).f0))).setCell ⟨gb118, 1, none⟩ (.int .i64 ((rd_T93 l0_1 x31_2).f1))).setCell ⟨gb118, 2, none⟩ (.int .i64 ((rd_T93 l0_1 x31_2).f2)))).cell? _ = some _ from hx119_0)); (try have hy119_1 := fun (n_ : Nat) => (show (((((w31.drewN n_).setCell ⟨gb118, 0, none⟩ (.int .i64 ((rd_T93 l0_1 x31_2).f0))).setCell ⟨gb118, 1, none⟩ (.int .i64 ((rd_T93 l0_1 x31_2).f1))).setCell ⟨gb118, 2, none⟩ (.int .i64 ((rd_T93 l0_1 x31_2).f2)))).cell? _ = some _ from hx119_1)); (try have hy119_2 := fun (n_ : Nat) => (show (((((w31.drewN n_).setCell ⟨gb118, 0, none⟩ (.int .i64 ((rd_T93 l0_1 x31_2).f0))).setCell ⟨gb118, 1, none⟩ (.int .i64 ((rd_T93 l0_1 x31_2).f1))).setCell ⟨gb118, 2, none⟩ (.int .i64 ((rd_T93 l0_1 x31_2).f2)))).cell? _ = some _ from hx119_2)); clear hn119_0 hn119_1 hn119_2; replace p119 := eq_true p119; replace q119 := eq_true q119))
           repeat (go_quiet (first | ((with_reducible refine gate_dst (N := 6) rfl ?_); (try (refine gate_guard (by rfl) ?_; dsimp only)); refine box_event ?hg (N := 6) ?hd (cs := #[.int .i64 0, .int .i64 0, .int .i64 0]) (t := 93) ?hr ?_; (case hd => rfl); (case hg => rfl); (case hr => exact zb_); intro gb118 hg w31 hbox hb; have n_ := z (blk_below (zb BK115.out) hb) <| z (blk_below (zb BK116.out) hb) <| z (below_step zbi_ hb) <| z (hbox) <| z ((by rw [hg]; exact (below_size zbi_) : w.heap.size ≤ gb118)) <| z ((by rw [hg]; exact (below_size zbi_) : w.heap.size ≤ gb118)) <| z ((by rw [hg]; exact Nat.ne_of_lt (blk_lt (zb BK115.out)) : gb115 ≠ gb118)) <| z ((by rw [hg]; exact Nat.ne_of_gt (blk_lt (zb BK115.out)) : gb118 ≠ gb115)) <| z ((by rw [hg]; exact Nat.ne_of_lt (blk_lt (zb BK116.out)) : gb116 ≠ gb118)) <| z1 ((by rw [hg]; exact Nat.ne_of_gt (blk_lt (zb BK116.out)) : gb118 ≠ gb116)); clear BK115 BK116 HB; obtain ⟨BK115, BK116, HB, BK118, GW118, GE118, NB115_118, NB118_115, NB116_118, NB118_116⟩ := n_; clear hb hbox hg; have hnb32 := NB118_115.out; have hnc32 := NB115_118.out; have hnb33 := NB118_116.out; have hnc33 := NB116_118.out; have hcz34_0 : w31.cell? ⟨gb118, 0, none⟩ = some (.int .i64 0) := (blk_cell BK118.out 0).trans rfl; have hcz34_1 : w31.cell? ⟨gb118, 1, none⟩ = some (.int .i64 0) := (blk_cell BK118.out 1).trans rfl; have hcz34_2 : w31.cell? ⟨gb118, 2, none⟩ = some (.int .i64 0) := (blk_cell BK118.out 2).trans rfl; have hfz34_0 := blk_frozen BK118.out 0; have hfz34_1 := blk_frozen BK118.out 1; have hfz34_2 := blk_frozen BK118.out 2; have hnb35 := NB116_115.out; have hnc35 := NB115_116.out; have hcz36_0 : w31.cell? ⟨gb116, 0, none⟩ = some (.int .i64 a1_0) := (blk_cell BK116.out 0).trans rfl; have hcz36_1 : w31.cell? ⟨gb116, 1, none⟩ = some (.slice A1_1 l1_1.length c1_1) := (blk_cell BK116.out 1).trans rfl; have hcz36_2 : w31.cell? ⟨gb116, 2, none⟩ = some (.int .i64 a1_2) := (blk_cell BK116.out 2).trans rfl; have hfz36_0 := blk_frozen BK116.out 0; have hfz36_1 := blk_frozen BK116.out 1; have hfz36_2 := blk_frozen BK116.out 2; have p119 : 0 ≤ (x31_2 : Int) := of_decide_eq_true zc_; have q119 : x31_2 < (l1_1.length : Int) := of_decide_eq_true zc_; obtain ⟨ad119, e119, hx119_0, hx119_1, hx119_2⟩ := at_T93 HR1_1.out x31_2 p119 q119; cases e119; have hn119_0 : ad119.block ≠ gb118 := Nat.ne_of_lt (Nat.lt_of_lt_of_le zce_ GW118.out); have hn119_1 : ad119.block ≠ gb118 := Nat.ne_of_lt (Nat.lt_of_lt_of_le zce_ GW118.out); have hn119_2 : ad119.block ≠ gb118 := Nat.ne_of_lt (Nat.lt_of_lt_of_le zce_ GW118.out); replace hx119_0 := (HB.out.cell (World.block_lt_of_cell? w _ hx119_0)).trans hx119_0; replace hx119_1 := (HB.out.cell (World.block_lt_of_cell? w _ hx119_1)).trans hx119_1; replace hx119_2 := (HB.out.cell (World.block_lt_of_cell? w _ hx119_2)).trans hx119_2; replace hx119_0 := (cell_far (p := ⟨gb118, 0, none⟩) zcf_ (.int .i64 ((rd_T93 l0_1 x31_2).f0))).trans hx119_0; replace hx119_1 := (cell_far (p := ⟨gb118, 0, none⟩) zcf_ (.int .i64 ((rd_T93 l0_1 x31_2).f0))).trans hx119_1; replace hx119_2 := (cell_far (p := ⟨gb118, 0, none⟩) zcf_ (.int .i64 ((rd_T93 l0_1 x31_2).f0))).trans hx119_2; replace hx119_0 := (cell_far (p := ⟨gb118, 1, none⟩) zcg_ (.int .i64 ((rd_T93 l0_1 x31_2).f1))).trans hx119_0; replace hx119_1 := (cell_far (p := ⟨gb118, 1, none⟩) zcg_ (.int .i64 ((rd_T93 l0_1 x31_2).f1))).trans hx119_1; replace hx119_2 := (cell_far (p := ⟨gb118, 1, none⟩) zcg_ (.int .i64 ((rd_T93 l0_1 x31_2).f1))).trans hx119_2; replace hx119_0 := (cell_far (p := ⟨gb118, 2, none⟩) zch_ (.int .i64 ((rd_T93 l0_1 x31_2).f2))).trans hx119_0; replace hx119_1 := (cell_far (p := ⟨gb118, 2, none⟩) zch_ (.int .i64 ((rd_T93 l0_1 x31_2).f2))).trans hx119_1; replace hx119_2 := (cell_far (p := ⟨gb118, 2, none⟩) zch_ (.int .i64 ((rd_T93 l0_1 x31_2).f2))).trans hx119_2; (try have hy119_0 := fun (n_ : Nat) => (show (((((w31.drewN n_).setCell ⟨gb118, 0, none⟩ (.int .i64 ((rd_T93 l0_1 x31_2).f0))).setCell ⟨gb118, 1, none⟩ (.int .i64 ((rd_T93 l0_1 x31_2).f1))).setCell ⟨gb118, 2, none⟩ (.int .i64 ((rd_T93 l0_1 x31_2).f2)))).cell? _ = some _ from hx119_0)); (try have hy119_1 := fun (n_ : Nat) => (show (((((w31.drewN n_).setCell ⟨gb118, 0, none⟩ (.int .i64 ((rd_T93 l0_1 x31_2).f0))).setCell ⟨gb118, 1, none⟩ (.int .i64 ((rd_T93 l0_1 x31_2).f1))).setCell ⟨gb118, 2, none⟩ (.int .i64 ((rd_T93 l0_1 x31_2).f2)))).cell? _ = some _ from hx119_1)); (try have hy119_2 := fun (n_ : Nat) => (show (((((w31.drewN n_).setCell ⟨gb118, 0, none⟩ (.int .i64 ((rd_T93 l0_1 x31_2).f0))).setCell ⟨gb118, 1, none⟩ (.int .i64 ((rd_T93 l0_1 x31_2).f1))).setCell ⟨gb118, 2, none⟩ (.int .i64 ((rd_T93 l0_1 x31_2).f2)))).cell? _ = some _ from hx119_2)); clear hn119_0 hn119_1 hn119_2; replace p119 := eq_true p119; replace q119 := eq_true q119)); try go_wp2_with (first | ((with_reducible refine gate_dst (N := 6) rfl ?_); (try (refine gate_guard (by rfl) ?_; dsimp only)); refine box_event ?hg (N := 6) ?hd (cs := #[.int .i64 0, .int .i64 0, .int .i64 0]) (t := 93) ?hr ?_; (case hd => rfl); (case hg => rfl); (case hr => exact zb_); intro gb118 hg w31 hbox hb; have n_ := z (blk_below (zb BK115.out) hb) <| z (blk_below (zb BK116.out) hb) <| z (below_step zbi_ hb) <| z (hbox) <| z ((by rw [hg]; exact (below_size zbi_) : w.heap.size ≤ gb118)) <| z ((by rw [hg]; exact (below_size zbi_) : w.heap.size ≤ gb118)) <| z ((by rw [hg]; exact Nat.ne_of_lt (blk_lt (zb BK115.out)) : gb115 ≠ gb118)) <| z ((by rw [hg]; exact Nat.ne_of_gt (blk_lt (zb BK115.out)) : gb118 ≠ gb115)) <| z ((by rw [hg]; exact Nat.ne_of_lt (blk_lt (zb BK116.out)) : gb116 ≠ gb118)) <| z1 ((by rw [hg]; exact Nat.ne_of_gt (blk_lt (zb BK116.out)) : gb118 ≠ gb116)); clear BK115 BK116 HB; obtain ⟨BK115, BK116, HB, BK118, GW118, GE118, NB115_118, NB118_115, NB116_118, NB118_116⟩ := n_; clear hb hbox hg; have hnb32 := NB118_115.out; have hnc32 := NB115_118.out; have hnb33 := NB118_116.out; have hnc33 := NB116_118.out; have hcz34_0 : w31.cell? ⟨gb118, 0, none⟩ = some (.int .i64 0) := (blk_cell BK118.out 0).trans rfl; have hcz34_1 : w31.cell? ⟨gb118, 1, none⟩ = some (.int .i64 0) := (blk_cell BK118.out 1).trans rfl; have hcz34_2 : w31.cell? ⟨gb118, 2, none⟩ = some (.int .i64 0) := (blk_cell BK118.out 2).trans rfl; have hfz34_0 := blk_frozen BK118.out 0; have hfz34_1 := blk_frozen BK118.out 1; have hfz34_2 := blk_frozen BK118.out 2; have hnb35 := NB116_115.out; have hnc35 := NB115_116.out; have hcz36_0 : w31.cell? ⟨gb116, 0, none⟩ = some (.int .i64 a1_0) := (blk_cell BK116.out 0).trans rfl; have hcz36_1 : w31.cell? ⟨gb116, 1, none⟩ = some (.slice A1_1 l1_1.length c1_1) := (blk_cell BK116.out 1).trans rfl; have hcz36_2 : w31.cell? ⟨gb116, 2, none⟩ = some (.int .i64 a1_2) := (blk_cell BK116.out 2).trans rfl; have hfz36_0 := blk_frozen BK116.out 0; have hfz36_1 := blk_frozen BK116.out 1; have hfz36_2 := blk_frozen BK116.out 2; have p119 : 0 ≤ (x31_2 : Int) := of_decide_eq_true zc_; have q119 : x31_2 < (l1_1.length : Int) := of_decide_eq_true zc_; obtain ⟨ad119, e119, hx119_0, hx119_1, hx119_2⟩ := at_T93 HR1_1.out x31_2 p119 q119; cases e119; have hn119_0 : ad119.block ≠ gb118 := Nat.ne_of_lt (Nat.lt_of_lt_of_le zce_ GW118.out); have hn119_1 : ad119.block ≠ gb118 := Nat.ne_of_lt (Nat.lt_of_lt_of_le zce_ GW118.out); have hn119_2 : ad119.block ≠ gb118 := Nat.ne_of_lt (Nat.lt_of_lt_of_le zce_ GW118.out); replace hx119_0 := (HB.out.cell (World.block_lt_of_cell? w _ hx119_0)).trans hx119_0; replace hx119_1 := (HB.out.cell (World.block_lt_of_cell? w _ hx119_1)).trans hx119_1; replace hx119_2 := (HB.out.cell (World.block_lt_of_cell? w _ hx119_2)).trans hx119_2; replace hx119_0 := (cell_far (p := ⟨gb118, 0, none⟩) zcf_ (.int .i64 ((rd_T93 l0_1 x31_2).f0))).trans hx119_0; replace hx119_1 := (cell_far (p := ⟨gb118, 0, none⟩) zcf_ (.int .i64 ((rd_T93 l0_1 x31_2).f0))).trans hx119_1; replace hx119_2 := (cell_far (p := ⟨gb118, 0, none⟩) zcf_ (.int .i64 ((rd_T93 l0_1 x31_2).f0))).trans hx119_2; replace hx119_0 := (cell_far (p := ⟨gb118, 1, none⟩) zcg_ (.int .i64 ((rd_T93 l0_1 x31_2).f1))).trans hx119_0; replace hx119_1 := (cell_far (p := ⟨gb118, 1, none⟩) zcg_ (.int .i64 ((rd_T93 l0_1 x31_2).f1))).trans hx119_1; replace hx119_2 := (cell_far (p := ⟨gb118, 1, none⟩) zcg_ (.int .i64 ((rd_T93 l0_1 x31_2).f1))).trans hx119_2; replace hx119_0 := (cell_far (p := ⟨gb118, 2, none⟩) zch_ (.int .i64 ((rd_T93 l0_1 x31_2).f2))).trans hx119_0; replace hx119_1 := (cell_far (p := ⟨gb118, 2, none⟩) zch_ (.int .i64 ((rd_T93 l0_1 x31_2).f2))).trans hx119_1; replace hx119_2 := (cell_far (p := ⟨gb118, 2, none⟩) zch_ (.int .i64 ((rd_T93 l0_1 x31_2).f2))).trans hx119_2; (try have hy119_0 := fun (n_ : Nat) => (show (((((w31.drewN n_).setCell ⟨gb118, 0, none⟩ (.int .i64 ((rd_T93 l0_1 x31_2).f0))).setCell ⟨gb118, 1, none⟩ (.int .i64 ((rd_T93 l0_1 x31_2).f1))).setCell ⟨gb118, 2, none⟩ (.int .i64 ((rd_T93 l0_1 x31_2).f2)))).cell? _ = some _ from hx119_0)); (try have hy119_1 := fun (n_ : Nat) => (show (((((w31.drewN n_).setCell ⟨gb118, 0, none⟩ (.int .i64 ((rd_T93 l0_1 x31_2).f0))).setCell ⟨gb118, 1, none⟩ (.int .i64 ((rd_T93 l0_1 x31_2).f1))).setCell ⟨gb118, 2, none⟩ (.int .i64 ((rd_T93 l0_1 x31_2).f2)))).cell? _ = some _ from hx119_1)); (try have hy119_2 := fun (n_ : Nat) => (show (((((w31.drewN n_).setCell ⟨gb118, 0, none⟩ (.int .i64 ((rd_T93 l0_1 x31_2).f0))).setCell ⟨gb118, 1, none⟩ (.int .i64 ((rd_T93 l0_1 x31_2).f1))).setCell ⟨gb118, 2, none⟩ (.int .i64 ((rd_T93 l0_1 x31_2).f2)))).cell? _ = some _ from hx119_2)); clear hn119_0 hn119_1 hn119_2; replace p119 := eq_true p119; replace q119 := eq_true q119)))
           go_roundg k2
           case measure => have := HJ2.out; have := HK2.out; omega
           case rel => exact ⟨(wrap64 (x31_2 + 1)), ze_, H', ⟨by have := HJ2.out; have := HK2.out; omega⟩, ⟨by refine zb ?_; refine blk_far ?_ NB115_118.out _; refine zb ?_; refine blk_far ?_ NB115_118.out _; refine zb ?_; refine blk_far ?_ NB115_118.out _; refine zb ?_; exact BK115.out⟩, ⟨by refine zb ?_; refine blk_far ?_ NB116_118.out _; refine zb ?_; refine blk_far ?_ NB116_118.out _; refine zb ?_; refine blk_far ?_ NB116_118.out _; refine zb ?_; exact BK116.out⟩, ⟨by repeat (first | (with_reducible first | exact HB.out | apply pA | apply pN | apply p1 | refine below_set ?_ GE115.out | refine below_set ?_ GE116.out | refine below_set ?_ GE118.out) | exact HB.out)⟩⟩
         ·rw [if_neg c23] at H
          exact absurd H (by simp)
        ·rw [if_neg c22] at H
         exact absurd H (by simp)
       ·rw [if_neg c21] at H
        exact absurd H (by simp)
      ·rw [if_neg c20] at H
       have c20b0 := decide_eq_false c20; clear c20; obtain rfl := Option.some.inj H
       go_wp2
       repeat (go_quiet (fail); try go_wp2)
       go_ret
       exact ⟨zf_, zbi_⟩
end Go.Proofs.Ytlnhpkjioppbiaa.QFnExactCombineDiagrams
