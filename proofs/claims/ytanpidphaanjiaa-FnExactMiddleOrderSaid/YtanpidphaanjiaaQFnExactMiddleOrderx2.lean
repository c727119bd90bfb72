/- The functions that the law FnExactMiddleOrder uses: each Go function as a Lean function, and the proof that the Go code comes to its answers (part 2). Written by wip/gen/own.py out of what print.sh printed for this seat, changed by that program where the printed text fell in Lean. Conditions: those of each theorem. -/
import Derived.Test.YtanpidphaanjiaaQFnExactMiddleOrderx0
import Derived.Test.YtanpidphaanjiaaQFnExactMiddleOrderx1
namespace Go.Proofs.Ytanpidphaanjiaa.QFnExactMiddleOrder
open Go.RowKit Go.Proofs.YtanpidphaanjiaaW.PrintWords Go.Proofs.YtanpidphaanjiaaW.PrintLast Go.Proofs.YtanpidphaanjiaaW.PrintMore
attribute [local go_sem] max2_int min2_int max_two min_two max_three min_three max_four min_four   -- for this text's walks alone
set_option linter.unusedVariables false
set_option linter.unusedSimpArgs false

/-! ### spec_plMiddle: function 15 -/
/-- How far from the left a number is put into a list that is sorted by F: behind the last one that is not greater. -/
def mdK (F : Int → Int) (l : List Int) (v : Int) : Nat → Nat
  | 0 => 0
  | k + 1 => if F (rd l (k : Int)) > v then mdK F l v k else k + 1
def mdIns (F : Int → Int) (l : List Int) (x : Int) : List Int := l.take (mdK F l (F x) l.length) ++ [x] ++ l.drop (mdK F l (F x) l.length)
/-- The points above of a point's wires, in order. -/
def mdAbove (p : Int) : List (List Int) → List Int → List Int
  | [], o => o
  | w :: r, o => mdAbove p r (if rd w 1 = p then mdIns id o (rd w 0) else o)
def mdMidS (l : List (List Int)) (p : Int) : Int := if mdAbove p l [] = [] then -1 else rd (mdAbove p l []) (((mdAbove p l []).length / 2 : Nat) : Int)
def mdSort (F : Int → Int) : List Int → List Int → List Int
  | [], o => o
  | p :: r, o => mdSort F r (mdIns F o p)
theorem mdK_le (F : Int → Int) (l : List Int) (v : Int) : ∀ k, mdK F l v k ≤ k := by
  intro k
  induction k with
  | zero => exact Nat.le_refl _
  | succ k ih => rw [mdK]; split <;> omega
theorem mdIns_length (F : Int → Int) (l : List Int) (x : Int) : (mdIns F l x).length = l.length + 1 := by
  have h := mdK_le F l (F x) l.length
  unfold mdIns
  simp only [List.length_append, List.length_take, List.length_drop, List.length_singleton]
  omega
theorem mdAbove_length (p : Int) : ∀ (r : List (List Int)) (o : List Int), (mdAbove p r o).length ≤ o.length + r.length := by
  intro r
  induction r with
  | nil => intro o; exact Nat.le_refl _
  | cons w r ih =>
    intro o
    rw [mdAbove]
    have := ih (if rd w 1 = p then mdIns id o (rd w 0) else o)
    split at this
    · rename_i h; rw [if_pos h]; rw [mdIns_length] at this; simp; omega
    · rename_i h; rw [if_neg h]; simp; omega
theorem mdSort_length (F : Int → Int) : ∀ (r o : List Int), (mdSort F r o).length = o.length + r.length := by
  intro r
  induction r with
  | nil => intro o; rfl
  | cons p r ih => intro o; rw [mdSort, ih, mdIns_length]; simp; omega
theorem mdK_step (F : Int → Int) (l : List Int) (v : Int) (k : Int) (h : 1 ≤ k) : mdK F l v k.toNat = if F (rd l (k - 1)) > v then mdK F l v (k - 1).toNat else k.toNat := by
  obtain ⟨m, rfl⟩ : ∃ m : Nat, k = (m : Int) + 1 := ⟨(k - 1).toNat, by omega⟩
  rw [show ((m : Int) + 1).toNat = m + 1 by omega, mdK, show (m : Int) + 1 - 1 = (m : Int) by omega, Int.toNat_natCast]
theorem md_dropL (q : List (List Int)) (j : Int) (h0 : 0 ≤ j) (h1 : j < (q.length : Int)) : q.drop j.toNat = rd_L1 q j :: q.drop (j + 1).toNat := by
  have hl : j.toNat < q.length := by omega
  rw [List.drop_eq_getElem_cons hl, show (j + 1).toNat = j.toNat + 1 by omega]
  unfold rd_L1
  rw [List.getD_eq_getElem?_getD, List.getElem?_eq_getElem hl]
  rfl
theorem md_at2 {w : World} {aw : Addr} {ww : List Int} (h : Kd.C (Kd.int .i64) w (some aw) 2 ww) : w.cell? aw = some (.int .i64 (rd ww 0)) ∧ w.cell? ⟨aw.block, aw.off + 1, none⟩ = some (.int .i64 (rd ww 1)) := by
  obtain ⟨b0, e0, h0⟩ := Kd.at_int h 0 (by decide) (by decide)
  obtain ⟨b1, e1, h1⟩ := Kd.at_int h 1 (by decide) (by decide)
  cases e0
  cases e1
  rw [show (0 : Int).toNat = 0 from rfl, Addr.add_zero'] at h0
  exact ⟨h0, h1⟩
theorem md_row {w : World} {A0 : Option Addr} {l0 : List (List Int)} (h : Kd.C (Kd.slice 3 (Kd.int .i64)) w A0 l0.length l0) (hg : ∀ x ∈ l0, x.length = 2) (j : Int) (h0 : 0 ≤ j) (h1 : j < (l0.length : Int)) : ∃ (ad aw : Addr) (cw : Nat) (y0 y1 : Int), A0 = some ad ∧ w.cell? (ad.add j.toNat) = some (.slice (some aw) 2 cw) ∧ Kd.C (Kd.int .i64) w (some aw) 2 (rd_L1 l0 j) ∧ 2 ≤ cw ∧ rd (rd_L1 l0 j) 0 = y0 ∧ rd (rd_L1 l0 j) 1 = y1 := by
  obtain ⟨ad, Aw, cw, e, hx, hl, hi⟩ := at_L1 h j h0 h1
  have h2 : (rd_L1 l0 j).length = 2 := hg _ (by
    unfold rd_L1
    have hj : j.toNat < l0.length := by omega
    rw [List.getD_eq_getElem?_getD, List.getElem?_eq_getElem hj]
    exact List.getElem_mem hj)
  rw [h2] at hx hl hi
  obtain ⟨aw, ew, _⟩ := Kd.at_int hi 0 (by decide) (by decide)
  cases ew
  exact ⟨ad, aw, cw, _, _, e, hx, hi, hl, rfl, rfl⟩

theorem md_iota (n : Nat) (j : Int) (h0 : 0 ≤ j) (h1 : j < (n : Int)) : (Sep.iota n).drop j.toNat = j :: (Sep.iota n).drop (j + 1).toNat := by
  have hl : j.toNat < (Sep.iota n).length := by rw [Sep.iota_length]; omega
  rw [List.drop_eq_getElem_cons hl, show (j + 1).toNat = j.toNat + 1 by omega]
  congr 1
  simp only [Sep.iota, List.getElem_map, List.getElem_range]
  omega
theorem md_iota_end (n : Nat) : (Sep.iota n).drop n = [] := List.drop_of_length_le (by rw [Sep.iota_length]; exact Nat.le_refl _)

def spec_plMiddle.f (k : Nat) (l0 : List (List Int)) (a1 : Int) : Option Int := if l0.length ≤ 1000 ∧ (∀ x ∈ l0, x.length = 2) then some (mdMidS l0 a1) else none
theorem spec_plMiddle.mono : ∀ a0 a1 k, LeO (spec_plMiddle.f k a0 a1) (spec_plMiddle.f (k + 1) a0 a1) := fun _ _ _ => LeO.refl _
open Go.Proofs.Ytanpidphaanjiaa.Sep in
set_option maxHeartbeats 16000000 in
set_option maxRecDepth 100000 in
theorem spec_plMiddle.calls (k : Nat) (A0 : Option Addr) (c0 : Nat) (l0 : List (List Int)) (a1 : Int) (r : Int) (w : World) (hr0 : Kd.C (Kd.slice 3 (Kd.int .i64)) w A0 l0.length l0) (hc0 : l0.length ≤ c0) (h : spec_plMiddle.f k l0 a1 = some r) :
    Calls Try.prog 15 #[.slice A0 l0.length c0, .int .i64 a1] w fun e w' => e = .returned (.int .i64 r) ∧ Below w.heap.size w w' := by
  have HR := Aside0.mk hr0
  clear hr0 hc0
  unfold spec_plMiddle.f at h
  split at h
  · rename_i hcc
    obtain ⟨hl, hg⟩ := hcc
    obtain rfl := Option.some.inj h
    clear h
    have HL := Aside0.mk hl
    have HG := Aside0.mk hg
    clear hl hg
    obtain ⟨i0, hi0, _, hsz, _⟩ := info_parts info3
    have HIN := Aside0.mk hi0
    have HSZ := Aside0.mk hsz
    clear hi0 hsz
    go_enter Try.func15, Try.ntmps15
    go_wp2
    go_loopw [5, 11] (fun v5 v11 wr => ∃ (j : Int) (o : List Int), 0 ≤ j ∧ j ≤ (l0.length : Int) ∧ v11 = .int .i64 j ∧ Aside0 (mdAbove a1 (l0.drop j.toNat) o = mdAbove a1 l0 []) ∧ Aside0 ((o.length : Int) ≤ j) ∧ Aside0 (Own w wr [Item.row (Kd.int .i64) 3 (v5) (o)])) (fun _ v11 _ => l0.length - (intOf v11).toNat)
    case atStart => exact ⟨0, [], Int.le_refl _, by omega, rfl, ⟨rfl⟩, ⟨by simp⟩, ⟨(Sep.Own.nil w).nilrow (Kd.int .i64) 3⟩⟩
    case round =>
      obtain ⟨j, o, hj0, hj2, rfl, HJ, HOL, HO⟩ := hrel
      by_cases hj1 : j < (l0.length : Int)
      · have c1b := decide_eq_true hj1
        have hwj : wrap64 (j + 1) = j + 1 := by have := HL.out; unfold wrap64; omega
        obtain ⟨Ao, co, rfl⟩ := HO.out.row_slice 0 rfl
        obtain ⟨ad, aw, cw, y0, y1, e0, hx, hi, _, e1, e2⟩ := md_row HR.out HG.out j hj0 hj1
        cases e0
        have HI := Aside0.mk hi
        have hx2 : ∀ w1 : World, Below w.heap.size w w1 → w1.cell? (ad.add j.toNat) = some (.slice (some aw) 2 cw) := fun w1 hb => pw_cell_below hb hx
        have HX := Aside0.mk hx2
        have HY := Aside0.mk (And.intro e1 e2)
        clear hx hi hx2 e1 e2
        have p1 : (0 ≤ j) = True := eq_true hj0
        have q1 : (j < (l0.length : Int)) = True := eq_true hj1
        have hjd := HJ.out
        rw [md_dropL l0 j hj0 hj1, mdAbove, HY.out.1, HY.out.2] at hjd
        by_cases c2 : y1 = a1
        · have c2b : (y1 != a1) = false := bne_eq_false_iff_eq.mpr c2
          rw [if_pos c2] at hjd
          have HJ2 := Aside0.mk hjd
          clear hjd c2
          have z_1 : wr.cell? (ad.add j.toNat) = some (.slice (some aw) 2 cw) := (HX.out _ HO.out.base)
          have z_2 : wr.cell? ⟨aw.block, aw.off + 1, none⟩ = some (.int .i64 y1) := (by rw [← HY.out.2]; exact (md_at2 (Kd.C_below HI.out HO.out.base)).2)
          go_wp2
          go_loopw [8] (fun v8 wr => ∃ (q : Int), 0 ≤ q ∧ q ≤ (o.length : Int) ∧ v8 = .int .i64 q ∧ Aside0 (mdK id o y0 q.toNat = mdK id o y0 o.length) ∧ Aside0 (Own w wr [Item.row (Kd.int .i64) 3 (.slice Ao o.length co) (o)])) (fun v8 _ => (intOf v8).toNat)
          case atStart => exact ⟨(o.length : Int), by omega, Int.le_refl _, rfl, ⟨rfl⟩, HO⟩
          case round =>
            clear HO
            obtain ⟨q, hq0, hq1, rfl, HQ, HO⟩ := hrel
            have hol := HOL.out
            have hll := HL.out
            by_cases c3 : q > 0
            · have c3b := decide_eq_true c3
              obtain ⟨qp, hqp⟩ : ∃ qp : Int, qp = q - 1 := ⟨_, rfl⟩
              have hwq : wrap64 (q - 1) = qp := by unfold wrap64; omega
              have hst := mdK_step id o y0 q (by omega)
              rw [← hqp] at hst
              have hqp0 : 0 ≤ qp ∧ qp < (o.length : Int) := by omega
              have HQP := Aside0.mk hqp0
              have HQ1 := Aside0.mk (show qp.toNat < q.toNat by omega)
              have HQ2 := Aside0.mk (show qp ≤ (o.length : Int) by omega)
              have p2 : (0 ≤ qp) = True := eq_true hqp0.1
              have q2 : (qp < (o.length : Int)) = True := eq_true hqp0.2
              obtain ⟨gq, cq, hsv⟩ := Sep.own_row_form HO.out 0 rfl (by omega)
              injection hsv with ha hb hc
              subst ha
              subst hc
              obtain ⟨z, hz⟩ : ∃ z, rd o qp = z := ⟨_, rfl⟩
              rw [hz] at hst
              have HZ := Aside0.mk hz
              clear hb hz hqp hqp0 hol hll
              by_cases c4 : z > y0
              · have c4b := decide_eq_true c4
                rw [if_pos (show id z > y0 from c4)] at hst
                have HQ3 := Aside0.mk (hst.symm.trans HQ.out)
                clear hst
                go_wp2
                have HD_7_2 := Aside0.mk (HO.out.drew)
                refine start_ (n := 13) (S := fun w' => w'.cell? ⟨gq, qp.toNat, none⟩ = some (.int .i64 z) ∧ w'.cell? aw = some (.int .i64 y0)) (ds := []) #[false, false, false, false, false, false, false, false, false, false, false, false, false] (by kernel_rfl) rfl rfl ⟨(by have e := (Sep.own_row_cell (0 : Int) HD_7_2.out 0 rfl qp HQP.out.1 HQP.out.2).1; rw [show rdOf 0 o qp = z from HZ.out] at e; exact e), (by rw [← HY.out.1]; exact (md_at2 (Kd.C_below HI.out HD_7_2.out.base)).1)⟩ (fun hHeld => ?_)
                generalize wr.drew = wd_7_3 at HD_7_2 hHeld ⊢
                refine pure_ (i := 0) (N := some 22) (v := ?_) (a' := ?_) #[true, false, false, false, false, false, false, false, false, false, false, false, false] rfl rfl (by kernel_rfl) (fun _ _ _ h => h) (Or.inl ⟨by rfl, ?_⟩) ?_ ?_
                rotate_left
                · intro w'
                  go_simp
                  with_reducible rfl
                rotate_left
                · simp only [Act.put, List.setIfInBounds_toArray, List.set_cons_zero, List.set_cons_succ, i64_w, i32_w]
                  rfl
                refine pure_ (i := 1) (N := some 23) (v := ?_) (a' := ?_) #[true, true, false, false, false, false, false, false, false, false, false, false, false] rfl rfl (by kernel_rfl) (fun _ _ _ h => h) (Or.inl ⟨by rfl, ?_⟩) ?_ ?_
                rotate_left
                · intro w'
                  go_simp
                  with_reducible rfl
                rotate_left
                · simp only [Act.put, List.setIfInBounds_toArray, List.set_cons_zero, List.set_cons_succ, i64_w, i32_w]
                  rfl
                refine pure_ (i := 2) (N := some 24) (v := ?_) (a' := ?_) #[true, true, true, false, false, false, false, false, false, false, false, false, false] rfl rfl (by kernel_rfl) (fun _ _ _ h => h) (Or.inl ⟨by rfl, ?_⟩) ?_ ?_
                rotate_left
                · intro w'
                  go_simp
                  with_reducible rfl
                rotate_left
                · simp only [Act.put, List.setIfInBounds_toArray, List.set_cons_zero, List.set_cons_succ, i64_w, i32_w]
                  rfl
                refine pure_ (i := 3) (N := some 25) (v := ?_) (a' := ?_) #[true, true, true, true, false, false, false, false, false, false, false, false, false] rfl rfl (by kernel_rfl) (fun _ _ _ h => h) (Or.inl ⟨by rfl, ?_⟩) ?_ ?_
                rotate_left
                · intro w'
                  go_simp
                  with_reducible rfl
                rotate_left
                · simp only [Act.put, List.setIfInBounds_toArray, List.set_cons_zero, List.set_cons_succ, i64_w, i32_w]
                  rfl
                refine pure_ (i := 4) (N := some 26) (v := ?_) (a' := ?_) #[true, true, true, true, true, false, false, false, false, false, false, false, false] rfl rfl (by kernel_rfl) (fun _ _ _ h => h) (Or.inl ⟨by rfl, ?_⟩) ?_ ?_
                rotate_left
                · intro w'
                  go_simp
                  with_reducible rfl
                rotate_left
                · simp only [Act.put, List.setIfInBounds_toArray, List.set_cons_zero, List.set_cons_succ, i64_w, i32_w]
                  rfl
                refine pure_ (i := 5) (N := some 27) (v := ?_) (a' := ?_) #[true, true, true, true, true, true, false, false, false, false, false, false, false] rfl rfl (by kernel_rfl) (fun _ _ _ h => h) (Or.inl ⟨by rfl, ?_⟩) ?_ ?_
                rotate_left
                · intro w'
                  go_simp
                  with_reducible rfl
                rotate_left
                · simp only [Act.put, List.setIfInBounds_toArray, List.set_cons_zero, List.set_cons_succ, i64_w, i32_w]
                  rfl
                refine pure_ (i := 6) (N := some 28) (v := ?_) (a' := ?_) #[true, true, true, true, true, true, true, false, false, false, false, false, false] rfl rfl (by kernel_rfl) (fun _ _ _ h => h) (Or.inl ⟨by rfl, ?_⟩) ?_ ?_
                rotate_left
                · intro w'
                  go_simp
                  with_reducible rfl
                rotate_left
                · simp only [Act.put, List.setIfInBounds_toArray, List.set_cons_zero, List.set_cons_succ, i64_w, i32_w]
                  rfl
                refine pure_ (i := 8) (N := some 30) (v := ?_) (a' := ?_) #[true, true, true, true, true, true, true, false, true, false, false, false, false] rfl rfl (by kernel_rfl) (fun _ _ _ h => h) (Or.inl ⟨by rfl, ?_⟩) ?_ ?_
                rotate_left
                · intro w'
                  go_simp
                  with_reducible rfl
                rotate_left
                · simp only [Act.put, List.setIfInBounds_toArray, List.set_cons_zero, List.set_cons_succ, i64_w, i32_w]
                  rfl
                refine pure_ (i := 9) (N := some 31) (v := ?_) (a' := ?_) #[true, true, true, true, true, true, true, false, true, true, false, false, false] rfl rfl (by kernel_rfl) (fun _ _ _ h => h) (Or.inl ⟨by rfl, ?_⟩) ?_ ?_
                rotate_left
                · intro w'
                  go_simp
                  with_reducible rfl
                rotate_left
                · simp only [Act.put, List.setIfInBounds_toArray, List.set_cons_zero, List.set_cons_succ, i64_w, i32_w]
                  rfl
                refine take_ (i := 7) (N := some 29) (v := ?_) (a' := ?_) #[true, true, true, true, true, true, true, true, true, true, false, false, false] rfl rfl (by kernel_rfl) (fun _ _ _ h => h) (Or.inl ⟨by rfl, ?_⟩) hHeld ?_ ?_
                rotate_left
                · rintro w' ⟨s0, s1⟩
                  go_simp
                  with_reducible rfl
                rotate_left
                · simp only [Act.put, List.setIfInBounds_toArray, List.set_cons_zero, List.set_cons_succ, i64_w, i32_w]
                  rfl
                refine take_ (i := 10) (N := some 32) (v := ?_) (a' := ?_) #[true, true, true, true, true, true, true, true, true, true, true, false, false] rfl rfl (by kernel_rfl) (fun _ _ _ h => h) (Or.inl ⟨by rfl, ?_⟩) hHeld ?_ ?_
                rotate_left
                · rintro w' ⟨s0, s1⟩
                  go_simp
                  with_reducible rfl
                rotate_left
                · simp only [Act.put, List.setIfInBounds_toArray, List.set_cons_zero, List.set_cons_succ, i64_w, i32_w]
                  rfl
                refine pure_ (i := 11) (N := some 33) (v := ?_) (a' := ?_) #[true, true, true, true, true, true, true, true, true, true, true, true, false] rfl rfl (by kernel_rfl) (fun _ _ _ h => h) (Or.inl ⟨by rfl, ?_⟩) ?_ ?_
                rotate_left
                · intro w'
                  go_simp
                  with_reducible rfl
                rotate_left
                · simp only [Act.put, List.setIfInBounds_toArray, List.set_cons_zero, List.set_cons_succ, i64_w, i32_w]
                  rfl
                refine pure_ (i := 12) (N := some 34) (v := ?_) (a' := ?_) #[true, true, true, true, true, true, true, true, true, true, true, true, true] rfl rfl (by kernel_rfl) (fun _ _ _ h => h) (Or.inl ⟨by rfl, ?_⟩) ?_ ?_
                rotate_left
                · intro w'
                  go_simp
                  with_reducible rfl
                rotate_left
                · simp only [Act.put, List.setIfInBounds_toArray, List.set_cons_zero, List.set_cons_succ, i64_w, i32_w]
                  rfl
                refine done_ (by kernel_rfl) ?_
                go_wp2
                go_roundw
                case measure => have := HQ1.out; simp only [intOf]; omega
                case rel => exact ⟨qp, HQP.out.1, HQ2.out, by first | rfl | rw [hwq], HQ3, HD_7_2⟩
              · have c4b := decide_eq_false c4
                rw [if_neg (show ¬ id z > y0 from c4)] at hst
                have HQ3 := Aside0.mk (show mdK id o y0 o.length = q.toNat from HQ.out.symm.trans hst)
                clear hst
                have HOC := Aside0.mk (HO.out.row_reads 0 rfl).2.1
                have HQB := Aside0.mk (show q.toNat ≤ o.length by omega)
                have HTL := Aside0.mk (show (o.take q.toNat).length = q.toNat by rw [List.length_take]; omega)
                obtain ⟨ht1, ht2, ht3⟩ := print_take_of (P := Try.prog) (Value.int .i64) (0 : Int) 24 3 .i64 Try.underlying24 HIN.out HSZ.out (some ⟨gq, 0, none⟩) co o q hq0 (by omega) HOC.out
                obtain ⟨Ad, hd1, hd2, hd3⟩ := print_drop_of (P := Try.prog) (Value.int .i64) (0 : Int) 24 3 .i64 Try.underlying24 HIN.out HSZ.out (some ⟨gq, 0, none⟩) co o q hq0 (by omega) HOC.out
                have HT1 := Aside0.mk (show ∀ w1 : World, Kd.C (Kd.int .i64) w1 (some ⟨gq, 0, none⟩) o.length o → Kd.C (Kd.int .i64) w1 (some ⟨gq, 0, none⟩) q.toNat (o.take q.toNat) from fun w1 h => by have e := Kd.C_of_reads (h1 := fun _ => rfl) (ht2 w1 (Kd.reads_of_C h)); rw [HTL.out] at e; exact e)
                have HT2 := Aside0.mk (show ∀ w1 : World, Kd.C (Kd.int .i64) w1 (some ⟨gq, 0, none⟩) o.length o → Kd.C (Kd.int .i64) w1 Ad (o.length - q.toNat) (o.drop q.toNat) from fun w1 h => by have e := Kd.C_of_reads (h1 := fun _ => rfl) (hd2 w1 (Kd.reads_of_C h)); rw [List.length_drop] at e; exact e)
                have HOWN := Aside0.mk (show spec_l1Own.f (o.take q.toNat) = some (o.take q.toNat) from by unfold spec_l1Own.f; simp only [Option.bind_some, List.length_nil, Nat.zero_add, List.nil_append]; rw [if_pos (by rw [List.length_take]; have := HOL.out; have := HL.out; omega)])
                have HINS := Aside0.mk (show mdIns id o y0 = o.take q.toNat ++ [y0] ++ o.drop q.toNat from by unfold mdIns; rw [show mdK id o (id y0) o.length = q.toNat from HQ3.out])
                have HNL := Aside0.mk (show (o.take q.toNat).length + (o.drop q.toNat).length = o.length by rw [← List.length_append, List.take_append_drop])
                have HLL := Aside0.mk (show o.length ≤ 1000 by have := HOL.out; have := HL.out; omega)
                clear ht2 ht3 hd2 hd3
                (try clear hol hll)
                go_wp2
                have HD_7_2 := Aside0.mk (HO.out.drew)
                refine start_ (n := 13) (S := fun w' => w'.cell? ⟨gq, qp.toNat, none⟩ = some (.int .i64 z) ∧ w'.cell? aw = some (.int .i64 y0)) (ds := []) #[false, false, false, false, false, false, false, false, false, false, false, false, false] (by kernel_rfl) rfl rfl ⟨(by have e := (Sep.own_row_cell (0 : Int) HD_7_2.out 0 rfl qp HQP.out.1 HQP.out.2).1; rw [show rdOf 0 o qp = z from HZ.out] at e; exact e), (by rw [← HY.out.1]; exact (md_at2 (Kd.C_below HI.out HD_7_2.out.base)).1)⟩ (fun hHeld => ?_)
                generalize wr.drew = wd_7_3 at HD_7_2 hHeld ⊢
                refine pure_ (i := 0) (N := some 22) (v := ?_) (a' := ?_) #[true, false, false, false, false, false, false, false, false, false, false, false, false] rfl rfl (by kernel_rfl) (fun _ _ _ h => h) (Or.inl ⟨by rfl, ?_⟩) ?_ ?_
                rotate_left
                · intro w'
                  go_simp
                  with_reducible rfl
                rotate_left
                · simp only [Act.put, List.setIfInBounds_toArray, List.set_cons_zero, List.set_cons_succ, i64_w, i32_w]
                  rfl
                refine pure_ (i := 1) (N := some 23) (v := ?_) (a' := ?_) #[true, true, false, false, false, false, false, false, false, false, false, false, false] rfl rfl (by kernel_rfl) (fun _ _ _ h => h) (Or.inl ⟨by rfl, ?_⟩) ?_ ?_
                rotate_left
                · intro w'
                  go_simp
                  with_reducible rfl
                rotate_left
                · simp only [Act.put, List.setIfInBounds_toArray, List.set_cons_zero, List.set_cons_succ, i64_w, i32_w]
                  rfl
                refine pure_ (i := 2) (N := some 24) (v := ?_) (a' := ?_) #[true, true, true, false, false, false, false, false, false, false, false, false, false] rfl rfl (by kernel_rfl) (fun _ _ _ h => h) (Or.inl ⟨by rfl, ?_⟩) ?_ ?_
                rotate_left
                · intro w'
                  go_simp
                  with_reducible rfl
                rotate_left
                · simp only [Act.put, List.setIfInBounds_toArray, List.set_cons_zero, List.set_cons_succ, i64_w, i32_w]
                  rfl
                refine pure_ (i := 3) (N := some 25) (v := ?_) (a' := ?_) #[true, true, true, true, false, false, false, false, false, false, false, false, false] rfl rfl (by kernel_rfl) (fun _ _ _ h => h) (Or.inl ⟨by rfl, ?_⟩) ?_ ?_
                rotate_left
                · intro w'
                  go_simp
                  with_reducible rfl
                rotate_left
                · simp only [Act.put, List.setIfInBounds_toArray, List.set_cons_zero, List.set_cons_succ, i64_w, i32_w]
                  rfl
                refine pure_ (i := 4) (N := some 26) (v := ?_) (a' := ?_) #[true, true, true, true, true, false, false, false, false, false, false, false, false] rfl rfl (by kernel_rfl) (fun _ _ _ h => h) (Or.inl ⟨by rfl, ?_⟩) ?_ ?_
                rotate_left
                · intro w'
                  go_simp
                  with_reducible rfl
                rotate_left
                · simp only [Act.put, List.setIfInBounds_toArray, List.set_cons_zero, List.set_cons_succ, i64_w, i32_w]
                  rfl
                refine pure_ (i := 5) (N := some 27) (v := ?_) (a' := ?_) #[true, true, true, true, true, true, false, false, false, false, false, false, false] rfl rfl (by kernel_rfl) (fun _ _ _ h => h) (Or.inl ⟨by rfl, ?_⟩) ?_ ?_
                rotate_left
                · intro w'
                  go_simp
                  with_reducible rfl
                rotate_left
                · simp only [Act.put, List.setIfInBounds_toArray, List.set_cons_zero, List.set_cons_succ, i64_w, i32_w]
                  rfl
                refine pure_ (i := 6) (N := some 28) (v := ?_) (a' := ?_) #[true, true, true, true, true, true, true, false, false, false, false, false, false] rfl rfl (by kernel_rfl) (fun _ _ _ h => h) (Or.inl ⟨by rfl, ?_⟩) ?_ ?_
                rotate_left
                · intro w'
                  go_simp
                  with_reducible rfl
                rotate_left
                · simp only [Act.put, List.setIfInBounds_toArray, List.set_cons_zero, List.set_cons_succ, i64_w, i32_w]
                  rfl
                refine pure_ (i := 8) (N := some 30) (v := ?_) (a' := ?_) #[true, true, true, true, true, true, true, false, true, false, false, false, false] rfl rfl (by kernel_rfl) (fun _ _ _ h => h) (Or.inl ⟨by rfl, ?_⟩) ?_ ?_
                rotate_left
                · intro w'
                  go_simp
                  with_reducible rfl
                rotate_left
                · simp only [Act.put, List.setIfInBounds_toArray, List.set_cons_zero, List.set_cons_succ, i64_w, i32_w]
                  rfl
                refine pure_ (i := 9) (N := some 31) (v := ?_) (a' := ?_) #[true, true, true, true, true, true, true, false, true, true, false, false, false] rfl rfl (by kernel_rfl) (fun _ _ _ h => h) (Or.inl ⟨by rfl, ?_⟩) ?_ ?_
                rotate_left
                · intro w'
                  go_simp
                  with_reducible rfl
                rotate_left
                · simp only [Act.put, List.setIfInBounds_toArray, List.set_cons_zero, List.set_cons_succ, i64_w, i32_w]
                  rfl
                refine take_ (i := 7) (N := some 29) (v := ?_) (a' := ?_) #[true, true, true, true, true, true, true, true, true, true, false, false, false] rfl rfl (by kernel_rfl) (fun _ _ _ h => h) (Or.inl ⟨by rfl, ?_⟩) hHeld ?_ ?_
                rotate_left
                · rintro w' ⟨s0, s1⟩
                  go_simp
                  with_reducible rfl
                rotate_left
                · simp only [Act.put, List.setIfInBounds_toArray, List.set_cons_zero, List.set_cons_succ, i64_w, i32_w]
                  rfl
                refine take_ (i := 10) (N := some 32) (v := ?_) (a' := ?_) #[true, true, true, true, true, true, true, true, true, true, true, false, false] rfl rfl (by kernel_rfl) (fun _ _ _ h => h) (Or.inl ⟨by rfl, ?_⟩) hHeld ?_ ?_
                rotate_left
                · rintro w' ⟨s0, s1⟩
                  go_simp
                  with_reducible rfl
                rotate_left
                · simp only [Act.put, List.setIfInBounds_toArray, List.set_cons_zero, List.set_cons_succ, i64_w, i32_w]
                  rfl
                refine pure_ (i := 11) (N := some 33) (v := ?_) (a' := ?_) #[true, true, true, true, true, true, true, true, true, true, true, true, false] rfl rfl (by kernel_rfl) (fun _ _ _ h => h) (Or.inl ⟨by rfl, ?_⟩) ?_ ?_
                rotate_left
                · intro w'
                  go_simp
                  with_reducible rfl
                rotate_left
                · simp only [Act.put, List.setIfInBounds_toArray, List.set_cons_zero, List.set_cons_succ, i64_w, i32_w]
                  rfl
                refine pure_ (i := 12) (N := some 34) (v := ?_) (a' := ?_) #[true, true, true, true, true, true, true, true, true, true, true, true, true] rfl rfl (by kernel_rfl) (fun _ _ _ h => h) (Or.inl ⟨by rfl, ?_⟩) ?_ ?_
                rotate_left
                · intro w'
                  go_simp
                  with_reducible rfl
                rotate_left
                · simp only [Act.put, List.setIfInBounds_toArray, List.set_cons_zero, List.set_cons_succ, i64_w, i32_w]
                  rfl
                refine done_ (by kernel_rfl) ?_
                go_wp2
                have HD_9_3 := Aside0.mk (HD_7_2.out.drew)
                refine start_ (n := 14) (S := fun w' => w'.cell? aw = some (.int .i64 y0)) (ds := []) #[false, false, false, false, false, false, false, false, false, false, false, false, false, false] (by kernel_rfl) rfl rfl ((by rw [← HY.out.1]; exact (md_at2 (Kd.C_below HI.out HD_9_3.out.base)).1)) (fun hHeld => ?_)
                generalize wd_7_3.drew = wd_9_4 at HD_9_3 hHeld ⊢
                refine pure_ (i := 0) (N := some 37) (v := ?_) (a' := ?_) #[true, false, false, false, false, false, false, false, false, false, false, false, false, false] rfl rfl (by kernel_rfl) (fun _ _ _ h => h) (Or.inl ⟨by rfl, ?_⟩) ?_ ?_
                rotate_left
                · intro w'
                  go_simp
                  with_reducible rfl
                rotate_left
                · simp only [Act.put, List.setIfInBounds_toArray, List.set_cons_zero, List.set_cons_succ, i64_w, i32_w]
                  rfl
                refine pure_ (i := 1) (N := some 38) (v := ?_) (a' := ?_) #[true, true, false, false, false, false, false, false, false, false, false, false, false, false] rfl rfl (by kernel_rfl) (fun _ _ _ h => h) (Or.inl ⟨by rfl, ?_⟩) ?_ ?_
                rotate_left
                · intro w'
                  go_simp
                  with_reducible rfl
                rotate_left
                · simp only [Act.put, List.setIfInBounds_toArray, List.set_cons_zero, List.set_cons_succ, i64_w, i32_w]
                  rfl
                refine pure_ (i := 2) (N := some 39) (v := ?_) (a' := ?_) #[true, true, true, false, false, false, false, false, false, false, false, false, false, false] rfl rfl (by kernel_rfl) (fun _ _ _ h => h) (Or.inl ⟨by rfl, ?_⟩) ?_ ?_
                rotate_left
                · intro w'
                  go_simp
                  with_reducible rfl
                rotate_left
                · simp only [Act.put, List.setIfInBounds_toArray, List.set_cons_zero, List.set_cons_succ, i64_w, i32_w]
                  rfl
                refine pure_ (i := 4) (N := some 41) (v := ?_) (a' := ?_) #[true, true, true, false, true, false, false, false, false, false, false, false, false, false] rfl rfl (by kernel_rfl) (fun _ _ _ h => h) (Or.inl ⟨by rfl, ?_⟩) ?_ ?_
                rotate_left
                · intro w'
                  go_simp
                  with_reducible rfl
                rotate_left
                · simp only [Act.put, List.setIfInBounds_toArray, List.set_cons_zero, List.set_cons_succ, i64_w, i32_w]
                  rfl
                refine pure_ (i := 5) (N := some 42) (v := ?_) (a' := ?_) #[true, true, true, false, true, true, false, false, false, false, false, false, false, false] rfl rfl (by kernel_rfl) (fun _ _ _ h => h) (Or.inl ⟨by rfl, ?_⟩) ?_ ?_
                rotate_left
                · intro w'
                  go_simp
                  with_reducible rfl
                rotate_left
                · simp only [Act.put, List.setIfInBounds_toArray, List.set_cons_zero, List.set_cons_succ, i64_w, i32_w]
                  rfl
                refine pure_ (i := 9) (N := some 46) (v := ?_) (a' := ?_) #[true, true, true, false, true, true, false, false, false, true, false, false, false, false] rfl rfl (by kernel_rfl) (fun _ _ _ h => h) (Or.inl ⟨by rfl, ?_⟩) ?_ ?_
                rotate_left
                · intro w'
                  go_simp
                  with_reducible rfl
                rotate_left
                · simp only [Act.put, List.setIfInBounds_toArray, List.set_cons_zero, List.set_cons_succ, i64_w, i32_w]
                  rfl
                refine pure_ (i := 10) (N := some 47) (v := ?_) (a' := ?_) #[true, true, true, false, true, true, false, false, false, true, true, false, false, false] rfl rfl (by kernel_rfl) (fun _ _ _ h => h) (Or.inl ⟨by rfl, ?_⟩) ?_ ?_
                rotate_left
                · intro w'
                  go_simp
                  with_reducible rfl
                rotate_left
                · simp only [Act.put, List.setIfInBounds_toArray, List.set_cons_zero, List.set_cons_succ, i64_w, i32_w]
                  rfl
                refine pure_ (i := 11) (N := some 48) (v := ?_) (a' := ?_) #[true, true, true, false, true, true, false, false, false, true, true, true, false, false] rfl rfl (by kernel_rfl) (fun _ _ _ h => h) (Or.inl ⟨by rfl, ?_⟩) ?_ ?_
                rotate_left
                · intro w'
                  go_simp
                  with_reducible rfl
                rotate_left
                · simp only [Act.put, List.setIfInBounds_toArray, List.set_cons_zero, List.set_cons_succ, i64_w, i32_w]
                  rfl
                refine take_ (i := 6) (N := some 43) (v := ?_) (a' := ?_) #[true, true, true, false, true, true, true, false, false, true, true, true, false, false] rfl rfl (by kernel_rfl) (fun _ _ _ h => h) (Or.inl ⟨by rfl, ?_⟩) hHeld ?_ ?_
                rotate_left
                · intro w' s0
                  go_simp
                  with_reducible rfl
                rotate_left
                · simp only [Act.put, List.setIfInBounds_toArray, List.set_cons_zero, List.set_cons_succ, i64_w, i32_w]
                  rfl
                refine join_ (σ := Value × Value) 3 #[true, true, true, true, true, true, true, true, false, true, true, true, false, false] (fun s => [(40, s.1), (44, s.2)]) (fun s w' => (w'.cell? aw = some (.int .i64 y0)) ∧ Own w w' [Item.row (Kd.int .i64) 3 (s.2) ([y0]), Item.row (Kd.int .i64) 3 (s.1) ((o.take q.toNat)), Item.row (Kd.int .i64) 3 (.slice ((some ⟨gq, 0, none⟩)) o.length co) (o)]) ?_ ?_
                rotate_left
                · intro hCont
                  refine two_ (i := 3) (j := 7) (Ni := some 40) (Nj := some 44) #[true, true, true, true, true, true, true, false, false, true, true, true, false, false] #[true, true, true, false, true, true, true, true, false, true, true, true, false, false] rfl rfl rfl rfl (by kernel_rfl) (by decide) (by decide) (fun K hK => ?_) (fun K hK => ?_)
                  · skip
                    refine goes_ Try.func16 (by kernel_rfl) rfl #[.slice ((some ⟨gq, 0, none⟩)) q.toNat co] (by rfl) rfl rfl (by simp only [List.map_toArray, List.map_cons, List.map_nil]; rfl) ?_
                    have hc_ := spec_l1Own.calls ((some ⟨gq, 0, none⟩)) co (o.take q.toNat) (o.take q.toNat) _ (by rw [HTL.out]; exact HT1.out _ (HD_9_3.out.row_reads 0 rfl).2.2) (by rw [HTL.out]; have := HOC.out; have := HQB.out; omega) HOWN.out
                    rw [HTL.out] at hc_
                    refine hc_.mono ?_
                    rintro e w_1 ⟨x_40, rfl, hR, hb⟩
                    refine ⟨_, rfl, ?_⟩
                    have HO_1 := Aside0.mk (HD_9_3.out.add_row hR hb)
                    clear hR hb hc_
                    refine hK.out _ _ ((by rw [← HY.out.1]; exact (md_at2 (Kd.C_below HI.out HO_1.out.base)).1)) (fun hHeld => ?_)
                    clear hK K
                    refine norm_ (a' := ?_) ?_ ?_
                    rotate_left
                    · show Act.put _ (some 40) _ = _
                      simp only [Act.put, List.setIfInBounds_toArray, List.set_cons_zero, List.set_cons_succ, i64_w, i32_w]
                      rfl
                    refine one_ (i := 7) (N := some 44) #[true, true, true, true, true, true, true, true, false, true, true, true, false, false] rfl rfl (by kernel_rfl) (by decide) (fun K hK => ?_)
                    refine Sep.own_lit1_step (Value.int .i64) (h1 := fun _ => rfl) HO_1.out 3 y0 (by rfl) (N := 44) rfl (by first | (go_simp; done) | (go_simp; rfl)) ?_
                    intro x_44 w_2 ho _
                    have HO_2 := Aside0.mk ho
                    clear ho
                    refine hK.out _ _ ((by rw [← HY.out.1]; exact (md_at2 (Kd.C_below HI.out HO_2.out.base)).1)) (fun hHeld => ?_)
                    clear hK K
                    refine norm_ (a' := ?_) ?_ ?_
                    rotate_left
                    · show Act.put _ (some 44) _ = _
                      simp only [Act.put, List.setIfInBounds_toArray, List.set_cons_zero, List.set_cons_succ, i64_w, i32_w]
                      rfl
                    exact norm_ (by simp only [putAll, Act.put, List.setIfInBounds_toArray, List.set_cons_zero, List.set_cons_succ]) (hCont (x_40, x_44) _ ⟨(by rw [← HY.out.1]; exact (md_at2 (Kd.C_below HI.out HO_2.out.base)).1), (((HO_2.out.front 2 rfl).front 2 rfl).front 2 rfl)⟩)
                  · skip
                    refine Sep.own_lit1_step (Value.int .i64) (h1 := fun _ => rfl) HD_9_3.out 3 y0 (by rfl) (N := 44) rfl (by first | (go_simp; done) | (go_simp; rfl)) ?_
                    intro x_44 w_1 ho _
                    have HO_1 := Aside0.mk ho
                    clear ho
                    refine hK.out _ _ ((by rw [← HY.out.1]; exact (md_at2 (Kd.C_below HI.out HO_1.out.base)).1)) (fun hHeld => ?_)
                    clear hK K
                    refine norm_ (a' := ?_) ?_ ?_
                    rotate_left
                    · show Act.put _ (some 44) _ = _
                      simp only [Act.put, List.setIfInBounds_toArray, List.set_cons_zero, List.set_cons_succ, i64_w, i32_w]
                      rfl
                    refine one_ (i := 3) (N := some 40) #[true, true, true, true, true, true, true, true, false, true, true, true, false, false] rfl rfl (by kernel_rfl) (by decide) (fun K hK => ?_)
                    refine goes_ Try.func16 (by kernel_rfl) rfl #[.slice ((some ⟨gq, 0, none⟩)) q.toNat co] (by rfl) rfl rfl (by simp only [List.map_toArray, List.map_cons, List.map_nil]; rfl) ?_
                    have hc_ := spec_l1Own.calls ((some ⟨gq, 0, none⟩)) co (o.take q.toNat) (o.take q.toNat) _ (by rw [HTL.out]; exact HT1.out _ (HO_1.out.row_reads 1 rfl).2.2) (by rw [HTL.out]; have := HOC.out; have := HQB.out; omega) HOWN.out
                    rw [HTL.out] at hc_
                    refine hc_.mono ?_
                    rintro e w_2 ⟨x_40, rfl, hR, hb⟩
                    refine ⟨_, rfl, ?_⟩
                    have HO_2 := Aside0.mk (HO_1.out.add_row hR hb)
                    clear hR hb hc_
                    refine hK.out _ _ ((by rw [← HY.out.1]; exact (md_at2 (Kd.C_below HI.out HO_2.out.base)).1)) (fun hHeld => ?_)
                    clear hK K
                    refine norm_ (a' := ?_) ?_ ?_
                    rotate_left
                    · show Act.put _ (some 40) _ = _
                      simp only [Act.put, List.setIfInBounds_toArray, List.set_cons_zero, List.set_cons_succ, i64_w, i32_w]
                      rfl
                    exact norm_ (by simp only [putAll, Act.put, List.setIfInBounds_toArray, List.set_cons_zero, List.set_cons_succ]) (hCont (x_40, x_44) _ ⟨(by rw [← HY.out.1]; exact (md_at2 (Kd.C_below HI.out HO_2.out.base)).1), (((HO_2.out.front 2 rfl).front 1 rfl).front 2 rfl)⟩)
                rintro ⟨x_40, x_44⟩ wj_5 ⟨hHeld, ho⟩
                obtain ⟨A_44, c_44, rfl⟩ := ho.row_slice 0 rfl
                have HOJ_5 := Aside0.mk ho
                clear ho
                refine norm_ (a' := ?_) ?_ ?_
                rotate_left
                · simp only [putAll, Act.put, List.setIfInBounds_toArray, List.set_cons_zero, List.set_cons_succ]
                  rfl
                refine one_ (i := 8) (N := some 45) #[true, true, true, true, true, true, true, true, true, true, true, true, false, false] rfl rfl (by kernel_rfl) (by decide) (fun K hK => ?_)
                refine Sep.own_append_all_step (Value.int .i64) (0 : Int) HOJ_5.out 1 _ ((o.take q.toNat)) 3 rfl (by rfl) (.tmp 40) (.tmp 44) 24 (.int .i64 0) 8 rfl Try.underlying24 info3 rfl (by omega) ([y0]) A_44 1 c_44 rfl rfl (HOJ_5.out.row_reads 0 rfl).2.2 (by have := HTL.out; have := HQB.out; have := HLL.out; omega) ?_
                intro x_45 w_53 ho
                have HO_53 := Aside0.mk ho
                clear ho
                refine hK.out _ _ ((by rw [← HY.out.1]; exact (md_at2 (Kd.C_below HI.out HO_53.out.base)).1)) (fun hHeld => ?_)
                clear hK K
                refine norm_ (a' := ?_) ?_ ?_
                rotate_left
                · show Act.put _ (some 45) _ = _
                  simp only [Act.put, List.setIfInBounds_toArray, List.set_cons_zero, List.set_cons_succ, i64_w, i32_w]
                  rfl
                refine one_ (i := 12) (N := some 49) #[true, true, true, true, true, true, true, true, true, true, true, true, true, false] rfl rfl (by kernel_rfl) (by decide) (fun K hK => ?_)
                refine Sep.own_append_all_step (Value.int .i64) (0 : Int) HO_53.out 1 _ (((o.take q.toNat)) ++ ([y0])) 3 rfl (by rfl) (.tmp 45) (.tmp 48) 24 (.int .i64 0) 8 rfl Try.underlying24 info3 rfl (by omega) (o.drop q.toNat) Ad ((o.length - q.toNat)) ((co - q.toNat)) rfl rfl (HT2.out _ (HO_53.out.row_reads 2 rfl).2.2) (by have := HTL.out; have := HQB.out; have := HLL.out; simp only [List.length_append, List.length_singleton]; omega) ?_
                intro x_49 w_54 ho
                have HO_54 := Aside0.mk ho
                clear ho
                refine hK.out _ _ ((by rw [← HY.out.1]; exact (md_at2 (Kd.C_below HI.out HO_54.out.base)).1)) (fun hHeld => ?_)
                clear hK K
                refine norm_ (a' := ?_) ?_ ?_
                rotate_left
                · show Act.put _ (some 49) _ = _
                  simp only [Act.put, List.setIfInBounds_toArray, List.set_cons_zero, List.set_cons_succ, i64_w, i32_w]
                  rfl
                refine pure_ (i := 13) (N := some 5) (v := ?_) (a' := ?_) #[true, true, true, true, true, true, true, true, true, true, true, true, true, true] rfl rfl (by kernel_rfl) (fun _ _ _ h => h) (Or.inl ⟨by rfl, ?_⟩) ?_ ?_
                rotate_left
                · intro w'
                  go_simp
                  with_reducible rfl
                rotate_left
                · simp only [Act.put, List.setIfInBounds_toArray, List.set_cons_zero, List.set_cons_succ, i64_w, i32_w]
                  rfl
                refine done_ (by kernel_rfl) ?_
                go_wp2
                go_roundw
                case measure => simp only [intOf, hwj]; omega
                case rel => exact ⟨j + 1, mdIns id o y0, by omega, by omega, by first | rfl | rw [hwj], HJ2, ⟨by rw [mdIns_length]; have := HOL.out; omega⟩, ⟨by rw [HINS.out]; exact (((HO_54.out.front 1 rfl).front 2 rfl).front 2 rfl).tail.tail⟩⟩
            · have c3b := decide_eq_false c3
              have HQ3 := Aside0.mk (show mdK id o y0 o.length = q.toNat by have e := HQ.out; rw [show q.toNat = 0 by omega] at e ⊢; rw [← e, mdK])
              have HOC := Aside0.mk (HO.out.row_reads 0 rfl).2.1
              have HQB := Aside0.mk (show q.toNat ≤ o.length by omega)
              have HTL := Aside0.mk (show (o.take q.toNat).length = q.toNat by rw [List.length_take]; omega)
              obtain ⟨ht1, ht2, ht3⟩ := print_take_of (P := Try.prog) (Value.int .i64) (0 : Int) 24 3 .i64 Try.underlying24 HIN.out HSZ.out Ao co o q hq0 (by omega) HOC.out
              obtain ⟨Ad, hd1, hd2, hd3⟩ := print_drop_of (P := Try.prog) (Value.int .i64) (0 : Int) 24 3 .i64 Try.underlying24 HIN.out HSZ.out Ao co o q hq0 (by omega) HOC.out
              have HT1 := Aside0.mk (show ∀ w1 : World, Kd.C (Kd.int .i64) w1 Ao o.length o → Kd.C (Kd.int .i64) w1 Ao q.toNat (o.take q.toNat) from fun w1 h => by have e := Kd.C_of_reads (h1 := fun _ => rfl) (ht2 w1 (Kd.reads_of_C h)); rw [HTL.out] at e; exact e)
              have HT2 := Aside0.mk (show ∀ w1 : World, Kd.C (Kd.int .i64) w1 Ao o.length o → Kd.C (Kd.int .i64) w1 Ad (o.length - q.toNat) (o.drop q.toNat) from fun w1 h => by have e := Kd.C_of_reads (h1 := fun _ => rfl) (hd2 w1 (Kd.reads_of_C h)); rw [List.length_drop] at e; exact e)
              have HOWN := Aside0.mk (show spec_l1Own.f (o.take q.toNat) = some (o.take q.toNat) from by unfold spec_l1Own.f; simp only [Option.bind_some, List.length_nil, Nat.zero_add, List.nil_append]; rw [if_pos (by rw [List.length_take]; have := HOL.out; have := HL.out; omega)])
              have HINS := Aside0.mk (show mdIns id o y0 = o.take q.toNat ++ [y0] ++ o.drop q.toNat from by unfold mdIns; rw [show mdK id o (id y0) o.length = q.toNat from HQ3.out])
              have HNL := Aside0.mk (show (o.take q.toNat).length + (o.drop q.toNat).length = o.length by rw [← List.length_append, List.take_append_drop])
              have HLL := Aside0.mk (show o.length ≤ 1000 by have := HOL.out; have := HL.out; omega)
              clear ht2 ht3 hd2 hd3
              (try clear hol hll)
              go_wp2
              have HD_7_2 := Aside0.mk (HO.out.drew)
              refine start_ (n := 13) (S := fun w' => True) (ds := []) #[false, false, false, false, false, false, false, false, false, false, false, false, false] (by kernel_rfl) rfl rfl trivial (fun hHeld => ?_)
              generalize wr.drew = wd_7_3 at HD_7_2 ⊢
              refine pure_ (i := 0) (N := some 22) (v := ?_) (a' := ?_) #[true, false, false, false, false, false, false, false, false, false, false, false, false] rfl rfl (by kernel_rfl) (fun _ _ _ h => h) (Or.inl ⟨by rfl, ?_⟩) ?_ ?_
              rotate_left
              · intro w'
                go_simp
                with_reducible rfl
              rotate_left
              · simp only [Act.put, List.setIfInBounds_toArray, List.set_cons_zero, List.set_cons_succ, i64_w, i32_w]
                rfl
              refine pure_ (i := 1) (N := some 23) (v := ?_) (a' := ?_) #[true, true, false, false, false, false, false, false, false, false, false, false, false] rfl rfl (by kernel_rfl) (fun _ _ _ h => h) (Or.inl ⟨by rfl, ?_⟩) ?_ ?_
              rotate_left
              · intro w'
                go_simp
                with_reducible rfl
              rotate_left
              · simp only [Act.put, List.setIfInBounds_toArray, List.set_cons_zero, List.set_cons_succ, i64_w, i32_w]
                rfl
              refine pure_ (i := 2) (N := some 24) (v := ?_) (a' := ?_) #[true, true, true, false, false, false, false, false, false, false, false, false, false] rfl rfl (by kernel_rfl) (fun _ _ _ h => h) (Or.inl ⟨by rfl, ?_⟩) ?_ ?_
              rotate_left
              · intro w'
                go_simp
                with_reducible rfl
              rotate_left
              · simp only [Act.put, List.setIfInBounds_toArray, List.set_cons_zero, List.set_cons_succ, i64_w, i32_w]
                rfl
              refine pure_ (i := 3) (N := some 25) (v := undef) (a' := ?_) #[true, true, true, true, false, false, false, false, false, false, false, false, false] rfl rfl (by kernel_rfl) (fun _ _ _ h => h) (Or.inr ⟨by rfl, rfl⟩) ?_ ?_
              rotate_left
              · simp only [Act.put, List.setIfInBounds_toArray, List.set_cons_zero, List.set_cons_succ, i64_w, i32_w]
                rfl
              refine pure_ (i := 4) (N := some 26) (v := undef) (a' := ?_) #[true, true, true, true, true, false, false, false, false, false, false, false, false] rfl rfl (by kernel_rfl) (fun _ _ _ h => h) (Or.inr ⟨by rfl, rfl⟩) ?_ ?_
              rotate_left
              · simp only [Act.put, List.setIfInBounds_toArray, List.set_cons_zero, List.set_cons_succ, i64_w, i32_w]
                rfl
              refine pure_ (i := 5) (N := some 27) (v := undef) (a' := ?_) #[true, true, true, true, true, true, false, false, false, false, false, false, false] rfl rfl (by kernel_rfl) (fun _ _ _ h => h) (Or.inr ⟨by rfl, rfl⟩) ?_ ?_
              rotate_left
              · simp only [Act.put, List.setIfInBounds_toArray, List.set_cons_zero, List.set_cons_succ, i64_w, i32_w]
                rfl
              refine pure_ (i := 6) (N := some 28) (v := undef) (a' := ?_) #[true, true, true, true, true, true, true, false, false, false, false, false, false] rfl rfl (by kernel_rfl) (fun _ _ _ h => h) (Or.inr ⟨by rfl, rfl⟩) ?_ ?_
              rotate_left
              · simp only [Act.put, List.setIfInBounds_toArray, List.set_cons_zero, List.set_cons_succ, i64_w, i32_w]
                rfl
              refine pure_ (i := 7) (N := some 29) (v := undef) (a' := ?_) #[true, true, true, true, true, true, true, true, false, false, false, false, false] rfl rfl (by kernel_rfl) (fun _ _ _ h => h) (Or.inr ⟨by rfl, rfl⟩) ?_ ?_
              rotate_left
              · simp only [Act.put, List.setIfInBounds_toArray, List.set_cons_zero, List.set_cons_succ, i64_w, i32_w]
                rfl
              refine pure_ (i := 8) (N := some 30) (v := undef) (a' := ?_) #[true, true, true, true, true, true, true, true, true, false, false, false, false] rfl rfl (by kernel_rfl) (fun _ _ _ h => h) (Or.inr ⟨by rfl, rfl⟩) ?_ ?_
              rotate_left
              · simp only [Act.put, List.setIfInBounds_toArray, List.set_cons_zero, List.set_cons_succ, i64_w, i32_w]
                rfl
              refine pure_ (i := 9) (N := some 31) (v := undef) (a' := ?_) #[true, true, true, true, true, true, true, true, true, true, false, false, false] rfl rfl (by kernel_rfl) (fun _ _ _ h => h) (Or.inr ⟨by rfl, rfl⟩) ?_ ?_
              rotate_left
              · simp only [Act.put, List.setIfInBounds_toArray, List.set_cons_zero, List.set_cons_succ, i64_w, i32_w]
                rfl
              refine pure_ (i := 10) (N := some 32) (v := undef) (a' := ?_) #[true, true, true, true, true, true, true, true, true, true, true, false, false] rfl rfl (by kernel_rfl) (fun _ _ _ h => h) (Or.inr ⟨by rfl, rfl⟩) ?_ ?_
              rotate_left
              · simp only [Act.put, List.setIfInBounds_toArray, List.set_cons_zero, List.set_cons_succ, i64_w, i32_w]
                rfl
              refine pure_ (i := 11) (N := some 33) (v := undef) (a' := ?_) #[true, true, true, true, true, true, true, true, true, true, true, true, false] rfl rfl (by kernel_rfl) (fun _ _ _ h => h) (Or.inr ⟨by rfl, rfl⟩) ?_ ?_
              rotate_left
              · simp only [Act.put, List.setIfInBounds_toArray, List.set_cons_zero, List.set_cons_succ, i64_w, i32_w]
                rfl
              refine pure_ (i := 12) (N := some 34) (v := ?_) (a' := ?_) #[true, true, true, true, true, true, true, true, true, true, true, true, true] rfl rfl (by kernel_rfl) (fun _ _ _ h => h) (Or.inl ⟨by rfl, ?_⟩) ?_ ?_
              rotate_left
              · intro w'
                go_simp
                with_reducible rfl
              rotate_left
              · simp only [Act.put, List.setIfInBounds_toArray, List.set_cons_zero, List.set_cons_succ, i64_w, i32_w]
                rfl
              refine done_ (by kernel_rfl) ?_
              go_wp2
              have HD_9_3 := Aside0.mk (HD_7_2.out.drew)
              refine start_ (n := 14) (S := fun w' => w'.cell? aw = some (.int .i64 y0)) (ds := []) #[false, false, false, false, false, false, false, false, false, false, false, false, false, false] (by kernel_rfl) rfl rfl ((by rw [← HY.out.1]; exact (md_at2 (Kd.C_below HI.out HD_9_3.out.base)).1)) (fun hHeld => ?_)
              generalize wd_7_3.drew = wd_9_4 at HD_9_3 hHeld ⊢
              refine pure_ (i := 0) (N := some 37) (v := ?_) (a' := ?_) #[true, false, false, false, false, false, false, false, false, false, false, false, false, false] rfl rfl (by kernel_rfl) (fun _ _ _ h => h) (Or.inl ⟨by rfl, ?_⟩) ?_ ?_
              rotate_left
              · intro w'
                go_simp
                with_reducible rfl
              rotate_left
              · simp only [Act.put, List.setIfInBounds_toArray, List.set_cons_zero, List.set_cons_succ, i64_w, i32_w]
                rfl
              refine pure_ (i := 1) (N := some 38) (v := ?_) (a' := ?_) #[true, true, false, false, false, false, false, false, false, false, false, false, false, false] rfl rfl (by kernel_rfl) (fun _ _ _ h => h) (Or.inl ⟨by rfl, ?_⟩) ?_ ?_
              rotate_left
              · intro w'
                go_simp
                with_reducible rfl
              rotate_left
              · simp only [Act.put, List.setIfInBounds_toArray, List.set_cons_zero, List.set_cons_succ, i64_w, i32_w]
                rfl
              refine pure_ (i := 2) (N := some 39) (v := ?_) (a' := ?_) #[true, true, true, false, false, false, false, false, false, false, false, false, false, false] rfl rfl (by kernel_rfl) (fun _ _ _ h => h) (Or.inl ⟨by rfl, ?_⟩) ?_ ?_
              rotate_left
              · intro w'
                go_simp
                with_reducible rfl
              rotate_left
              · simp only [Act.put, List.setIfInBounds_toArray, List.set_cons_zero, List.set_cons_succ, i64_w, i32_w]
                rfl
              refine pure_ (i := 4) (N := some 41) (v := ?_) (a' := ?_) #[true, true, true, false, true, false, false, false, false, false, false, false, false, false] rfl rfl (by kernel_rfl) (fun _ _ _ h => h) (Or.inl ⟨by rfl, ?_⟩) ?_ ?_
              rotate_left
              · intro w'
                go_simp
                with_reducible rfl
              rotate_left
              · simp only [Act.put, List.setIfInBounds_toArray, List.set_cons_zero, List.set_cons_succ, i64_w, i32_w]
                rfl
              refine pure_ (i := 5) (N := some 42) (v := ?_) (a' := ?_) #[true, true, true, false, true, true, false, false, false, false, false, false, false, false] rfl rfl (by kernel_rfl) (fun _ _ _ h => h) (Or.inl ⟨by rfl, ?_⟩) ?_ ?_
              rotate_left
              · intro w'
                go_simp
                with_reducible rfl
              rotate_left
              · simp only [Act.put, List.setIfInBounds_toArray, List.set_cons_zero, List.set_cons_succ, i64_w, i32_w]
                rfl
              refine pure_ (i := 9) (N := some 46) (v := ?_) (a' := ?_) #[true, true, true, false, true, true, false, false, false, true, false, false, false, false] rfl rfl (by kernel_rfl) (fun _ _ _ h => h) (Or.inl ⟨by rfl, ?_⟩) ?_ ?_
              rotate_left
              · intro w'
                go_simp
                with_reducible rfl
              rotate_left
              · simp only [Act.put, List.setIfInBounds_toArray, List.set_cons_zero, List.set_cons_succ, i64_w, i32_w]
                rfl
              refine pure_ (i := 10) (N := some 47) (v := ?_) (a' := ?_) #[true, true, true, false, true, true, false, false, false, true, true, false, false, false] rfl rfl (by kernel_rfl) (fun _ _ _ h => h) (Or.inl ⟨by rfl, ?_⟩) ?_ ?_
              rotate_left
              · intro w'
                go_simp
                with_reducible rfl
              rotate_left
              · simp only [Act.put, List.setIfInBounds_toArray, List.set_cons_zero, List.set_cons_succ, i64_w, i32_w]
                rfl
              refine pure_ (i := 11) (N := some 48) (v := ?_) (a' := ?_) #[true, true, true, false, true, true, false, false, false, true, true, true, false, false] rfl rfl (by kernel_rfl) (fun _ _ _ h => h) (Or.inl ⟨by rfl, ?_⟩) ?_ ?_
              rotate_left
              · intro w'
                go_simp
                with_reducible rfl
              rotate_left
              · simp only [Act.put, List.setIfInBounds_toArray, List.set_cons_zero, List.set_cons_succ, i64_w, i32_w]
                rfl
              refine take_ (i := 6) (N := some 43) (v := ?_) (a' := ?_) #[true, true, true, false, true, true, true, false, false, true, true, true, false, false] rfl rfl (by kernel_rfl) (fun _ _ _ h => h) (Or.inl ⟨by rfl, ?_⟩) hHeld ?_ ?_
              rotate_left
              · intro w' s0
                go_simp
                with_reducible rfl
              rotate_left
              · simp only [Act.put, List.setIfInBounds_toArray, List.set_cons_zero, List.set_cons_succ, i64_w, i32_w]
                rfl
              refine join_ (σ := Value × Value) 3 #[true, true, true, true, true, true, true, true, false, true, true, true, false, false] (fun s => [(40, s.1), (44, s.2)]) (fun s w' => (w'.cell? aw = some (.int .i64 y0)) ∧ Own w w' [Item.row (Kd.int .i64) 3 (s.2) ([y0]), Item.row (Kd.int .i64) 3 (s.1) ((o.take q.toNat)), Item.row (Kd.int .i64) 3 (.slice Ao o.length co) (o)]) ?_ ?_
              rotate_left
              · intro hCont
                refine two_ (i := 3) (j := 7) (Ni := some 40) (Nj := some 44) #[true, true, true, true, true, true, true, false, false, true, true, true, false, false] #[true, true, true, false, true, true, true, true, false, true, true, true, false, false] rfl rfl rfl rfl (by kernel_rfl) (by decide) (by decide) (fun K hK => ?_) (fun K hK => ?_)
                · skip
                  refine goes_ Try.func16 (by kernel_rfl) rfl #[.slice Ao q.toNat co] (by rfl) rfl rfl (by simp only [List.map_toArray, List.map_cons, List.map_nil]; rfl) ?_
                  have hc_ := spec_l1Own.calls Ao co (o.take q.toNat) (o.take q.toNat) _ (by rw [HTL.out]; exact HT1.out _ (HD_9_3.out.row_reads 0 rfl).2.2) (by rw [HTL.out]; have := HOC.out; have := HQB.out; omega) HOWN.out
                  rw [HTL.out] at hc_
                  refine hc_.mono ?_
                  rintro e w_1 ⟨x_40, rfl, hR, hb⟩
                  refine ⟨_, rfl, ?_⟩
                  have HO_1 := Aside0.mk (HD_9_3.out.add_row hR hb)
                  clear hR hb hc_
                  refine hK.out _ _ ((by rw [← HY.out.1]; exact (md_at2 (Kd.C_below HI.out HO_1.out.base)).1)) (fun hHeld => ?_)
                  clear hK K
                  refine norm_ (a' := ?_) ?_ ?_
                  rotate_left
                  · show Act.put _ (some 40) _ = _
                    simp only [Act.put, List.setIfInBounds_toArray, List.set_cons_zero, List.set_cons_succ, i64_w, i32_w]
                    rfl
                  refine one_ (i := 7) (N := some 44) #[true, true, true, true, true, true, true, true, false, true, true, true, false, false] rfl rfl (by kernel_rfl) (by decide) (fun K hK => ?_)
                  refine Sep.own_lit1_step (Value.int .i64) (h1 := fun _ => rfl) HO_1.out 3 y0 (by rfl) (N := 44) rfl (by first | (go_simp; done) | (go_simp; rfl)) ?_
                  intro x_44 w_2 ho _
                  have HO_2 := Aside0.mk ho
                  clear ho
                  refine hK.out _ _ ((by rw [← HY.out.1]; exact (md_at2 (Kd.C_below HI.out HO_2.out.base)).1)) (fun hHeld => ?_)
                  clear hK K
                  refine norm_ (a' := ?_) ?_ ?_
                  rotate_left
                  · show Act.put _ (some 44) _ = _
                    simp only [Act.put, List.setIfInBounds_toArray, List.set_cons_zero, List.set_cons_succ, i64_w, i32_w]
                    rfl
                  exact norm_ (by simp only [putAll, Act.put, List.setIfInBounds_toArray, List.set_cons_zero, List.set_cons_succ]) (hCont (x_40, x_44) _ ⟨(by rw [← HY.out.1]; exact (md_at2 (Kd.C_below HI.out HO_2.out.base)).1), (((HO_2.out.front 2 rfl).front 2 rfl).front 2 rfl)⟩)
                · skip
                  refine Sep.own_lit1_step (Value.int .i64) (h1 := fun _ => rfl) HD_9_3.out 3 y0 (by rfl) (N := 44) rfl (by first | (go_simp; done) | (go_simp; rfl)) ?_
                  intro x_44 w_1 ho _
                  have HO_1 := Aside0.mk ho
                  clear ho
                  refine hK.out _ _ ((by rw [← HY.out.1]; exact (md_at2 (Kd.C_below HI.out HO_1.out.base)).1)) (fun hHeld => ?_)
                  clear hK K
                  refine norm_ (a' := ?_) ?_ ?_
                  rotate_left
                  · show Act.put _ (some 44) _ = _
                    simp only [Act.put, List.setIfInBounds_toArray, List.set_cons_zero, List.set_cons_succ, i64_w, i32_w]
                    rfl
                  refine one_ (i := 3) (N := some 40) #[true, true, true, true, true, true, true, true, false, true, true, true, false, false] rfl rfl (by kernel_rfl) (by decide) (fun K hK => ?_)
                  refine goes_ Try.func16 (by kernel_rfl) rfl #[.slice Ao q.toNat co] (by rfl) rfl rfl (by simp only [List.map_toArray, List.map_cons, List.map_nil]; rfl) ?_
                  have hc_ := spec_l1Own.calls Ao co (o.take q.toNat) (o.take q.toNat) _ (by rw [HTL.out]; exact HT1.out _ (HO_1.out.row_reads 1 rfl).2.2) (by rw [HTL.out]; have := HOC.out; have := HQB.out; omega) HOWN.out
                  rw [HTL.out] at hc_
                  refine hc_.mono ?_
                  rintro e w_2 ⟨x_40, rfl, hR, hb⟩
                  refine ⟨_, rfl, ?_⟩
                  have HO_2 := Aside0.mk (HO_1.out.add_row hR hb)
                  clear hR hb hc_
                  refine hK.out _ _ ((by rw [← HY.out.1]; exact (md_at2 (Kd.C_below HI.out HO_2.out.base)).1)) (fun hHeld => ?_)
                  clear hK K
                  refine norm_ (a' := ?_) ?_ ?_
                  rotate_left
                  · show Act.put _ (some 40) _ = _
                    simp only [Act.put, List.setIfInBounds_toArray, List.set_cons_zero, List.set_cons_succ, i64_w, i32_w]
                    rfl
                  exact norm_ (by simp only [putAll, Act.put, List.setIfInBounds_toArray, List.set_cons_zero, List.set_cons_succ]) (hCont (x_40, x_44) _ ⟨(by rw [← HY.out.1]; exact (md_at2 (Kd.C_below HI.out HO_2.out.base)).1), (((HO_2.out.front 2 rfl).front 1 rfl).front 2 rfl)⟩)
              rintro ⟨x_40, x_44⟩ wj_5 ⟨hHeld, ho⟩
              obtain ⟨A_44, c_44, rfl⟩ := ho.row_slice 0 rfl
              have HOJ_5 := Aside0.mk ho
              clear ho
              refine norm_ (a' := ?_) ?_ ?_
              rotate_left
              · simp only [putAll, Act.put, List.setIfInBounds_toArray, List.set_cons_zero, List.set_cons_succ]
                rfl
              refine one_ (i := 8) (N := some 45) #[true, true, true, true, true, true, true, true, true, true, true, true, false, false] rfl rfl (by kernel_rfl) (by decide) (fun K hK => ?_)
              refine Sep.own_append_all_step (Value.int .i64) (0 : Int) HOJ_5.out 1 _ ((o.take q.toNat)) 3 rfl (by rfl) (.tmp 40) (.tmp 44) 24 (.int .i64 0) 8 rfl Try.underlying24 info3 rfl (by omega) ([y0]) A_44 1 c_44 rfl rfl (HOJ_5.out.row_reads 0 rfl).2.2 (by have := HTL.out; have := HQB.out; have := HLL.out; omega) ?_
              intro x_45 w_53 ho
              have HO_53 := Aside0.mk ho
              clear ho
              refine hK.out _ _ ((by rw [← HY.out.1]; exact (md_at2 (Kd.C_below HI.out HO_53.out.base)).1)) (fun hHeld => ?_)
              clear hK K
              refine norm_ (a' := ?_) ?_ ?_
              rotate_left
              · show Act.put _ (some 45) _ = _
                simp only [Act.put, List.setIfInBounds_toArray, List.set_cons_zero, List.set_cons_succ, i64_w, i32_w]
                rfl
              refine one_ (i := 12) (N := some 49) #[true, true, true, true, true, true, true, true, true, true, true, true, true, false] rfl rfl (by kernel_rfl) (by decide) (fun K hK => ?_)
              refine Sep.own_append_all_step (Value.int .i64) (0 : Int) HO_53.out 1 _ (((o.take q.toNat)) ++ ([y0])) 3 rfl (by rfl) (.tmp 45) (.tmp 48) 24 (.int .i64 0) 8 rfl Try.underlying24 info3 rfl (by omega) (o.drop q.toNat) Ad ((o.length - q.toNat)) ((co - q.toNat)) rfl rfl (HT2.out _ (HO_53.out.row_reads 2 rfl).2.2) (by have := HTL.out; have := HQB.out; have := HLL.out; simp only [List.length_append, List.length_singleton]; omega) ?_
              intro x_49 w_54 ho
              have HO_54 := Aside0.mk ho
              clear ho
              refine hK.out _ _ ((by rw [← HY.out.1]; exact (md_at2 (Kd.C_below HI.out HO_54.out.base)).1)) (fun hHeld => ?_)
              clear hK K
              refine norm_ (a' := ?_) ?_ ?_
              rotate_left
              · show Act.put _ (some 49) _ = _
                simp only [Act.put, List.setIfInBounds_toArray, List.set_cons_zero, List.set_cons_succ, i64_w, i32_w]
                rfl
              refine pure_ (i := 13) (N := some 5) (v := ?_) (a' := ?_) #[true, true, true, true, true, true, true, true, true, true, true, true, true, true] rfl rfl (by kernel_rfl) (fun _ _ _ h => h) (Or.inl ⟨by rfl, ?_⟩) ?_ ?_
              rotate_left
              · intro w'
                go_simp
                with_reducible rfl
              rotate_left
              · simp only [Act.put, List.setIfInBounds_toArray, List.set_cons_zero, List.set_cons_succ, i64_w, i32_w]
                rfl
              refine done_ (by kernel_rfl) ?_
              go_wp2
              go_roundw
              case measure => simp only [intOf, hwj]; omega
              case rel => exact ⟨j + 1, mdIns id o y0, by omega, by omega, by first | rfl | rw [hwj], HJ2, ⟨by rw [mdIns_length]; have := HOL.out; omega⟩, ⟨by rw [HINS.out]; exact (((HO_54.out.front 1 rfl).front 2 rfl).front 2 rfl).tail.tail⟩⟩
        · have c2b : (y1 != a1) = true := bne_iff_ne.mpr c2
          rw [if_neg c2] at hjd
          have HJ2 := Aside0.mk hjd
          clear hjd c2
          have z_1 : wr.cell? (ad.add j.toNat) = some (.slice (some aw) 2 cw) := (HX.out _ HO.out.base)
          have z_2 : wr.cell? ⟨aw.block, aw.off + 1, none⟩ = some (.int .i64 y1) := (by rw [← HY.out.2]; exact (md_at2 (Kd.C_below HI.out HO.out.base)).2)
          go_wp2
          go_roundw
          case measure => simp only [intOf, hwj]; omega
          case rel => exact ⟨j + 1, o, by omega, by omega, by first | rfl | rw [hwj], HJ2, ⟨by have := HOL.out; omega⟩, HO⟩
      · have c1b := decide_eq_false hj1
        obtain rfl : j = (l0.length : Int) := by omega
        have hjd := HJ.out
        rw [Int.toNat_natCast, List.drop_length, mdAbove] at hjd
        have HJ2 := Aside0.mk hjd
        clear hjd
        obtain ⟨Ao, co, rfl⟩ := HO.out.row_slice 0 rfl
        by_cases c2 : o = []
        · have HR2 := Aside0.mk (show mdMidS l0 a1 = -1 from by unfold mdMidS; rw [← HJ2.out, if_pos c2])
          subst c2
          clear HJ HJ2 HOL
          (try rw [List.length_nil] at HO)
          go_wp2
          go_ret
          exact ⟨by rw [HR2.out]; rfl, HO.out.base⟩
        · have hpos : 0 < o.length := List.length_pos_iff.mpr c2
          have c2b : ((o.length : Int) == 0) = false := beq_eq_false_iff_ne.mpr (by omega)
          have HR2 := Aside0.mk (show mdMidS l0 a1 = rd o ((o.length / 2 : Nat) : Int) from by unfold mdMidS; rw [← HJ2.out, if_neg c2])
          have hdv : Int.tdiv (o.length : Int) 2 = ((o.length / 2 : Nat) : Int) := by rw [Int.tdiv_eq_ediv_of_nonneg (by omega)]; rfl
          obtain ⟨hm, hhm⟩ : ∃ hm : Int, hm = ((o.length / 2 : Nat) : Int) := ⟨_, rfl⟩
          rw [← hhm] at HR2 hdv
          have hm0 : 0 ≤ hm := by omega
          have hm1 : hm < (o.length : Int) := by omega
          have p3 : (0 ≤ hm) = True := eq_true hm0
          have q3 : (hm < (o.length : Int)) = True := eq_true hm1
          have hwd : wrap64 hm = hm := by have := HOL.out; have := HL.out; unfold wrap64; omega
          obtain ⟨gq, cq, hsv⟩ := Sep.own_row_form HO.out 0 rfl hpos
          injection hsv with ha hb hc
          subst ha
          subst hc
          obtain ⟨z, hz⟩ : ∃ z, rd o hm = z := ⟨_, rfl⟩
          have HZ := Aside0.mk hz
          have HM := Aside0.mk (And.intro hm0 hm1)
          clear hb hz c2 hhm hm0 hm1 hpos
          have z_1 : wr.cell? ⟨gq, hm.toNat, none⟩ = some (.int .i64 z) := (by have e := (Sep.own_row_cell (0 : Int) HO.out 0 rfl hm HM.out.1 HM.out.2).1; rw [show rdOf 0 o hm = z from HZ.out] at e; exact e)
          go_wp2
          go_ret
          exact ⟨by rw [HR2.out, HZ.out]; rfl, HO.out.base⟩
  · cases h

end Go.Proofs.Ytanpidphaanjiaa.QFnExactMiddleOrder
